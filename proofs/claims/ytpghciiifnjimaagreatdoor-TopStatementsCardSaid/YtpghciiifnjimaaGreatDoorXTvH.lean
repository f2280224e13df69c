/- Texts laid together: TvH. -/
import Derived.Test.YtpghciiifnjimaaGreatDoorXTvD
import Derived.Test.YtpghciiifnjimaaGreatDoorXK0
namespace Go.Proofs.YtpghciiifnjimaaGreatDoor
set_option maxRecDepth 4000
set_option linter.unusedSimpArgs false
set_option linter.unusedVariables false
open Go.RowKit
def orI (a b : Int) : Int := if a ≠ 0 then a else b
theorem or_any (g : Nat) (a b : Int) (w : World) (h : w.heap[g]? = some (.cells #[.int .i64 a, .int .i64 b] 3 (0, 0))) : Calls Tryz.prog 223 #[.slice (some ⟨g, 0, none⟩) 2 2] w fun e w' => e = .returned (.int .i64 (orI a b)) ∧ w' = w := by
 have h0 := cell_of_cells h 0
 have h1 := cell_of_cells h 1
 simp at h0 h1
 clear h
 go_enter Tryz.func223, Tryz.ntmps223
 go_wp2_with fail
 refine wp_loopN 3 ?_
 unfold LoopN
 by_cases ha : a = 0
 ·subst ha
  have HE := hide (show orI 0 b = b from rfl)
  go_wp2_with fail
  unfold LoopN
  by_cases hb : b = 0
  ·subst hb
   go_wp2_with fail
   unfold LoopN
   go_wp2_with fail
   go_ret
   exact ⟨rfl, rfl⟩
  ·have d : (b == 0) = false := by simpa using hb
   clear hb
   go_wp2_with fail
   go_ret
   exact ⟨by rw [HE.out]; rfl, rfl⟩
 ·have HE := hide (show orI a b = a from if_pos ha)
  have d : (a == 0) = false := by simpa using ha
  clear ha
  go_wp2_with fail
  go_ret
  exact ⟨by rw [HE.out]; rfl, rfl⟩
/-- How two legs compare. -/
def cmpL (a1 : Int) (s1 : ByteArray) (a2 : Int) (s2 : ByteArray) : Int := orI (cmpI a1 a2) (cmpS s1 s2)
set_option maxHeartbeats 4000000 in
theorem compare_any (a1 n1 a2 n2 : Int) (s1 s2 : ByteArray) (w : World) : Calls Tryz.prog 178 #[.agg #[.int .i64 a1, .int .i64 n1, .string s1], .agg #[.int .i64 a2, .int .i64 n2, .string s2]] w fun e w' => e = .returned (.int .i64 (cmpL a1 s1 a2 s2)) ∧ Below w.heap.size w w' := by
 obtain ⟨x, hx⟩ : ∃ x, x = cmpI a1 a2 := ⟨_, rfl⟩
 obtain ⟨y, hy⟩ : ∃ y, y = cmpS s1 s2 := ⟨_, rfl⟩
 have HC1 := hide (fun W => by have h := cmpI_any a1 a2 W; rw [← hx] at h; exact h)
 have HC2 := hide (fun W => by have h := cmpS_any s1 s2 W; rw [← hy] at h; exact h)
 have HE := hide (show cmpL a1 s1 a2 s2 = orI x y from by rw [hx, hy]; rfl)
 clear hx hy
 go_enter Tryz.func178, Tryz.ntmps178
 go_wp2_with fail
 refine ord_start (SB (w.heap.size + 2) [] _) 13 (preB 0 13) (by kernel_rfl) (by kernel_rfl) (by kernel_rfl) SB.refl.drew (fun hHeld => ?_)
 refine oS (i := 0) (preB 1 12) rfl hHeld ?_
 (try simp only [Act.put, putS])
 refine oS (i := 1) (preB 2 11) rfl hHeld ?_
 (try simp only [Act.put, putS])
 refine oS (i := 2) (preB 3 10) rfl hHeld ?_
 (try simp only [Act.put, putS])
 refine oS (i := 3) (preB 4 9) rfl hHeld ?_
 (try simp only [Act.put, putS])
 refine oS (i := 5) #[true, true, true, true, false, true, false, false, false, false, false, false, false] rfl hHeld ?_
 (try simp only [Act.put, putS])
 refine oS (i := 6) #[true, true, true, true, false, true, true, false, false, false, false, false, false] rfl hHeld ?_
 (try simp only [Act.put, putS])
 refine oS (i := 7) #[true, true, true, true, false, true, true, true, false, false, false, false, false] rfl hHeld ?_
 (try simp only [Act.put, putS])
 refine oS (i := 8) #[true, true, true, true, false, true, true, true, true, false, false, false, false] rfl hHeld ?_
 (try simp only [Act.put, putS])
 refine wpAnyH_ready (rs := [4]) (by kernel_rfl) (by simp) ?_
 refine ord_run (i := 4) (preB 9 4) rfl (by kernel_rfl) (by rfl) (fun K hK => ?_) AllReadyH.nil
 go_simp
 go_wp2_with (go_at_call 224; refine (HC1.out _).mono ?_; rintro r wc ⟨rfl, rfl⟩)
 refine hK.out _ _ ?_ (fun hHeld => ?_)
 ·(repeat (first | (with_reducible exact SB.refl) | (with_reducible exact hHeld) | (with_reducible assumption) | (with_reducible refine SB.drew ?_) | (with_reducible refine SB.drewN ?_ _) | ((with_reducible refine SB.alloc ?_ ?_ _); (rotate_left); (first | omega | (simp <;> omega))) | ((with_reducible refine SB.setCell ?_ ?_ _); (rotate_left); (focus (first | (simp; done) | (right; first | omega | (simp <;> omega))))) | ((with_reducible refine SB.below ?_ hbS ?_); (rotate_left); (first | omega | (simp <;> omega))) | ((with_reducible refine SB.below ?_ hbS1 ?_); (rotate_left); (first | omega | (simp <;> omega))) | ((with_reducible refine SB.below ?_ hbS2 ?_); (rotate_left); (first | omega | (simp <;> omega))) | ((with_reducible refine SB.below ?_ hbS3 ?_); (rotate_left); (first | omega | (simp <;> omega))) | ((with_reducible refine SB.below ?_ hbS4 ?_); (rotate_left); (first | omega | (simp <;> omega))) | ((with_reducible refine SB.below ?_ hbS5 ?_); (rotate_left); (first | omega | (simp <;> omega))) | ((with_reducible refine SB.below ?_ hbS6 ?_); (rotate_left); (first | omega | (simp <;> omega))) | ((with_reducible refine SB.below ?_ hbS7 ?_); (rotate_left); (first | omega | (simp <;> omega))) | (with_reducible refine SB.undrew ?_) | ((with_reducible refine SB.congr ?_ ?_); (rotate_left); (focus (simp; done))) | ((with_reducible refine SB.realloc ?_ ?_ ?_); (rotate_left); (focus (simp; done)); (focus (simp; done)))))
 clear hK K
 (try simp only [Act.put, putS])
 refine wpAnyH_ready (rs := [9]) (by kernel_rfl) (by simp) ?_
 refine ord_run (i := 9) (preB 10 3) rfl (by kernel_rfl) (by rfl) (fun K hK => ?_) AllReadyH.nil
 go_simp
 go_wp2_with (go_at_call 121; refine (HC2.out _).mono ?_; rintro r wc ⟨rfl, rfl⟩)
 refine hK.out _ _ ?_ (fun hHeld => ?_)
 ·(repeat (first | (with_reducible exact SB.refl) | (with_reducible exact hHeld) | (with_reducible assumption) | (with_reducible refine SB.drew ?_) | (with_reducible refine SB.drewN ?_ _) | ((with_reducible refine SB.alloc ?_ ?_ _); (rotate_left); (first | omega | (simp <;> omega))) | ((with_reducible refine SB.setCell ?_ ?_ _); (rotate_left); (focus (first | (simp; done) | (right; first | omega | (simp <;> omega))))) | ((with_reducible refine SB.below ?_ hbS ?_); (rotate_left); (first | omega | (simp <;> omega))) | ((with_reducible refine SB.below ?_ hbS1 ?_); (rotate_left); (first | omega | (simp <;> omega))) | ((with_reducible refine SB.below ?_ hbS2 ?_); (rotate_left); (first | omega | (simp <;> omega))) | ((with_reducible refine SB.below ?_ hbS3 ?_); (rotate_left); (first | omega | (simp <;> omega))) | ((with_reducible refine SB.below ?_ hbS4 ?_); (rotate_left); (first | omega | (simp <;> omega))) | ((with_reducible refine SB.below ?_ hbS5 ?_); (rotate_left); (first | omega | (simp <;> omega))) | ((with_reducible refine SB.below ?_ hbS6 ?_); (rotate_left); (first | omega | (simp <;> omega))) | ((with_reducible refine SB.below ?_ hbS7 ?_); (rotate_left); (first | omega | (simp <;> omega))) | (with_reducible refine SB.undrew ?_) | ((with_reducible refine SB.congr ?_ ?_); (rotate_left); (focus (simp; done))) | ((with_reducible refine SB.realloc ?_ ?_ ?_); (rotate_left); (focus (simp; done)); (focus (simp; done)))))
 clear hK K
 (try simp only [Act.put, putS])
 refine wpAnyH_ready (rs := [10]) (by kernel_rfl) (by simp) ?_
 refine ord_run (i := 10) (preB 11 2) rfl (by kernel_rfl) (by rfl) (fun K hK => ?_) AllReadyH.nil
 go_simp
 refine hK.out _ _ ?_ (fun hHeld => ?_)
 ·(repeat (first | (with_reducible exact SB.refl) | (with_reducible exact hHeld) | (with_reducible assumption) | (with_reducible refine SB.drew ?_) | (with_reducible refine SB.drewN ?_ _) | ((with_reducible refine SB.alloc ?_ ?_ _); (rotate_left); (first | omega | (simp <;> omega))) | ((with_reducible refine SB.setCell ?_ ?_ _); (rotate_left); (focus (first | (simp; done) | (right; first | omega | (simp <;> omega))))) | ((with_reducible refine SB.below ?_ hbS ?_); (rotate_left); (first | omega | (simp <;> omega))) | ((with_reducible refine SB.below ?_ hbS1 ?_); (rotate_left); (first | omega | (simp <;> omega))) | ((with_reducible refine SB.below ?_ hbS2 ?_); (rotate_left); (first | omega | (simp <;> omega))) | ((with_reducible refine SB.below ?_ hbS3 ?_); (rotate_left); (first | omega | (simp <;> omega))) | ((with_reducible refine SB.below ?_ hbS4 ?_); (rotate_left); (first | omega | (simp <;> omega))) | ((with_reducible refine SB.below ?_ hbS5 ?_); (rotate_left); (first | omega | (simp <;> omega))) | ((with_reducible refine SB.below ?_ hbS6 ?_); (rotate_left); (first | omega | (simp <;> omega))) | ((with_reducible refine SB.below ?_ hbS7 ?_); (rotate_left); (first | omega | (simp <;> omega))) | (with_reducible refine SB.undrew ?_) | ((with_reducible refine SB.congr ?_ ?_); (rotate_left); (focus (simp; done))) | ((with_reducible refine SB.realloc ?_ ?_ ?_); (rotate_left); (focus (simp; done)); (focus (simp; done)))))
 clear hK K
 (try simp only [Act.put, putS])
 refine wpAnyH_ready (rs := [11]) (by kernel_rfl) (by simp) ?_
 refine ord_run (i := 11) (preB 12 1) rfl (by kernel_rfl) (by rfl) (fun K hK => ?_) AllReadyH.nil
 go_simp
 go_wp2_with (go_at_call 223; refine (or_any _ x y _ (blk_drew (blk_new (by simp)))).mono ?_; rintro r wc ⟨rfl, rfl⟩)
 refine hK.out _ _ ?_ (fun hHeld => ?_)
 ·(repeat (first | (with_reducible exact SB.refl) | (with_reducible exact hHeld) | (with_reducible assumption) | (with_reducible refine SB.drew ?_) | (with_reducible refine SB.drewN ?_ _) | ((with_reducible refine SB.alloc ?_ ?_ _); (rotate_left); (first | omega | (simp <;> omega))) | ((with_reducible refine SB.setCell ?_ ?_ _); (rotate_left); (focus (first | (simp; done) | (right; first | omega | (simp <;> omega))))) | ((with_reducible refine SB.below ?_ hbS ?_); (rotate_left); (first | omega | (simp <;> omega))) | ((with_reducible refine SB.below ?_ hbS1 ?_); (rotate_left); (first | omega | (simp <;> omega))) | ((with_reducible refine SB.below ?_ hbS2 ?_); (rotate_left); (first | omega | (simp <;> omega))) | ((with_reducible refine SB.below ?_ hbS3 ?_); (rotate_left); (first | omega | (simp <;> omega))) | ((with_reducible refine SB.below ?_ hbS4 ?_); (rotate_left); (first | omega | (simp <;> omega))) | ((with_reducible refine SB.below ?_ hbS5 ?_); (rotate_left); (first | omega | (simp <;> omega))) | ((with_reducible refine SB.below ?_ hbS6 ?_); (rotate_left); (first | omega | (simp <;> omega))) | ((with_reducible refine SB.below ?_ hbS7 ?_); (rotate_left); (first | omega | (simp <;> omega))) | (with_reducible refine SB.undrew ?_) | ((with_reducible refine SB.congr ?_ ?_); (rotate_left); (focus (simp; done))) | ((with_reducible refine SB.realloc ?_ ?_ ?_); (rotate_left); (focus (simp; done)); (focus (simp; done)))))
 clear hK K
 (try simp only [Act.put, putS])
 refine oS (i := 12) (preB 13 0) rfl hHeld ?_
 (try simp only [Act.put, putS])
 refine wpAnyH_done (by kernel_rfl) ?_ _
 (go_wp2_with fail; go_ret; exact ⟨by rw [HE.out]; rfl, by (repeat (first | (with_reducible first | exact Below.refl _ _ | assumption | refine Below.drew ?_) | ((with_reducible first | refine Below.alloc ?_ ?_ _ | refine Below.setCell ?_ ?_ _); rotate_left; (first | omega | (simp <;> omega)))))⟩)
abbrev legR (ac am : Nat → Int) (s : Nat → ByteArray) (k j : Nat) : Value := if j = 0 then .int .i64 (ac k) else if j = 1 then .int .i64 (am k) else .string (s k)
set_option maxHeartbeats 4000000 in
theorem bsL_any (A : Option Addr) (n c : Nat) (ac am : Nat → Int) (s : Nat → ByteArray) (xa xm : Int) (xs : ByteArray) (hn : n ≤ 1000000) (w : World) (hr : RowS w A n 3 (legR ac am s)) :
  Calls Tryz.prog 177 #[.slice A n c, .agg #[.int .i64 xa, .int .i64 xm, .string xs], .func (.func 178) #[] #[]] w
   fun e w' => e = .returned (.tuple #[.int .i64 (bsP (fun k => cmpL (ac k) (s k) xa xs) n), .bool (decide (bsP (fun k => cmpL (ac k) (s k) xa xs) n < n) && (cmpL (ac (bsP (fun k => cmpL (ac k) (s k) xa xs) n)) (s (bsP (fun k => cmpL (ac k) (s k) xa xs) n)) xa xs == 0))]) ∧ Below w.heap.size w w' := by
 have HR := hide hr
 obtain ⟨f, hf⟩ : ∃ f : Nat → Int, f = fun k => cmpL (ac k) (s k) xa xs := ⟨_, rfl⟩
 have HF := hide (show ∀ k, cmpL (ac k) (s k) xa xs = f k from fun k => by rw [hf])
 rw [← hf]
 clear hr hf
 go_enter Tryz.func177, Tryz.ntmps177
 go_wp2_with fail
 go_loopw [9, 10] (fun v9 v10 wr => BsI2 f n (w.alloc (.cells #[.int .i64 xa, .int .i64 xm, .string xs] 107)) v9 v10 wr) (fun v9 v10 _ => (intOf v10).toNat - (intOf v9).toNat)
 case atStart => exact ⟨0, n, by omega, by omega, rfl, rfl, rfl, by (repeat (first | (with_reducible first | exact Below.refl _ _ | assumption | refine Below.drew ?_) | ((with_reducible first | refine Below.alloc ?_ ?_ _ | refine Below.setCell ?_ ?_ _); rotate_left; (first | omega | (simp <;> omega)))))⟩
 case round =>
  obtain ⟨i, j, hij, hj, rfl, rfl, he, hB⟩ := hrel
  have HE := hide he
  clear he
  have hzB := hB.size
  simp at hzB
  have t0 := hB.cell (p := ⟨w.heap.size, 0, none⟩) (by simp)
  have t1 := hB.cell (p := ⟨w.heap.size, 1, none⟩) (by simp)
  have t2 := hB.cell (p := ⟨w.heap.size, 2, none⟩) (by simp)
  simp [go_sem] at t0 t1 t2
  have HB := hide (show Below w.heap.size w wr from (show Below w.heap.size w _ from by (repeat (first | (with_reducible first | exact Below.refl _ _ | assumption | refine Below.drew ?_) | ((with_reducible first | refine Below.alloc ?_ ?_ _ | refine Below.setCell ?_ ?_ _); rotate_left; (first | omega | (simp <;> omega)))))).trans (hB.mono (by simp)))
  have hHBz := HB.out.size
  have ts : w.heap.size < wr.heap.size := by omega
  by_cases hlt : i < j
  ·have m1 : (i + j) / 2 < n := by omega
   have m2 : (((i + j) / 2 : Nat) : Int) < n := by omega
   have m3 : (0 : Int) ≤ (((i + j) / 2 : Nat) : Int) := by omega
   have m4 : (i : Int) < j := by omega
   have m5 : (0 : Int) ≤ ((i : Int) + j) / 2 := by omega
   have m6 : ((i : Int) + j) / 2 < n := by omega
   have m7 : (((i : Int) + j) / 2).toNat = (i + j) / 2 := by omega
   obtain ⟨b, off, rfl, hb, hc⟩ := (HR.out.below HB.out).at m1
   have c0 : wr.cell? ⟨b, off + (i + j) / 2 * 3, none⟩ = some (.int .i64 (ac ((i + j) / 2))) := hc 0 (by decide)
   have c1 : wr.cell? ⟨b, off + (i + j) / 2 * 3 + 1, none⟩ = some (.int .i64 (am ((i + j) / 2))) := hc 1 (by decide)
   have c2 : wr.cell? ⟨b, off + (i + j) / 2 * 3 + 2, none⟩ = some (.string (s ((i + j) / 2))) := hc 2 (by decide)
   have HLT := hide hlt
   have HJ := hide hj
   have HBO := hide hB
   clear hc hB
   go_wp2_with fail
   refine ord_start (SB (wr.heap.size) [] _) 8 (preB 0 8) (by kernel_rfl) (by kernel_rfl) (by kernel_rfl) SB.refl.drew (fun hHeld => ?_)
   refine oS (i := 0) (preB 1 7) rfl hHeld ?_
   (try simp only [Act.put, putS])
   refine oS (i := 1) (preB 2 6) rfl hHeld ?_
   (try simp only [Act.put, putS])
   refine oS (i := 2) (preB 3 5) rfl hHeld ?_
   (try simp only [Act.put, putS])
   refine oS (i := 3) (preB 4 4) rfl hHeld ?_
   (try simp only [Act.put, putS])
   refine oS (i := 4) (preB 5 3) rfl hHeld ?_
   (try simp only [Act.put, putS])
   refine oS (i := 5) (preB 6 2) rfl hHeld ?_
   (try simp only [Act.put, putS])
   refine wpAnyH_ready (rs := [6]) (by kernel_rfl) (by simp) ?_
   refine ord_run (i := 6) (preB 7 1) rfl (by kernel_rfl) (by rfl) (fun K hK => ?_) AllReadyH.nil
   go_simp
   go_wp2_with (go_at_call 178; refine (compare_any (ac ((i + j) / 2)) (am ((i + j) / 2)) xa xm (s ((i + j) / 2)) xs _).mono ?_; rintro r wc ⟨rfl, hb⟩; rw [HF.out]; have q1B : Below wr.heap.size wr wc := qB hb; have q1z := hb.size; (try simp at q1z); have q1t : wr.heap.size ≤ wc.heap.size := (by omega); have q1o := belO q1B; have hbS := hb; have hbS1 := hb; clear hb)
   refine hK.out _ _ ?_ (fun hHeld => ?_)
   ·(repeat (first | (with_reducible exact SB.refl) | (with_reducible exact hHeld) | (with_reducible assumption) | (with_reducible refine SB.drew ?_) | (with_reducible refine SB.drewN ?_ _) | ((with_reducible refine SB.alloc ?_ ?_ _); (rotate_left); (first | omega | (simp <;> omega))) | ((with_reducible refine SB.setCell ?_ ?_ _); (rotate_left); (focus (first | (simp; done) | (right; first | omega | (simp <;> omega))))) | ((with_reducible refine SB.below ?_ hbS ?_); (rotate_left); (first | omega | (simp <;> omega))) | ((with_reducible refine SB.below ?_ hbS1 ?_); (rotate_left); (first | omega | (simp <;> omega))) | ((with_reducible refine SB.below ?_ hbS2 ?_); (rotate_left); (first | omega | (simp <;> omega))) | ((with_reducible refine SB.below ?_ hbS3 ?_); (rotate_left); (first | omega | (simp <;> omega))) | ((with_reducible refine SB.below ?_ hbS4 ?_); (rotate_left); (first | omega | (simp <;> omega))) | ((with_reducible refine SB.below ?_ hbS5 ?_); (rotate_left); (first | omega | (simp <;> omega))) | ((with_reducible refine SB.below ?_ hbS6 ?_); (rotate_left); (first | omega | (simp <;> omega))) | ((with_reducible refine SB.below ?_ hbS7 ?_); (rotate_left); (first | omega | (simp <;> omega))) | (with_reducible refine SB.undrew ?_) | ((with_reducible refine SB.congr ?_ ?_); (rotate_left); (focus (simp; done))) | ((with_reducible refine SB.realloc ?_ ?_ ?_); (rotate_left); (focus (simp; done)); (focus (simp; done)))))
   clear hK K
   (try simp only [Act.put, putS])
   refine oS (i := 7) (preB 8 0) rfl hHeld ?_
   (try simp only [Act.put, putS])
   refine wpAnyH_done (by kernel_rfl) ?_ _
   have B1 := hide (HBO.out.trans (q1B.mono (by simp; omega)))
   by_cases h0 : f ((i + j) / 2) < 0
   ·have HN := hide ((bsI_lo HLT.out h0).symm.trans HE.out)
    go_wp2_with fail
    go_roundw
    case rel => exact ⟨(i + j) / 2 + 1, j, by have := HLT.out; omega, HJ.out, by go_num, rfl, HN.out, B1.out⟩
    case measure => have := HLT.out; simp [intOf]; omega
   ·have HN := hide ((bsI_hi HLT.out h0).symm.trans HE.out)
    go_wp2_with fail
    go_roundw
    case rel => exact ⟨i, (i + j) / 2, by have := HLT.out; omega, by have := HJ.out; omega, rfl, by go_num, HN.out, B1.out⟩
    case measure => have := HLT.out; simp [intOf]; omega
  ·have HP := hide (show bsP f n = i from by rw [← HE.out]; exact bsI_end hlt)
   clear HE
   by_cases hin : i < n
   ·have m1 : (i : Int) < n := by omega
    have m2 : ¬ (i : Int) < j := by omega
    have m3 : (0 : Int) ≤ (i : Int) := by omega
    obtain ⟨b, off, rfl, hb, hc⟩ := (HR.out.below HB.out).at hin
    have c0 : wr.cell? ⟨b, off + i * 3, none⟩ = some (.int .i64 (ac i)) := hc 0 (by decide)
    have c1 : wr.cell? ⟨b, off + i * 3 + 1, none⟩ = some (.int .i64 (am i)) := hc 1 (by decide)
    have c2 : wr.cell? ⟨b, off + i * 3 + 2, none⟩ = some (.string (s i)) := hc 2 (by decide)
    have HIN := hide hin
    clear hc hlt hij hj hin hB
    go_wp2_with fail
    refine ord_start (SB (wr.heap.size) [] _) 16 (preB 0 16) (by kernel_rfl) (by kernel_rfl) (by kernel_rfl) SB.refl.drew (fun hHeld => ?_)
    refine oS (i := 0) (preB 1 15) rfl hHeld ?_
    (try simp only [Act.put, putS])
    refine oS (i := 1) (preB 2 14) rfl hHeld ?_
    (try simp only [Act.put, putS])
    refine oS (i := 2) (preB 3 13) rfl hHeld ?_
    (try simp only [Act.put, putS])
    refine oS (i := 3) (preB 4 12) rfl hHeld ?_
    (try simp only [Act.put, putS])
    refine oS (i := 4) (preB 5 11) rfl hHeld ?_
    (try simp only [Act.put, putS])
    refine oS (i := 5) (preB 6 10) rfl hHeld ?_
    (try simp only [Act.put, putS])
    refine oS (i := 6) (preB 7 9) rfl hHeld ?_
    (try simp only [Act.put, putS])
    refine oS (i := 7) (preB 8 8) rfl hHeld ?_
    (try simp only [Act.put, putS])
    refine oS (i := 8) (preB 9 7) rfl hHeld ?_
    (try simp only [Act.put, putS])
    refine oS (i := 9) (preB 10 6) rfl hHeld ?_
    (try simp only [Act.put, putS])
    refine oS (i := 10) (preB 11 5) rfl hHeld ?_
    (try simp only [Act.put, putS])
    refine wpAnyH_ready (rs := [11]) (by kernel_rfl) (by simp) ?_
    refine ord_run (i := 11) (preB 12 4) rfl (by kernel_rfl) (by rfl) (fun K hK => ?_) AllReadyH.nil
    go_simp
    go_wp2_with (go_at_call 178; refine (compare_any (ac i) (am i) xa xm (s i) xs _).mono ?_; rintro r wc ⟨rfl, hb⟩; rw [HF.out]; have q1B : Below wr.heap.size wr wc := qB hb; have q1z := hb.size; (try simp at q1z); have q1t : wr.heap.size ≤ wc.heap.size := (by omega); have q1o := belO q1B; have hbS := hb; have hbS1 := hb; clear hb)
    refine hK.out _ _ ?_ (fun hHeld => ?_)
    ·(repeat (first | (with_reducible exact SB.refl) | (with_reducible exact hHeld) | (with_reducible assumption) | (with_reducible refine SB.drew ?_) | (with_reducible refine SB.drewN ?_ _) | ((with_reducible refine SB.alloc ?_ ?_ _); (rotate_left); (first | omega | (simp <;> omega))) | ((with_reducible refine SB.setCell ?_ ?_ _); (rotate_left); (focus (first | (simp; done) | (right; first | omega | (simp <;> omega))))) | ((with_reducible refine SB.below ?_ hbS ?_); (rotate_left); (first | omega | (simp <;> omega))) | ((with_reducible refine SB.below ?_ hbS1 ?_); (rotate_left); (first | omega | (simp <;> omega))) | ((with_reducible refine SB.below ?_ hbS2 ?_); (rotate_left); (first | omega | (simp <;> omega))) | ((with_reducible refine SB.below ?_ hbS3 ?_); (rotate_left); (first | omega | (simp <;> omega))) | ((with_reducible refine SB.below ?_ hbS4 ?_); (rotate_left); (first | omega | (simp <;> omega))) | ((with_reducible refine SB.below ?_ hbS5 ?_); (rotate_left); (first | omega | (simp <;> omega))) | ((with_reducible refine SB.below ?_ hbS6 ?_); (rotate_left); (first | omega | (simp <;> omega))) | ((with_reducible refine SB.below ?_ hbS7 ?_); (rotate_left); (first | omega | (simp <;> omega))) | (with_reducible refine SB.undrew ?_) | ((with_reducible refine SB.congr ?_ ?_); (rotate_left); (focus (simp; done))) | ((with_reducible refine SB.realloc ?_ ?_ ?_); (rotate_left); (focus (simp; done)); (focus (simp; done)))))
    clear hK K
    (try simp only [Act.put, putS])
    refine oS (i := 12) (preB 13 3) rfl hHeld ?_
    (try simp only [Act.put, putS])
    refine oS (i := 13) (preB 14 2) rfl hHeld ?_
    (try simp only [Act.put, putS])
    refine oS (i := 14) (preB 15 1) rfl hHeld ?_
    (try simp only [Act.put, putS])
    refine oS (i := 15) (preB 16 0) rfl hHeld ?_
    (try simp only [Act.put, putS])
    refine wpAnyH_done (by kernel_rfl) ?_ _
    go_wp2_with fail
    go_ret2
    exact ⟨by rw [HP.out, HF.out, decide_eq_true HIN.out]; simp, HB.out.trans ((show Below wr.heap.size wr _ from by (repeat (first | (with_reducible first | exact Below.refl _ _ | assumption | refine Below.drew ?_) | ((with_reducible first | refine Below.alloc ?_ ?_ _ | refine Below.setCell ?_ ?_ _); rotate_left; (first | omega | (simp <;> omega)))))).mono hHBz)⟩
   ·have m1 : (n : Int) ≤ i := by omega
    have m2 : ¬ (i : Int) < j := by omega
    have m3 : decide ((i : Int) < n) = false := decide_eq_false (by omega)
    have HIN := hide hin
    clear hlt hij hj hin hB
    go_wp2_with fail
    refine ord_start (SB (wr.heap.size) [] _) 16 (preB 0 16) (by kernel_rfl) (by kernel_rfl) (by kernel_rfl) SB.refl.drew (fun hHeld => ?_)
    refine oS (i := 0) (preB 1 15) rfl hHeld ?_
    (try simp only [Act.put, putS])
    refine oS (i := 1) (preB 2 14) rfl hHeld ?_
    (try simp only [Act.put, putS])
    refine oS (i := 2) (preB 3 13) rfl hHeld ?_
    (try simp only [Act.put, putS])
    refine oT (i := 3) (preB 4 12) (.bool false) rfl hHeld (fun wx hSx => ?_) ?_
    ·(unfold SB at hSx; go_simp; omega)
    (try simp only [Act.put, putS])
    refine oS (i := 4) (preB 5 11) rfl hHeld ?_
    (try simp only [Act.put, putS])
    refine ord_skip (i := 5) (preB 6 10) rfl (by kernel_rfl) (by kernel_rfl) (by kernel_rfl) (by kernel_rfl) (fun _ _ _ h => h) hHeld (by rfl) ?_
    (try simp only [Act.put, putS])
    refine ord_skip (i := 6) (preB 7 9) rfl (by kernel_rfl) (by kernel_rfl) (by kernel_rfl) (by kernel_rfl) (fun _ _ _ h => h) hHeld (by rfl) ?_
    (try simp only [Act.put, putS])
    refine ord_skip (i := 7) (preB 8 8) rfl (by kernel_rfl) (by kernel_rfl) (by kernel_rfl) (by kernel_rfl) (fun _ _ _ h => h) hHeld (by rfl) ?_
    (try simp only [Act.put, putS])
    refine ord_skip (i := 8) (preB 9 7) rfl (by kernel_rfl) (by kernel_rfl) (by kernel_rfl) (by kernel_rfl) (fun _ _ _ h => h) hHeld (by rfl) ?_
    (try simp only [Act.put, putS])
    refine ord_skip (i := 9) (preB 10 6) rfl (by kernel_rfl) (by kernel_rfl) (by kernel_rfl) (by kernel_rfl) (fun _ _ _ h => h) hHeld (by rfl) ?_
    (try simp only [Act.put, putS])
    refine ord_skip (i := 10) (preB 11 5) rfl (by kernel_rfl) (by kernel_rfl) (by kernel_rfl) (by kernel_rfl) (fun _ _ _ h => h) hHeld (by rfl) ?_
    (try simp only [Act.put, putS])
    refine ord_skip (i := 11) (preB 12 4) rfl (by kernel_rfl) (by kernel_rfl) (by kernel_rfl) (by kernel_rfl) (fun _ _ _ h => h) hHeld (by rfl) ?_
    (try simp only [Act.put, putS])
    refine ord_skip (i := 12) (preB 13 3) rfl (by kernel_rfl) (by kernel_rfl) (by kernel_rfl) (by kernel_rfl) (fun _ _ _ h => h) hHeld (by rfl) ?_
    (try simp only [Act.put, putS])
    refine oS (i := 13) (preB 14 2) rfl hHeld ?_
    (try simp only [Act.put, putS])
    refine oS (i := 14) (preB 15 1) rfl hHeld ?_
    (try simp only [Act.put, putS])
    refine oS (i := 15) (preB 16 0) rfl hHeld ?_
    (try simp only [Act.put, putS])
    refine wpAnyH_done (by kernel_rfl) ?_ _
    go_wp2_with fail
    go_ret2
    exact ⟨by rw [HP.out, decide_eq_false HIN.out]; simp, HB.out.trans ((show Below wr.heap.size wr _ from by (repeat (first | (with_reducible first | exact Below.refl _ _ | assumption | refine Below.drew ?_) | ((with_reducible first | refine Below.alloc ?_ ?_ _ | refine Below.setCell ?_ ?_ _); rotate_left; (first | omega | (simp <;> omega)))))).mono hHBz)⟩
end Go.Proofs.YtpghciiifnjimaaGreatDoor
