/- Texts laid together: Euc. -/
import Derived.Test.YtdjlaiilngechaaGreatDoorUEub
import Derived.Test.YtdjlaiilngechaaGreatDoorUExT
import Derived.Test.YtdjlaiilngechaaGreatDoorUK0
namespace Go.Proofs.YtdjlaiilngechaaGreatDoor
set_option maxRecDepth 4000
set_option linter.unusedSimpArgs false
set_option linter.unusedVariables false
open Go.RowKit
/-- Behind a sum of grains: its box. -/
def SmCut (z : Int) (wr : World) (v6 v7 : Value) (wx : World) : Prop :=
 ∃ g, v6 = .pointer (some ⟨g, 0, none⟩) ∧ v7 = .int .i64 (fitE z) ∧ Below wr.heap.size wr wx ∧ wr.heap.size ≤ g ∧ g < wx.heap.size ∧
  (wx.cell? ⟨g, 0, none⟩ = some (.int .i64 (hiW (fitR z))) ∧ wx.cell? ⟨g, 1, none⟩ = some (.int .u64 (loW (fitR z))))
set_option maxHeartbeats 4000000 in
theorem rlsum_any (A : Option Addr) (n c : Nat) (x : Nat → LnR) (hn : n ≤ 1000000) (hG : ∀ k, k < n → WIn (x k).1.gr) (w : World) (hr : RowLn w A n x) :
  Calls Tryz.prog 16 #[.slice A n c] w fun e w' => e = .returned (.tuple #[.agg #[.int .i64 (hiW (smFV (linOf x) n)), .int .u64 (loW (smFV (linOf x) n))], .int .i64 (smFE (linOf x) n)]) ∧ Below w.heap.size w w' := by
 have HR := hide hr
 have HG := hide hG
 clear hr hG
 go_enter Tryz.func16, Tryz.ntmps16
 go_wp2_with fail
 go_loopw [5] (fun v wr => SumI (linOf x) n w v wr) (fun v _ => n - (intOf v).toNat)
 case atStart => exact ⟨0, 0, by omega, rfl, rfl, ⟨by simp [go_sem, hi_zero], by simp [go_sem, lo_zero], by simp [go_sem]⟩, ⟨by simp [go_sem], by simp [go_sem], by simp [go_sem]⟩, by (repeat (first | (with_reducible first | exact Below.refl _ _ | assumption | refine Below.drew ?_ | refine below_drewN ?_ _) | ((with_reducible first | refine Below.alloc ?_ ?_ _ | refine Below.setCell ?_ ?_ _); rotate_left; (first | omega | (simp <;> omega))))), by simp⟩
 case round =>
  obtain ⟨k, s, hk, rfl, hs, ⟨s0, s1, sf⟩, ⟨r0, r1, rf⟩, hB, hz⟩ := hrel
  have HS := hide hs
  have HW := hide (smF_win hs)
  have z1 : w.heap.size < wr.heap.size := by omega
  have z2 : w.heap.size ≤ wr.heap.size := by omega
  have n1 : ¬ wr.heap.size = w.heap.size := by omega
  have n2 : ¬ wr.heap.size = w.heap.size + 1 := by omega
  clear hs
  by_cases hlt : k < n
  ·have hm : (k : Int) < n := by omega
   have hk0 : (0 : Int) ≤ k := by omega
   have HK := hide hlt
   obtain ⟨b, off, rfl, hbl, c0, c1, c2, c3, c4, c5, c6⟩ := (HR.out.below hB).at hlt
   clear hlt hk
   go_upto_region 5 with fail
   go_cut [6, 7] (fun v6 v7 wx => SmCut (s + (x k).1.gr) wr v6 v7 wx)
   case first =>
    refine ord_start (SB (wr.heap.size) [] _) 13 (preB 0 13) (by kernel_rfl) (by kernel_rfl) (by kernel_rfl) SB.refl.drew (fun hHeld => ?_)
    refine oS (i := 0) (preB 1 12) rfl hHeld ?_
    (try simp only [Act.put, putS])
    refine oS (i := 1) (preB 2 11) rfl hHeld ?_
    (try simp only [Act.put, putS])
    refine oS (i := 2) (preB 3 10) rfl hHeld ?_
    (try simp only [Act.put, putS])
    refine oS (i := 3) (preB 4 9) rfl hHeld ?_
    (try simp only [Act.put, putS])
    refine oS (i := 4) (preB 5 8) rfl hHeld ?_
    (try simp only [Act.put, putS])
    refine oS (i := 5) (preB 6 7) rfl hHeld ?_
    (try simp only [Act.put, putS])
    refine wpAnyH_ready (rs := [6, 10]) (by kernel_rfl) (by simp) ?_
    refine ord_run (i := 6) (preB 7 6) rfl (by kernel_rfl) (by rfl) (fun K hK => ?_) ?_
    ·go_simp
     go_wp2_with (go_at_call 31; refine (radd_any s (x k).1.gr HW.out (HG.out k HK.out) _).mono ?_; rintro e w1 ⟨rfl, hb⟩; (first | (have q1B : Below wr.heap.size wr w1 := qB hb; have q1z := hb.size; (try simp at q1z); have q1t : wr.heap.size ≤ w1.heap.size := (by omega); have q1s0 : wr.heap.size < w1.heap.size := (by omega); obtain ⟨q1n0_0, q1n0_1, q1n0_2⟩ := kN q1s0; obtain ⟨q1c0_0, q1c0_1, q1f0⟩ := kC2 hb wr.heap.size; simp [go_sem, *] at q1c0_0 q1c0_1 q1f0; have q1o := belO q1B; have hbS := hb; have hbS1 := hb; clear hb) | (have q1B : Below wr.heap.size wr w1 := qB hb; have q1z := hb.size; (try simp at q1z); have q1t : wr.heap.size ≤ w1.heap.size := (by omega); have q1o := belO q1B; have hbS := hb; have hbS1 := hb; clear hb)))
     refine hK.out _ _ ?_ (fun hHeld => ?_)
     ·exact sbT
     clear hK K
     (try simp only [Act.put, putS])
     refine oS (i := 7) (preB 8 5) rfl hHeld ?_
     (try simp only [Act.put, putS])
     refine oS (i := 8) (preB 9 4) rfl hHeld ?_
     (try simp only [Act.put, putS])
     refine oS (i := 9) (preB 10 3) rfl hHeld ?_
     (try simp only [Act.put, putS])
     refine wpAnyH_ready (rs := [10]) (by kernel_rfl) (by simp) ?_
     refine ord_run (i := 10) (preB 11 2) rfl (by kernel_rfl) (by rfl) (fun K hK => ?_) AllReadyH.nil
     go_simp
     refine hK.out _ _ ?_ (fun hHeld => ?_)
     ·exact sbT
     clear hK K
     (try simp only [Act.put, putS])
     refine wpAnyH_ready (rs := [11]) (by kernel_rfl) (by simp) ?_
     refine ord_run (i := 11) (preB 12 1) rfl (by kernel_rfl) (by rfl) (fun K hK => ?_) AllReadyH.nil
     go_simp
     refine hK.out _ _ ?_ (fun hHeld => ?_)
     ·exact sbT
     clear hK K
     (try simp only [Act.put, putS])
     refine oS (i := 12) (preB 13 0) rfl hHeld ?_
     (try simp only [Act.put, putS])
     refine wpAnyH_done (by kernel_rfl) ?_ _
     go_wp2_with fail; go_meet; exact ⟨_, rfl, rfl, belT, (by first | omega | (simp; done) | (simp <;> omega)), (by first | omega | (simp <;> omega)), ⟨(by simp [go_sem, *]), (by simp [go_sem, *])⟩⟩
    refine ord_run (i := 10) #[true, true, true, true, true, true, false, false, false, false, true, false, false] rfl (by kernel_rfl) (by rfl) (fun K hK => ?_) ?_
    ·go_simp
     refine hK.out _ _ ?_ (fun hHeld => ?_)
     ·exact sbT
     clear hK K
     (try simp only [Act.put, putS])
     refine wpAnyH_ready (rs := [6]) (by kernel_rfl) (by simp) ?_
     refine ord_run (i := 6) #[true, true, true, true, true, true, true, false, false, false, true, false, false] rfl (by kernel_rfl) (by rfl) (fun K hK => ?_) AllReadyH.nil
     go_simp
     go_wp2_with (go_at_call 31; refine (radd_any s (x k).1.gr HW.out (HG.out k HK.out) _).mono ?_; rintro e w1 ⟨rfl, hb⟩; (first | (have q1B : Below wr.heap.size wr w1 := qB hb; have q1z := hb.size; (try simp at q1z); have q1t : wr.heap.size ≤ w1.heap.size := (by omega); have q1s0 : wr.heap.size < w1.heap.size := (by omega); obtain ⟨q1n0_0, q1n0_1, q1n0_2⟩ := kN q1s0; obtain ⟨q1c0_0, q1c0_1, q1f0⟩ := kC2 hb wr.heap.size; simp [go_sem, *] at q1c0_0 q1c0_1 q1f0; have q1o := belO q1B; have hbS := hb; have hbS1 := hb; clear hb) | (have q1B : Below wr.heap.size wr w1 := qB hb; have q1z := hb.size; (try simp at q1z); have q1t : wr.heap.size ≤ w1.heap.size := (by omega); have q1o := belO q1B; have hbS := hb; have hbS1 := hb; clear hb)))
     refine hK.out _ _ ?_ (fun hHeld => ?_)
     ·exact sbT
     clear hK K
     (try simp only [Act.put, putS])
     refine oS (i := 7) #[true, true, true, true, true, true, true, true, false, false, true, false, false] rfl hHeld ?_
     (try simp only [Act.put, putS])
     refine oS (i := 8) #[true, true, true, true, true, true, true, true, true, false, true, false, false] rfl hHeld ?_
     (try simp only [Act.put, putS])
     refine oS (i := 9) (preB 11 2) rfl hHeld ?_
     (try simp only [Act.put, putS])
     refine wpAnyH_ready (rs := [11]) (by kernel_rfl) (by simp) ?_
     refine ord_run (i := 11) (preB 12 1) rfl (by kernel_rfl) (by rfl) (fun K hK => ?_) AllReadyH.nil
     go_simp
     refine hK.out _ _ ?_ (fun hHeld => ?_)
     ·exact sbT
     clear hK K
     (try simp only [Act.put, putS])
     refine oS (i := 12) (preB 13 0) rfl hHeld ?_
     (try simp only [Act.put, putS])
     refine wpAnyH_done (by kernel_rfl) ?_ _
     go_wp2_with fail; go_meet; exact ⟨_, rfl, rfl, belT, (by first | omega | (simp; done) | (simp <;> omega)), (by first | omega | (simp <;> omega)), ⟨(by simp [go_sem, *]), (by simp [go_sem, *])⟩⟩
    exact AllReadyH.nil
   case rest =>
    rename World => w1
    obtain ⟨g, rfl, rfl, hb, hg1, hg2, ⟨g0, g1⟩⟩ := hcut
    have hgn : ¬ g = w.heap.size := by omega
    have hgm : ¬ g = w.heap.size + 1 := by omega
    by_cases he : fitE (s + (x k).1.gr) = 0
    ·have HF := hide (fitR_of (fitE_iff.1 he))
     have HT := hide (smF_step (f := linOf x) HS.out he)
     rw [he]
     rw [HF.out] at g0 g1
     have q1B : Below wr.heap.size wr w1 := qB hb
     have q1z := hb.size
     try simp at q1z
     have q1t : wr.heap.size ≤ w1.heap.size := (by omega)
     obtain ⟨q1s0, q1n0_0, q1n0_1, q1n0_2⟩ := kB w1.heap.size w.heap.size
     obtain ⟨q1c0_0, q1c0_1, q1f0⟩ := kC2 hb w.heap.size
     simp [go_sem, *] at q1c0_0 q1c0_1 q1f0
     obtain ⟨q1s1, q1n1_0, q1n1_1, q1n1_2⟩ := kB w1.heap.size (w.heap.size + 1)
     obtain ⟨q1c1_0, q1c1_1, q1f1⟩ := kC2 hb (w.heap.size + 1)
     simp [go_sem, *] at q1c1_0 q1c1_1 q1f1
     have q1o := belO q1B
     clear hb
     clear he
     go_wp2_with fail
     go_roundw
     case rel => exact ⟨k + 1, s + (x k).1.gr, HK.out, by go_num, HT.out, ⟨by simp [go_sem, *], by simp [go_sem, *], by simp [go_sem, *]⟩, ⟨by simp [go_sem, *], by simp [go_sem, *], by simp [go_sem, *]⟩, by refine hB.trans (Below.trans (q1B.mono (by have := hB.size; omega)) ?_); (repeat (first | (with_reducible first | exact Below.refl _ _ | assumption | refine Below.drew ?_ | refine below_drewN ?_ _) | ((with_reducible first | refine Below.alloc ?_ ?_ _ | refine Below.setCell ?_ ?_ _); rotate_left; (first | omega | (simp <;> omega))))), by simp; omega⟩
     case measure => have := HK.out; simp [intOf]; omega
    ·have HF := hide (smF_fail (f := linOf x) HS.out HK.out he)
     rw [fitE_not0 he]
     have q1B : Below wr.heap.size wr w1 := qB hb
     have q1z := hb.size
     try simp at q1z
     have q1t : wr.heap.size ≤ w1.heap.size := (by omega)
     obtain ⟨q1s0, q1n0_0, q1n0_1, q1n0_2⟩ := kB w1.heap.size w.heap.size
     obtain ⟨q1c0_0, q1c0_1, q1f0⟩ := kC2 hb w.heap.size
     simp [go_sem, *] at q1c0_0 q1c0_1 q1f0
     obtain ⟨q1s1, q1n1_0, q1n1_1, q1n1_2⟩ := kB w1.heap.size (w.heap.size + 1)
     obtain ⟨q1c1_0, q1c1_1, q1f1⟩ := kC2 hb (w.heap.size + 1)
     simp [go_sem, *] at q1c1_0 q1c1_1 q1f1
     have q1o := belO q1B
     clear hb
     clear he
     go_wp2_with fail
     refine bodyPost_ret (by simp [results, Tryz.results16, go_sem, *] <;> rfl) rfl ⟨?_, ?_⟩
     ·unfold smFV smFE; rw [HF.out]; simp only [hi_zero, lo_zero]
     ·refine hB.trans (Below.trans (q1B.mono (by have := hB.size; omega)) ?_); (repeat (first | (with_reducible first | exact Below.refl _ _ | assumption | refine Below.drew ?_ | refine below_drewN ?_ _) | ((with_reducible first | refine Below.alloc ?_ ?_ _ | refine Below.setCell ?_ ?_ _); rotate_left; (first | omega | (simp <;> omega)))))
  ·obtain rfl : k = n := by omega
   clear hlt hk
   go_wp2_with fail
   refine bodyPost_ret (by simp [results, Tryz.results16, go_sem, *] <;> rfl) rfl ⟨?_, ?_⟩
   ·unfold smFV smFE; rw [HS.out]
   ·refine hB.trans ?_
    (repeat (first | (with_reducible first | exact Below.refl _ _ | assumption | refine Below.drew ?_ | refine below_drewN ?_ _) | ((with_reducible first | refine Below.alloc ?_ ?_ _ | refine Below.setCell ?_ ?_ _); rotate_left; (first | omega | (simp <;> omega)))))
theorem rlamt_any (n : Int) (w : World) : Calls Tryz.prog 112 #[.int .i64 n] w fun e w' => e = .returned (.bool (vmB n)) ∧ w = w' := by
 unfold vmB
 by_cases h1 : -1000000000000 ≤ n
 ·by_cases h2 : n ≤ 1000000000000
  ·rw [decide_eq_true ⟨h1, h2⟩]
   go_enter Tryz.func112, Tryz.ntmps112
   go_wp2_with fail
   go_ret
   exact ⟨by first | rfl | simp [*], rfl⟩
  ·rw [decide_eq_false (fun h => h2 h.2)]
   have h3 : 1000000000000 < n := by omega
   go_enter Tryz.func112, Tryz.ntmps112
   go_wp2_with fail
   go_ret
   exact ⟨by first | rfl | simp [*], rfl⟩
 ·rw [decide_eq_false (fun h => h1 h.1)]
  have h3 : n < -1000000000000 := by omega
  clear h1
  go_enter Tryz.func112, Tryz.ntmps112
  go_wp2_with fail
  go_ret
  exact ⟨by first | rfl | simp [*], rfl⟩
/-! ### right -/
def RtI (f g : Nat → Int) (A : Option Addr) (n c : Nat) (w : World) (v : Value) (wr : World) : Prop :=
 ∃ k : Nat, k ≤ n ∧ v = .int .i64 k ∧ badF f g k = false ∧ Below w.heap.size w wr ∧ w.heap.size < wr.heap.size ∧ wr.cell? ⟨w.heap.size, 4, none⟩ = some (.slice A n c)
set_option maxHeartbeats 4000000 in
theorem rright_any (x : Lin) (A : Option Addr) (c : Nat) (d : Int) (hl : x.sl.length ≤ 1000000) (w : World) (hr : Row2 w A x.sl.length (fsts x.sl) (snds x.sl)) :
  Calls Tryz.prog 70 #[LinV x A c, .int .i64 d] w fun e w' => e = .returned (.bool (shB x d)) ∧ Below w.heap.size w w' := by
 have HR := hide hr
 have HE := hide (show shB x d = !(decide (d < 0) || decide (4 < d) || !vday x.fr || !vday x.tt || decide (x.tt < x.fr) || !vmB x.bl || badF (fsts x.sl) (snds x.sl) x.sl.length) from rfl)
 clear hr
 by_cases h0 : d < 0
 ·have e0 : decide (d < 0) = true := decide_eq_true h0
  have HV := hide (show shB x d = false from by rw [HE.out]; simp only [e0]; simp)
  clear e0
  go_enter Tryz.func70, Tryz.ntmps70
  go_wp2_with fail
  refine bodyPost_ret (by simp [results, Tryz.results70, go_sem, *] <;> rfl) rfl ⟨?_, ?_⟩
  ·rw [HV.out]
  (repeat (first | (with_reducible first | exact Below.refl _ _ | assumption | refine Below.drew ?_ | refine below_drewN ?_ _) | ((with_reducible first | refine Below.alloc ?_ ?_ _ | refine Below.setCell ?_ ?_ _); rotate_left; (first | omega | (simp <;> omega)))))
 ·have e0 : decide (d < 0) = false := decide_eq_false h0
  have g0 := Int.not_lt.1 h0
  clear h0
  by_cases h1 : 4 < d
  ·have e1 : decide (4 < d) = true := decide_eq_true h1
   have HV := hide (show shB x d = false from by rw [HE.out]; simp only [e0, e1]; simp)
   clear e0 e1
   go_enter Tryz.func70, Tryz.ntmps70
   go_wp2_with fail
   refine bodyPost_ret (by simp [results, Tryz.results70, go_sem, *] <;> rfl) rfl ⟨?_, ?_⟩
   ·rw [HV.out]
   (repeat (first | (with_reducible first | exact Below.refl _ _ | assumption | refine Below.drew ?_ | refine below_drewN ?_ _) | ((with_reducible first | refine Below.alloc ?_ ?_ _ | refine Below.setCell ?_ ?_ _); rotate_left; (first | omega | (simp <;> omega)))))
  ·have e1 : decide (4 < d) = false := decide_eq_false h1
   have g1 := Int.not_lt.1 h1
   clear h1
   cases h2 : vday x.fr with
   | false =>
    have H2 := hide h2
    clear h2
    have HV := hide (show shB x d = false from by rw [HE.out]; simp only [e0, e1, H2.out]; simp)
    clear e0 e1
    go_enter Tryz.func70, Tryz.ntmps70
    go_wp2_with fail
    refine (rvalid_any x.fr _).mono ?_
    rintro e w1 ⟨rfl, rfl⟩
    rw [H2.out]
    go_wp2_with fail
    refine bodyPost_ret (by simp [results, Tryz.results70, go_sem, *] <;> rfl) rfl ⟨?_, ?_⟩
    ·rw [HV.out]
    (repeat (first | (with_reducible first | exact Below.refl _ _ | assumption | refine Below.drew ?_ | refine below_drewN ?_ _) | ((with_reducible first | refine Below.alloc ?_ ?_ _ | refine Below.setCell ?_ ?_ _); rotate_left; (first | omega | (simp <;> omega)))))
   | true =>
    have H2 := hide h2
    clear h2
    cases h3 : vday x.tt with
    | false =>
     have H3 := hide h3
     clear h3
     have HV := hide (show shB x d = false from by rw [HE.out]; simp only [e0, e1, H2.out, H3.out]; simp)
     clear e0 e1
     go_enter Tryz.func70, Tryz.ntmps70
     go_wp2_with fail
     refine (rvalid_any x.fr _).mono ?_
     rintro e w1 ⟨rfl, rfl⟩
     rw [H2.out]
     go_wp2_with fail
     refine (rvalid_any x.tt _).mono ?_
     rintro e w1 ⟨rfl, rfl⟩
     rw [H3.out]
     go_wp2_with fail
     refine bodyPost_ret (by simp [results, Tryz.results70, go_sem, *] <;> rfl) rfl ⟨?_, ?_⟩
     ·rw [HV.out]
     (repeat (first | (with_reducible first | exact Below.refl _ _ | assumption | refine Below.drew ?_ | refine below_drewN ?_ _) | ((with_reducible first | refine Below.alloc ?_ ?_ _ | refine Below.setCell ?_ ?_ _); rotate_left; (first | omega | (simp <;> omega)))))
    | true =>
     have H3 := hide h3
     clear h3
     by_cases h4 : x.tt < x.fr
     ·have e4 : decide (x.tt < x.fr) = true := decide_eq_true h4
      have HV := hide (show shB x d = false from by rw [HE.out]; simp only [e0, e1, H2.out, H3.out, e4]; simp)
      clear e0 e1 e4
      go_enter Tryz.func70, Tryz.ntmps70
      go_wp2_with fail
      refine (rvalid_any x.fr _).mono ?_
      rintro e w1 ⟨rfl, rfl⟩
      rw [H2.out]
      go_wp2_with fail
      refine (rvalid_any x.tt _).mono ?_
      rintro e w1 ⟨rfl, rfl⟩
      rw [H3.out]
      go_wp2_with fail
      refine bodyPost_ret (by simp [results, Tryz.results70, go_sem, *] <;> rfl) rfl ⟨?_, ?_⟩
      ·rw [HV.out]
      (repeat (first | (with_reducible first | exact Below.refl _ _ | assumption | refine Below.drew ?_ | refine below_drewN ?_ _) | ((with_reducible first | refine Below.alloc ?_ ?_ _ | refine Below.setCell ?_ ?_ _); rotate_left; (first | omega | (simp <;> omega)))))
     ·have e4 : decide (x.tt < x.fr) = false := decide_eq_false h4
      have g4 := Int.not_lt.1 h4
      clear h4
      cases h5 : vmB x.bl with
      | false =>
       have H5 := hide h5
       clear h5
       have HV := hide (show shB x d = false from by rw [HE.out]; simp only [e0, e1, H2.out, H3.out, e4, H5.out]; simp)
       clear e0 e1 e4
       go_enter Tryz.func70, Tryz.ntmps70
       go_wp2_with fail
       refine (rvalid_any x.fr _).mono ?_
       rintro e w1 ⟨rfl, rfl⟩
       rw [H2.out]
       go_wp2_with fail
       refine (rvalid_any x.tt _).mono ?_
       rintro e w1 ⟨rfl, rfl⟩
       rw [H3.out]
       go_wp2_with fail
       refine (rlamt_any x.bl _).mono ?_
       rintro e w1 ⟨rfl, rfl⟩
       rw [H5.out]
       go_wp2_with fail
       refine bodyPost_ret (by simp [results, Tryz.results70, go_sem, *] <;> rfl) rfl ⟨?_, ?_⟩
       ·rw [HV.out]
       (repeat (first | (with_reducible first | exact Below.refl _ _ | assumption | refine Below.drew ?_ | refine below_drewN ?_ _) | ((with_reducible first | refine Below.alloc ?_ ?_ _ | refine Below.setCell ?_ ?_ _); rotate_left; (first | omega | (simp <;> omega)))))
      | true =>
       have H5 := hide h5
       clear h5
       have HV := hide (show shB x d = !badF (fsts x.sl) (snds x.sl) x.sl.length from by rw [HE.out]; simp only [e0, e1, H2.out, H3.out, e4, H5.out]; simp)
       clear e0 e1 e4
       go_enter Tryz.func70, Tryz.ntmps70
       go_wp2_with fail
       refine (rvalid_any x.fr _).mono ?_
       rintro e w1 ⟨rfl, rfl⟩
       rw [H2.out]
       go_wp2_with fail
       refine (rvalid_any x.tt _).mono ?_
       rintro e w1 ⟨rfl, rfl⟩
       rw [H3.out]
       go_wp2_with fail
       refine (rlamt_any x.bl _).mono ?_
       rintro e w1 ⟨rfl, rfl⟩
       rw [H5.out]
       go_wp2_with fail
       go_loopw [5] (fun v wr => RtI (fsts x.sl) (snds x.sl) A x.sl.length c w v wr) (fun v _ => x.sl.length - (intOf v).toNat)
       case atStart => exact ⟨0, by omega, rfl, rfl, by (repeat (first | (with_reducible first | exact Below.refl _ _ | assumption | refine Below.drew ?_ | refine below_drewN ?_ _) | ((with_reducible first | refine Below.alloc ?_ ?_ _ | refine Below.setCell ?_ ?_ _); rotate_left; (first | omega | (simp <;> omega))))), by simp, by simp [go_sem]⟩
       case round =>
        obtain ⟨k, hk, rfl, ha, hB, hz, c4⟩ := hrel
        have HA := hide ha
        clear ha
        by_cases hlt : k < x.sl.length
        ·obtain ⟨b1, o1, rfl, hb1, hc⟩ := (HR.out.below hB) (by omega)
         obtain ⟨c0, c1⟩ := hc k hlt
         have hm1 : (k : Int) < x.sl.length := by omega
         have hm3 : (0 : Int) ≤ (k : Int) := by omega
         have HK := hide hlt
         clear hlt hk hc
         cases he : vmB (fsts x.sl k) with
         | false =>
          have HT := hide (show badF (fsts x.sl) (snds x.sl) x.sl.length = true from badF_iff.2 ⟨k, HK.out, .inl he⟩)
          have HE2 := hide he
          clear he
          go_wp2_with fail
          refine (rlamt_any (fsts x.sl k) _).mono ?_
          rintro e w1 ⟨rfl, rfl⟩
          rw [HE2.out]
          go_wp2_with fail
          refine bodyPost_ret (by simp [results, Tryz.results70, go_sem, *] <;> rfl) rfl ⟨?_, ?_⟩
          ·rw [HV.out, HT.out]; rfl
          ·exact hB
         | true =>
          have HE2 := hide he
          by_cases h6 : snds x.sl k < 0
          ·have HT := hide (show badF (fsts x.sl) (snds x.sl) x.sl.length = true from badF_iff.2 ⟨k, HK.out, .inr h6⟩)
           clear he
           go_wp2_with fail
           refine (rlamt_any (fsts x.sl k) _).mono ?_
           rintro e w1 ⟨rfl, rfl⟩
           rw [HE2.out]
           go_wp2_with fail
           refine bodyPost_ret (by simp [results, Tryz.results70, go_sem, *] <;> rfl) rfl ⟨?_, ?_⟩
           ·rw [HV.out, HT.out]; rfl
           ·exact hB
          ·have HT := hide (show badF (fsts x.sl) (snds x.sl) (k + 1) = false from by unfold badF; rw [HA.out, he, decide_eq_false h6]; rfl)
           have h7 := Int.not_lt.1 h6
           clear he h6
           go_wp2_with fail
           refine (rlamt_any (fsts x.sl k) _).mono ?_
           rintro e w1 ⟨rfl, rfl⟩
           rw [HE2.out]
           go_wp2_with fail
           go_roundw
           case rel => exact ⟨k + 1, HK.out, by go_num, HT.out, hB, hz, c4⟩
           case measure => have := HK.out; simp [intOf]; omega
        ·obtain rfl : k = x.sl.length := by omega
         clear hlt hk
         go_wp2_with fail
         refine bodyPost_ret (by simp [results, Tryz.results70, go_sem, *] <;> rfl) rfl ⟨?_, ?_⟩
         ·rw [HV.out, HA.out]; rfl
         ·exact hB
/-! ### Great -/
def GrI (x : Nat → LnR) (n : Nat) (w : World) (v : Value) (wr : World) : Prop :=
 ∃ k : Nat, k ≤ n ∧ v = .int .i64 k ∧ (∀ j, j < k → (x j).1.sl.length ≤ 20) ∧ wr = w
theorem rlgreat_any (A : Option Addr) (n c : Nat) (x : Nat → LnR) (w : World) (hr : RowLn w A n x) :
  Calls Tryz.prog 12 #[.slice A n c] w fun e w' => ∃ b, e = .returned (.bool b) ∧ (b = false → n ≤ 100 ∧ ∀ k, k < n → (x k).1.sl.length ≤ 20) ∧ w' = w := by
 have HR := hide hr
 clear hr
 by_cases h1 : 100 < n
 ·have h2 : (100 : Int) < n := by omega
  clear h1
  go_enter Tryz.func12, Tryz.ntmps12
  go_wp2_with fail
  go_ret
  exact ⟨true, by first | rfl | simp [*], fun h => (by cases h), rfl⟩
 ·have h2 : (n : Int) ≤ 100 := by omega
  have HN := hide (show n ≤ 100 by omega)
  clear h1
  go_enter Tryz.func12, Tryz.ntmps12
  go_wp2_with fail
  go_loopw [3] (fun v wr => GrI x n w v wr) (fun v _ => n - (intOf v).toNat)
  case atStart => exact ⟨0, by omega, rfl, fun j hj => by omega, rfl⟩
  case round =>
   obtain ⟨k, hk, rfl, ha, rfl⟩ := hrel
   have HA := hide ha
   clear ha
   by_cases hlt : k < n
   ·obtain ⟨b, off, rfl, hbl, c0, c1, c2, c3, c4, c5, c6⟩ := HR.out.at hlt
    have hm1 : (k : Int) < n := by omega
    have hm3 : (0 : Int) ≤ (k : Int) := by omega
    have HK := hide hlt
    clear hlt hk
    by_cases h20 : 20 < (x k).1.sl.length
    ·have h21 : (20 : Int) < (x k).1.sl.length := by omega
     clear h20
     go_wp2_with fail
     go_ret
     exact ⟨true, by first | rfl | simp [*], fun h => (by cases h), rfl⟩
    ·have h21 : ((x k).1.sl.length : Int) ≤ 20 := by omega
     have HT := hide (show ∀ j, j < k + 1 → (x j).1.sl.length ≤ 20 from fun j hj => by
      rcases Nat.lt_or_ge j k with h | h
      ·exact HA.out j h
      ·obtain rfl : j = k := by omega
       omega)
     clear h20
     go_wp2_with fail
     go_roundw
     case rel => exact ⟨k + 1, HK.out, by go_num, HT.out, rfl⟩
     case measure => have := HK.out; simp [intOf]; omega
   ·obtain rfl : k = n := by omega
    clear hlt hk
    go_wp2_with fail
    go_ret
    exact ⟨false, by first | rfl | simp [*], fun _ => ⟨HN.out, HA.out⟩, rfl⟩
/-! ### SameTexts -/
def StI (a : Nat → ByteArray) (b : Nat → ByteArray) (n : Nat) (w : World) (v : Value) (wr : World) : Prop :=
 ∃ k : Nat, k ≤ n ∧ v = .int .i64 k ∧ Below w.heap.size w wr
theorem rsameTx_any (A B : Option Addr) (n c d : Nat) (a : Nat → ByteArray) (w : World) (ha : RowTx w A n a) (hb : RowTx w B n a) (hln : n ≤ 140737488355328) :
  Calls Tryz.prog 17 #[.slice A n c, .slice B n d] w fun e w' => e = .returned (.bool true) ∧ Below w.heap.size w w' := by
 have HA := hide ha
 have HB := hide hb
 clear ha hb
 go_enter Tryz.func17, Tryz.ntmps17
 go_wp2_with fail
 go_loopw [5] (fun v wr => StI a a n w v wr) (fun v _ => n - (intOf v).toNat)
 case atStart => exact ⟨0, by omega, rfl, by (repeat (first | (with_reducible first | exact Below.refl _ _ | assumption | refine Below.drew ?_ | refine below_drewN ?_ _) | ((with_reducible first | refine Below.alloc ?_ ?_ _ | refine Below.setCell ?_ ?_ _); rotate_left; (first | omega | (simp <;> omega)))))⟩
 case round =>
  obtain ⟨k, hk, rfl, hB⟩ := hrel
  by_cases hlt : k < n
  ·obtain ⟨b1, o1, rfl, hb1, hc1⟩ := (HA.out.below hB) (by omega)
   have c1 := hc1 k hlt
   obtain ⟨b2, o2, rfl, hb2, hc2⟩ := (HB.out.below hB) (by omega)
   have c2 := hc2 k hlt
   have hm1 : (k : Int) < n := by omega
   have hm3 : (0 : Int) ≤ (k : Int) := by omega
   have HK := hide hlt
   clear hlt hk hc1 hc2
   go_upto_region 6 with fail
   go_quiet (fail)
   go_wp2_with fail
   go_roundw
   case rel => exact ⟨k + 1, HK.out, by go_num, hB.trans belT⟩
   case measure => have := HK.out; simp [intOf]; omega
  ·obtain rfl : k = n := by omega
   clear hlt hk
   go_wp2_with fail
   go_ret
   exact ⟨by first | rfl | simp [*], hB⟩
end Go.Proofs.YtdjlaiilngechaaGreatDoor
