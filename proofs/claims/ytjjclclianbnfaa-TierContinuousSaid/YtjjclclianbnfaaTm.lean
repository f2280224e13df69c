/- The walk of the statement TierContinuous. -/
import Derived.Test.YtjjclclianbnfaaTl
import Derived.Test.YtjjclclianbnfaaRf
namespace Go.Proofs.Ytjjclclianbnfaa
open Go.RowKit

def CoInv (L : List (Int × Int)) (z : Int) (w : World) (v10 v11 : Value) (wr : World) : Prop :=
  ∃ k : Nat, k ≤ L.length ∧ v10 = .int .i64 (z - psum (fsts L) k) ∧ v11 = .int .i64 k ∧ Below w.heap.size w wr
theorem left_step {L : List (Int × Int)} {z : Int} (h : good L) (hp : psum (fsts L) L.length = z) (hz : z ≤ 9223372036854775807) {k : Nat} (hk : k < L.length) :
    1 ≤ fsts L k ∧ fsts L k ≤ z - psum (fsts L) k ∧ z - psum (fsts L) k ≤ 9223372036854775807 ∧ z - psum (fsts L) (k + 1) = z - psum (fsts L) k - fsts L k := by
  have h1 := (h k hk).1
  have a := psum_le h (j := 0) (k := k) (by omega)
  have b := psum_le h (j := k + 1) (k := L.length - (k + 1)) (by omega)
  rw [show k + 1 + (L.length - (k + 1)) = L.length from by omega, hp] at b
  rw [Nat.zero_add] at a
  have c : psum (fsts L) (k + 1) = psum (fsts L) k + fsts L k := rfl
  have d : psum (fsts L) 0 = 0 := rfl
  exact ⟨h1, by omega, by omega, by omega⟩
set_option maxHeartbeats 2000000 in
theorem walk_cont (A : Option Addr) (n c : Nat) (f g : Nat → Int) (m : Bool) (a b : Int) (a1 : -9223372036854775808 ≤ a) (a2 : a ≤ 9223372036854775807) (b1 : -9223372036854775808 ≤ b) (b2 : b ≤ 9223372036854775807) (w : World) (hr : Row2 w A n f g) :
    Calls Try.prog 7 #[.slice A n c, .agg #[.bool m, .int .i64 a, .int .i64 b]] w fun e w' => e = .returned (.bool true) ∧ Below w.heap.size w w' := by
  by_cases hc : chk n f g = 0
  · by_cases h0 : n = 0
    · have HC := hide hc
      have hk0 : ((n : Int) == 0) = true := beq_iff_eq.2 (by omega)
      clear hc h0
      go_enter Try.func7, Try.ntmps7
      go_wp2_with fail
      refine (rcheck_all A n c f g _ (hr.below (by (repeat (first | (with_reducible exact Below.refl _ _) | (with_reducible assumption) | ((with_reducible refine Below.alloc ?_ ?_ _); (rotate_left); (first | omega | (simp <;> omega))) | ((with_reducible refine Below.setCell ?_ ?_ _); (rotate_left); (first | omega | (simp <;> omega))) | (with_reducible refine Below.drew ?_) | (with_reducible refine below_drewN ?_ _)))))).mono ?_
      rintro e w1 ⟨rfl, hb⟩
      rw [HC.out]
      have q1B : Below w.heap.size w w1 := (by refine Below.trans ?_ (hb.mono (by first | omega | (simp <;> omega))); (repeat (first | (with_reducible exact Below.refl _ _) | (with_reducible assumption) | ((with_reducible refine Below.alloc ?_ ?_ _); (rotate_left); (first | omega | (simp <;> omega))) | ((with_reducible refine Below.setCell ?_ ?_ _); (rotate_left); (first | omega | (simp <;> omega))) | (with_reducible refine Below.drew ?_) | (with_reducible refine below_drewN ?_ _))))
      have q1z := hb.size
      try simp at q1z
      have q1t : w.heap.size ≤ w1.heap.size := (by omega)
      have q1o : ∀ b o, b < w.heap.size → w1.cell? ⟨b, o, none⟩ = w.cell? ⟨b, o, none⟩ := fun b o h => q1B.cell (p := ⟨b, o, none⟩) h
      clear hb
      go_wp2_with fail
      refine (live_any _).mono ?_
      rintro e w2 ⟨rfl, hb⟩
      have q2B : Below w.heap.size w w2 := (by refine Below.trans ?_ (hb.mono (by first | omega | (simp <;> omega))); (repeat (first | (with_reducible exact Below.refl _ _) | (with_reducible assumption) | ((with_reducible refine Below.alloc ?_ ?_ _); (rotate_left); (first | omega | (simp <;> omega))) | ((with_reducible refine Below.setCell ?_ ?_ _); (rotate_left); (first | omega | (simp <;> omega))) | (with_reducible refine Below.drew ?_) | (with_reducible refine below_drewN ?_ _))))
      have q2z := hb.size
      try simp at q2z
      have q2t : w.heap.size ≤ w2.heap.size := (by omega)
      have q2o : ∀ b o, b < w.heap.size → w2.cell? ⟨b, o, none⟩ = w.cell? ⟨b, o, none⟩ := fun b o h => q2B.cell (p := ⟨b, o, none⟩) h
      clear hb q1o q1z q1B
      go_wp2_with fail
      go_ret
      exact ⟨rfl, by (repeat (first | (with_reducible exact Below.refl _ _) | (with_reducible assumption) | ((with_reducible refine Below.alloc ?_ ?_ _); (rotate_left); (first | omega | (simp <;> omega))) | ((with_reducible refine Below.setCell ?_ ?_ _); (rotate_left); (first | omega | (simp <;> omega))) | (with_reducible refine Below.drew ?_) | (with_reducible refine below_drewN ?_ _)))⟩
    · have hn0 : 0 < n := by omega
      obtain ⟨y1, y2⟩ := tsz_bd a1 a2
      obtain ⟨z1, z2⟩ := tsz_bd b1 b2
      have hk0 : ((n : Int) == 0) = false := beq_eq_false_iff_ne.2 (by omega)
      have hn6 := (chk_ok hc).1
      obtain ⟨HL, HG, HP⟩ := slices_good (m := m) (b := a) hn0 hc y1 (rate_bd hc)
      have H2 : Hid (goodSl (slices n f g true a (rate n f g a))) := slices_ok hc a1 a2
      have H3 : Hid (goodSl (slices n f g true b (rate n f g b))) := slices_ok hc b1 b2
      have HM : Hid (tsz a ≤ tsz b → cmpW (lsum 1 (slices n f g true a (rate n f g a))) (lsum 1 (slices n f g true b (rate n f g b))) ≤ 0) := fun h => cmpW_le (slices_mono hn0 hc (by decide) y1 h)
      have HC := hide hc
      have HG := hide HG
      have HP := hide HP
      have hsh : ∀ (x : Int), 0 ≤ x → x ≤ 9223372036854775807 → IntKind.i64.wrap x = x := fun x h1 h2 => by rw [IntKind.wrap_i64]; omega
      clear hc h0
      go_enter Try.func7, Try.ntmps7
      go_wp2_with fail
      refine (rcheck_all A n c f g _ (hr.below (by (repeat (first | (with_reducible exact Below.refl _ _) | (with_reducible assumption) | ((with_reducible refine Below.alloc ?_ ?_ _); (rotate_left); (first | omega | (simp <;> omega))) | ((with_reducible refine Below.setCell ?_ ?_ _); (rotate_left); (first | omega | (simp <;> omega))) | (with_reducible refine Below.drew ?_) | (with_reducible refine below_drewN ?_ _)))))).mono ?_
      rintro e w1 ⟨rfl, hb⟩
      rw [HC.out]
      have q1B : Below w.heap.size w w1 := (by refine Below.trans ?_ (hb.mono (by first | omega | (simp <;> omega))); (repeat (first | (with_reducible exact Below.refl _ _) | (with_reducible assumption) | ((with_reducible refine Below.alloc ?_ ?_ _); (rotate_left); (first | omega | (simp <;> omega))) | ((with_reducible refine Below.setCell ?_ ?_ _); (rotate_left); (first | omega | (simp <;> omega))) | (with_reducible refine Below.drew ?_) | (with_reducible refine below_drewN ?_ _))))
      have q1z := hb.size
      try simp at q1z
      have q1t : w.heap.size ≤ w1.heap.size := (by omega)
      have q1s0 : w.heap.size < w1.heap.size := (by omega)
      have q1n0_0 : ¬ w1.heap.size = w.heap.size := (by omega)
      have q1n0_1 : ¬ w1.heap.size + 1 = w.heap.size := (by omega)
      have q1n0_2 : ¬ w1.heap.size + 2 = w.heap.size := (by omega)
      have q1c0_0 := hb.cell (p := ⟨w.heap.size, 0, none⟩) (by first | omega | (simp <;> omega))
      simp [go_sem, *] at q1c0_0
      have q1c0_1 := hb.cell (p := ⟨w.heap.size, 1, none⟩) (by first | omega | (simp <;> omega))
      simp [go_sem, *] at q1c0_1
      have q1c0_2 := hb.cell (p := ⟨w.heap.size, 2, none⟩) (by first | omega | (simp <;> omega))
      simp [go_sem, *] at q1c0_2
      have q1f0 := fun o => hb.frozen (p := ⟨w.heap.size, o, none⟩) (by first | omega | (simp <;> omega))
      simp [go_sem, *] at q1f0
      have q1o : ∀ b o, b < w.heap.size → w1.cell? ⟨b, o, none⟩ = w.cell? ⟨b, o, none⟩ := fun b o h => q1B.cell (p := ⟨b, o, none⟩) h
      clear hb
      have hr1 := hr.below q1B
      go_upto_region 3 with fail
      refine ord_start (SB (w1.heap.size) [] _) 6 #[false, false, false, false, false, false] (by kernel_rfl) (by kernel_rfl) (by kernel_rfl) SB.refl.drew (fun hHeld => ?_)
      refine ord_take (i := 0) #[true, false, false, false, false, false] ?_ rfl (by kernel_rfl) (by kernel_rfl) (by kernel_rfl) (by kernel_rfl) (fun _ _ _ h => h) hHeld (by rfl) (fun wx hSx => ?_) ?_
      rotate_left
      · (unfold SB at hSx; go_simp; (try with_reducible rfl))
      (try simp only [Act.put, List.setIfInBounds_toArray, List.set_cons_zero, List.set_cons_succ])
      refine ord_take (i := 1) #[true, true, false, false, false, false] ?_ rfl (by kernel_rfl) (by kernel_rfl) (by kernel_rfl) (by kernel_rfl) (fun _ _ _ h => h) hHeld (by rfl) (fun wx hSx => ?_) ?_
      rotate_left
      · (unfold SB at hSx; go_simp; (try with_reducible rfl))
      (try simp only [Act.put, List.setIfInBounds_toArray, List.set_cons_zero, List.set_cons_succ])
      refine ord_take (i := 2) #[true, true, true, false, false, false] ?_ rfl (by kernel_rfl) (by kernel_rfl) (by kernel_rfl) (by kernel_rfl) (fun _ _ _ h => h) hHeld (by rfl) (fun wx hSx => ?_) ?_
      rotate_left
      · (unfold SB at hSx; go_simp; (try with_reducible rfl))
      (try simp only [Act.put, List.setIfInBounds_toArray, List.set_cons_zero, List.set_cons_succ])
      refine ord_take (i := 3) #[true, true, true, true, false, false] ?_ rfl (by kernel_rfl) (by kernel_rfl) (by kernel_rfl) (by kernel_rfl) (fun _ _ _ h => h) hHeld (by rfl) (fun wx hSx => ?_) ?_
      rotate_left
      · (unfold SB at hSx; go_simp; (try with_reducible rfl))
      (try simp only [Act.put, List.setIfInBounds_toArray, List.set_cons_zero, List.set_cons_succ])
      refine ord_take (i := 4) #[true, true, true, true, true, false] ?_ rfl (by kernel_rfl) (by kernel_rfl) (by kernel_rfl) (by kernel_rfl) (fun _ _ _ h => h) hHeld (by rfl) (fun wx hSx => ?_) ?_
      rotate_left
      · (unfold SB at hSx; go_simp; (try with_reducible rfl))
      (try simp only [Act.put, List.setIfInBounds_toArray, List.set_cons_zero, List.set_cons_succ])
      refine ord_take (i := 5) #[true, true, true, true, true, true] ?_ rfl (by kernel_rfl) (by kernel_rfl) (by kernel_rfl) (by kernel_rfl) (fun _ _ _ h => h) hHeld (by rfl) (fun wx hSx => ?_) ?_
      rotate_left
      · (unfold SB at hSx; go_simp; (try with_reducible rfl))
      (try simp only [Act.put, List.setIfInBounds_toArray, List.set_cons_zero, List.set_cons_succ])
      refine wpAnyH_done (by kernel_rfl) ?_ _
      go_wp2_with fail
      refine (tslices_any A n c f g m a a1 a2 (by omega) _ (hr1.below (by (repeat (first | (with_reducible exact Below.refl _ _) | (with_reducible assumption) | ((with_reducible refine Below.alloc ?_ ?_ _); (rotate_left); (first | omega | (simp <;> omega))) | ((with_reducible refine Below.setCell ?_ ?_ _); (rotate_left); (first | omega | (simp <;> omega))) | (with_reducible refine Below.drew ?_) | (with_reducible refine below_drewN ?_ _)))))).mono ?_
      generalize slices n f g m a (rate n f g a) = L1 at HG HP HL
      rintro e w2 ⟨A1, c1, rfl, hA1, hb⟩
      have q2B : Below w.heap.size w w2 := (by refine Below.trans ?_ (hb.mono (by first | omega | (simp <;> omega))); (repeat (first | (with_reducible exact Below.refl _ _) | (with_reducible assumption) | ((with_reducible refine Below.alloc ?_ ?_ _); (rotate_left); (first | omega | (simp <;> omega))) | ((with_reducible refine Below.setCell ?_ ?_ _); (rotate_left); (first | omega | (simp <;> omega))) | (with_reducible refine Below.drew ?_) | (with_reducible refine below_drewN ?_ _))))
      have q2z := hb.size
      try simp at q2z
      have q2t : w.heap.size ≤ w2.heap.size := (by omega)
      have q2o : ∀ b o, b < w.heap.size → w2.cell? ⟨b, o, none⟩ = w.cell? ⟨b, o, none⟩ := fun b o h => q2B.cell (p := ⟨b, o, none⟩) h
      clear hb q1o q1f0 q1c0_2 q1c0_1 q1c0_0 q1s0 q1z q1B
      have hr2 := hr.below q2B
      go_wp2_with fail
      refine (tslices_any A n c f g true a a1 a2 (by omega) _ (hr2.below (by (repeat (first | (with_reducible exact Below.refl _ _) | (with_reducible assumption) | ((with_reducible refine Below.alloc ?_ ?_ _); (rotate_left); (first | omega | (simp <;> omega))) | ((with_reducible refine Below.setCell ?_ ?_ _); (rotate_left); (first | omega | (simp <;> omega))) | (with_reducible refine Below.drew ?_) | (with_reducible refine below_drewN ?_ _)))))).mono ?_
      generalize slices n f g true a (rate n f g a) = L2 at H2 HM
      rintro e w3 ⟨A2, c2, rfl, hA2, hb⟩
      have hA1 := hA1.below hb
      have q3B : Below w.heap.size w w3 := (by refine Below.trans ?_ (hb.mono (by first | omega | (simp <;> omega))); (repeat (first | (with_reducible exact Below.refl _ _) | (with_reducible assumption) | ((with_reducible refine Below.alloc ?_ ?_ _); (rotate_left); (first | omega | (simp <;> omega))) | ((with_reducible refine Below.setCell ?_ ?_ _); (rotate_left); (first | omega | (simp <;> omega))) | (with_reducible refine Below.drew ?_) | (with_reducible refine below_drewN ?_ _))))
      have q3z := hb.size
      try simp at q3z
      have q3t : w.heap.size ≤ w3.heap.size := (by omega)
      have q3o : ∀ b o, b < w.heap.size → w3.cell? ⟨b, o, none⟩ = w.cell? ⟨b, o, none⟩ := fun b o h => q3B.cell (p := ⟨b, o, none⟩) h
      clear hb q2o q2z q2B
      have hr3 := hr.below q3B
      go_wp2_with fail
      refine (tslices_any A n c f g true b b1 b2 (by omega) _ (hr3.below (by (repeat (first | (with_reducible exact Below.refl _ _) | (with_reducible assumption) | ((with_reducible refine Below.alloc ?_ ?_ _); (rotate_left); (first | omega | (simp <;> omega))) | ((with_reducible refine Below.setCell ?_ ?_ _); (rotate_left); (first | omega | (simp <;> omega))) | (with_reducible refine Below.drew ?_) | (with_reducible refine below_drewN ?_ _)))))).mono ?_
      generalize slices n f g true b (rate n f g b) = L3 at H3 HM
      rintro e w4 ⟨A3, c3, rfl, hA3, hb⟩
      have hA1 := hA1.below hb
      have hA2 := hA2.below hb
      have q4B : Below w.heap.size w w4 := (by refine Below.trans ?_ (hb.mono (by first | omega | (simp <;> omega))); (repeat (first | (with_reducible exact Below.refl _ _) | (with_reducible assumption) | ((with_reducible refine Below.alloc ?_ ?_ _); (rotate_left); (first | omega | (simp <;> omega))) | ((with_reducible refine Below.setCell ?_ ?_ _); (rotate_left); (first | omega | (simp <;> omega))) | (with_reducible refine Below.drew ?_) | (with_reducible refine below_drewN ?_ _))))
      have q4z := hb.size
      try simp at q4z
      have q4t : w.heap.size ≤ w4.heap.size := (by omega)
      have q4o : ∀ b o, b < w.heap.size → w4.cell? ⟨b, o, none⟩ = w.cell? ⟨b, o, none⟩ := fun b o h => q4B.cell (p := ⟨b, o, none⟩) h
      clear hb q3o q3z q3B
      have HB4 := hide q4B
      clear q4B q4o q4t q4z
      go_wp2_with fail
      refine (rtsize_any a a1 a2 _).mono ?_
      rintro e w5 ⟨rfl, rfl⟩
      go_wp2_with fail
      go_loopw [10, 11] (fun v10 v11 wr => CoInv L1 (tsz a) w4 v10 v11 wr) (fun _ v _ => L1.length - (intOf v).toNat)
      case atStart => exact ⟨0, by omega, by simp [psum], rfl, by (repeat (first | (with_reducible exact Below.refl _ _) | (with_reducible assumption) | ((with_reducible refine Below.alloc ?_ ?_ _); (rotate_left); (first | omega | (simp <;> omega))) | ((with_reducible refine Below.setCell ?_ ?_ _); (rotate_left); (first | omega | (simp <;> omega))) | (with_reducible refine Below.drew ?_) | (with_reducible refine below_drewN ?_ _)))⟩
      case round =>
        obtain ⟨k, hk, rfl, rfl, hB⟩ := hrel
        have hzB := hB.size
        by_cases hlt : k < L1.length
        · obtain ⟨bb, off, rfl, hbl, hcc⟩ := (hA1.below hB) (by omega)
          obtain ⟨c0, c1⟩ := hcc k hlt
          clear hcc
          obtain ⟨s1, s2, s3, s4⟩ := left_step HG.out HP.out y2 hlt
          obtain ⟨x, hx⟩ : ∃ x, x = tsz a - psum (fsts L1) k := ⟨_, rfl⟩
          rw [← hx] at s2 s3 s4 ⊢
          have HS := hide s4
          clear s4 hx
          have hwx := hsh (x - fsts L1 k) (by omega) (by omega)
          have hns : ¬ x < fsts L1 k := by omega
          have hns1 : ¬ fsts L1 k < 1 := by omega
          go_wp2_with fail
          go_roundw
          case rel => exact ⟨k + 1, by omega, by rw [HS.out], by go_num, hB⟩
          case measure => simp [intOf]; omega
        · have hkn : k = L1.length := by omega
          subst hkn
          have hp0 : tsz a - psum (fsts L1) L1.length = 0 := by have := HP.out; omega
          have hA2 := hA2.below hB
          have hA3 := hA3.below hB
          rw [hp0]
          go_wp2_with fail
          refine (tgrains_sl H2.out ⟨by decide, by decide⟩ A2 c2 _ hA2).mono ?_
          rintro e w5 ⟨rfl, hb⟩
          have hA3 := hA3.below hb
          have q5B : Below wr.heap.size wr w5 := (by refine Below.trans ?_ (hb.mono (by first | omega | (simp <;> omega))); (repeat (first | (with_reducible exact Below.refl _ _) | (with_reducible assumption) | ((with_reducible refine Below.alloc ?_ ?_ _); (rotate_left); (first | omega | (simp <;> omega))) | ((with_reducible refine Below.setCell ?_ ?_ _); (rotate_left); (first | omega | (simp <;> omega))) | (with_reducible refine Below.drew ?_) | (with_reducible refine below_drewN ?_ _))))
          have q5z := hb.size
          try simp at q5z
          have q5t : wr.heap.size ≤ w5.heap.size := (by omega)
          have q5o : ∀ b o, b < wr.heap.size → w5.cell? ⟨b, o, none⟩ = wr.cell? ⟨b, o, none⟩ := fun b o h => q5B.cell (p := ⟨b, o, none⟩) h
          clear hb
          have hnn : ¬ w5.heap.size + 1 = w5.heap.size := by omega
          go_wp2_with fail
          refine (tgrains_sl H3.out ⟨by decide, by decide⟩ A3 c3 _ (hA3.below (by (repeat (first | (with_reducible exact Below.refl _ _) | (with_reducible assumption) | ((with_reducible refine Below.alloc ?_ ?_ _); (rotate_left); (first | omega | (simp <;> omega))) | ((with_reducible refine Below.setCell ?_ ?_ _); (rotate_left); (first | omega | (simp <;> omega))) | (with_reducible refine Below.drew ?_) | (with_reducible refine below_drewN ?_ _)))))).mono ?_
          rintro e w6 ⟨rfl, hb⟩
          have q6B : Below wr.heap.size wr w6 := (by refine Below.trans ?_ (hb.mono (by first | omega | (simp <;> omega))); (repeat (first | (with_reducible exact Below.refl _ _) | (with_reducible assumption) | ((with_reducible refine Below.alloc ?_ ?_ _); (rotate_left); (first | omega | (simp <;> omega))) | ((with_reducible refine Below.setCell ?_ ?_ _); (rotate_left); (first | omega | (simp <;> omega))) | (with_reducible refine Below.drew ?_) | (with_reducible refine below_drewN ?_ _))))
          have q6z := hb.size
          try simp at q6z
          have q6t : wr.heap.size ≤ w6.heap.size := (by omega)
          have q6s0 : w5.heap.size < w6.heap.size := (by omega)
          have q6n0_0 : ¬ w6.heap.size = w5.heap.size := (by omega)
          have q6n0_1 : ¬ w6.heap.size + 1 = w5.heap.size := (by omega)
          have q6n0_2 : ¬ w6.heap.size + 2 = w5.heap.size := (by omega)
          have q6c0_0 := hb.cell (p := ⟨w5.heap.size, 0, none⟩) (by first | omega | (simp <;> omega))
          simp [go_sem, *] at q6c0_0
          have q6c0_1 := hb.cell (p := ⟨w5.heap.size, 1, none⟩) (by first | omega | (simp <;> omega))
          simp [go_sem, *] at q6c0_1
          have q6f0 := fun o => hb.frozen (p := ⟨w5.heap.size, o, none⟩) (by first | omega | (simp <;> omega))
          simp [go_sem, *] at q6f0
          have q6o : ∀ b o, b < wr.heap.size → w6.cell? ⟨b, o, none⟩ = wr.cell? ⟨b, o, none⟩ := fun b o h => q6B.cell (p := ⟨b, o, none⟩) h
          clear hb q5o q5z q5B
          have hnn6 : ¬ w6.heap.size = w5.heap.size := by omega
          by_cases hab : tsz b < tsz a
          · go_wp2_with fail
            refine (rtsize_any a a1 a2 _).mono ?_
            rintro e w7 ⟨rfl, rfl⟩
            go_wp2_with fail
            refine (rtsize_any b b1 b2 _).mono ?_
            rintro e w7 ⟨rfl, rfl⟩
            go_wp2_with fail
            refine (live_any _).mono ?_
            rintro e w7 ⟨rfl, hb⟩
            have q7B : Below wr.heap.size wr w7 := (by refine Below.trans ?_ (hb.mono (by first | omega | (simp <;> omega))); (repeat (first | (with_reducible exact Below.refl _ _) | (with_reducible assumption) | ((with_reducible refine Below.alloc ?_ ?_ _); (rotate_left); (first | omega | (simp <;> omega))) | ((with_reducible refine Below.setCell ?_ ?_ _); (rotate_left); (first | omega | (simp <;> omega))) | (with_reducible refine Below.drew ?_) | (with_reducible refine below_drewN ?_ _))))
            have q7z := hb.size
            try simp at q7z
            have q7t : wr.heap.size ≤ w7.heap.size := (by omega)
            have q7o : ∀ b o, b < wr.heap.size → w7.cell? ⟨b, o, none⟩ = wr.cell? ⟨b, o, none⟩ := fun b o h => q7B.cell (p := ⟨b, o, none⟩) h
            clear hb q6o q6f0 q6c0_1 q6c0_0 q6s0 q6z q6B
            go_wp2_with fail
            go_ret
            exact ⟨rfl, HB4.out.trans ((hB.trans (Below.mono (show Below wr.heap.size wr _ from by (repeat (first | (with_reducible exact Below.refl _ _) | (with_reducible assumption) | ((with_reducible refine Below.alloc ?_ ?_ _); (rotate_left); (first | omega | (simp <;> omega))) | ((with_reducible refine Below.setCell ?_ ?_ _); (rotate_left); (first | omega | (simp <;> omega))) | (with_reducible refine Below.drew ?_) | (with_reducible refine below_drewN ?_ _)))) hzB)).mono HB4.out.size)⟩
          · have hle := HM.out (by omega)
            go_wp2_with fail
            refine (rtsize_any a a1 a2 _).mono ?_
            rintro e w7 ⟨rfl, rfl⟩
            go_wp2_with fail
            refine (rtsize_any b b1 b2 _).mono ?_
            rintro e w7 ⟨rfl, rfl⟩
            go_wp2_with fail
            refine (rcmp_any _ _ _).mono ?_
            rintro e w7 ⟨rfl, hb⟩
            have q7B : Below wr.heap.size wr w7 := (by refine Below.trans ?_ (hb.mono (by first | omega | (simp <;> omega))); (repeat (first | (with_reducible exact Below.refl _ _) | (with_reducible assumption) | ((with_reducible refine Below.alloc ?_ ?_ _); (rotate_left); (first | omega | (simp <;> omega))) | ((with_reducible refine Below.setCell ?_ ?_ _); (rotate_left); (first | omega | (simp <;> omega))) | (with_reducible refine Below.drew ?_) | (with_reducible refine below_drewN ?_ _))))
            have q7z := hb.size
            try simp at q7z
            have q7t : wr.heap.size ≤ w7.heap.size := (by omega)
            have q7o : ∀ b o, b < wr.heap.size → w7.cell? ⟨b, o, none⟩ = wr.cell? ⟨b, o, none⟩ := fun b o h => q7B.cell (p := ⟨b, o, none⟩) h
            clear hb
            go_wp2_with fail
            refine (live_any _).mono ?_
            rintro e w8 ⟨rfl, hb⟩
            have q8B : Below wr.heap.size wr w8 := (by refine Below.trans ?_ (hb.mono (by first | omega | (simp <;> omega))); (repeat (first | (with_reducible exact Below.refl _ _) | (with_reducible assumption) | ((with_reducible refine Below.alloc ?_ ?_ _); (rotate_left); (first | omega | (simp <;> omega))) | ((with_reducible refine Below.setCell ?_ ?_ _); (rotate_left); (first | omega | (simp <;> omega))) | (with_reducible refine Below.drew ?_) | (with_reducible refine below_drewN ?_ _))))
            have q8z := hb.size
            try simp at q8z
            have q8t : wr.heap.size ≤ w8.heap.size := (by omega)
            have q8o : ∀ b o, b < wr.heap.size → w8.cell? ⟨b, o, none⟩ = wr.cell? ⟨b, o, none⟩ := fun b o h => q8B.cell (p := ⟨b, o, none⟩) h
            clear hb q7o q7z q7B
            go_wp2_with fail
            go_ret
            exact ⟨rfl, HB4.out.trans ((hB.trans (Below.mono (show Below wr.heap.size wr _ from by (repeat (first | (with_reducible exact Below.refl _ _) | (with_reducible assumption) | ((with_reducible refine Below.alloc ?_ ?_ _); (rotate_left); (first | omega | (simp <;> omega))) | ((with_reducible refine Below.setCell ?_ ?_ _); (rotate_left); (first | omega | (simp <;> omega))) | (with_reducible refine Below.drew ?_) | (with_reducible refine below_drewN ?_ _)))) hzB)).mono HB4.out.size)⟩
  · go_enter Try.func7, Try.ntmps7
    go_wp2_with fail
    refine (rcheck_all A n c f g _ (hr.below (by (repeat (first | (with_reducible exact Below.refl _ _) | (with_reducible assumption) | ((with_reducible refine Below.alloc ?_ ?_ _); (rotate_left); (first | omega | (simp <;> omega))) | ((with_reducible refine Below.setCell ?_ ?_ _); (rotate_left); (first | omega | (simp <;> omega))) | (with_reducible refine Below.drew ?_) | (with_reducible refine below_drewN ?_ _)))))).mono ?_
    rintro e w1 ⟨rfl, hb⟩
    have q1B : Below w.heap.size w w1 := (by refine Below.trans ?_ (hb.mono (by first | omega | (simp <;> omega))); (repeat (first | (with_reducible exact Below.refl _ _) | (with_reducible assumption) | ((with_reducible refine Below.alloc ?_ ?_ _); (rotate_left); (first | omega | (simp <;> omega))) | ((with_reducible refine Below.setCell ?_ ?_ _); (rotate_left); (first | omega | (simp <;> omega))) | (with_reducible refine Below.drew ?_) | (with_reducible refine below_drewN ?_ _))))
    have q1z := hb.size
    try simp at q1z
    have q1t : w.heap.size ≤ w1.heap.size := (by omega)
    have q1o : ∀ b o, b < w.heap.size → w1.cell? ⟨b, o, none⟩ = w.cell? ⟨b, o, none⟩ := fun b o h => q1B.cell (p := ⟨b, o, none⟩) h
    clear hb
    go_wp2_with fail
    refine (live_any _).mono ?_
    rintro e w2 ⟨rfl, hb⟩
    have q2B : Below w.heap.size w w2 := (by refine Below.trans ?_ (hb.mono (by first | omega | (simp <;> omega))); (repeat (first | (with_reducible exact Below.refl _ _) | (with_reducible assumption) | ((with_reducible refine Below.alloc ?_ ?_ _); (rotate_left); (first | omega | (simp <;> omega))) | ((with_reducible refine Below.setCell ?_ ?_ _); (rotate_left); (first | omega | (simp <;> omega))) | (with_reducible refine Below.drew ?_) | (with_reducible refine below_drewN ?_ _))))
    have q2z := hb.size
    try simp at q2z
    have q2t : w.heap.size ≤ w2.heap.size := (by omega)
    have q2o : ∀ b o, b < w.heap.size → w2.cell? ⟨b, o, none⟩ = w.cell? ⟨b, o, none⟩ := fun b o h => q2B.cell (p := ⟨b, o, none⟩) h
    clear hb q1o q1z q1B
    go_wp2_with fail
    go_ret
    exact ⟨rfl, by (repeat (first | (with_reducible exact Below.refl _ _) | (with_reducible assumption) | ((with_reducible refine Below.alloc ?_ ?_ _); (rotate_left); (first | omega | (simp <;> omega))) | ((with_reducible refine Below.setCell ?_ ?_ _); (rotate_left); (first | omega | (simp <;> omega))) | (with_reducible refine Below.drew ?_) | (with_reducible refine below_drewN ?_ _)))⟩
end Go.Proofs.Ytjjclclianbnfaa
