/- Contracts of the reference for numbers of 128 bits, 4: sums and products. (Printed by gen/rd.py.) -/
import Derived.Test.YtjjclclianbnfaaRc
namespace Go.Proofs.Ytjjclclianbnfaa
open Go.RowKit

theorem sgn_add_same {an bn : Bool} (h : (an == bn) = true) (a b : Int) : sgn an a + sgn bn b = sgn an (a + b) := by
  have : an = bn := by simpa using h
  subst this
  cases an <;> simp [sgn] <;> omega
theorem sgn_add_less {an bn : Bool} (h : (an == bn) = false) (a b : Int) : sgn an a + sgn bn b = sgn bn (b - a) := by
  cases an <;> cases bn <;> simp at h <;> simp [sgn] <;> omega
theorem sgn_add_more {an bn : Bool} (h : (an == bn) = false) (a b : Int) : sgn an a + sgn bn b = sgn an (a - b) := by
  cases an <;> cases bn <;> simp at h <;> simp [sgn] <;> omega
theorem sgn_big (s : Bool) {m : Int} (h : ¬ m < 340282366920938463463374607431768211456) : ¬ WIn (sgn s m) := by
  cases s <;> simp [sgn, WIn] <;> omega
theorem min_sub {a b : Int} (ha : MIn a) (hb : MIn b) (h : b ≤ a) : MIn (a - b) := by unfold MIn at *; omega
theorem min_add {a b : Int} (ha : MIn a) (hb : MIn b) (h : a + b < 340282366920938463463374607431768211456) : MIn (a + b) := by unfold MIn at *; omega

set_option maxHeartbeats 400000 in
theorem rsumE1 (an bn : Bool) (a b : Int) (ha : MIn a) (hb0 : MIn b) (he : (an == bn) = true) (hf : a + b < 340282366920938463463374607431768211456) (hz : WIn (sgn an (a + b))) (w : World) :
    Calls Try.prog 33 #[.bool an, .agg #[.int .u64 (hiW a), .int .u64 (loW a)], .bool bn, .agg #[.int .u64 (hiW b), .int .u64 (loW b)]] w fun e w' =>
      e = .returned (.tuple #[.agg #[.int .i64 (hiW (fitR (sgn an a + sgn bn b))), .int .u64 (loW (fitR (sgn an a + sgn bn b)))], .int .i64 (fitE (sgn an a + sgn bn b))]) ∧ Below w.heap.size w w' := by
  have HZ := hide (sgn_add_same he a b)
  rw [HZ.out]
  have HD := hide (decide_eq_true hz)
  have HV := hide (wrap128_of hz)
  rw [fitR_of hz, fitE_of hz]
  clear hz
  have HM := min_add ha hb0 hf
  have HF := hide (fitM_t hf)
  have HE := hide (mod128_of HM)
  clear hf
  go_enter Try.func33, Try.ntmps33
  go_wp2_with fail
  refine wp_region_seq (SB (w.heap.size + 3) [] _) [true, true, false, true, false, true] (by kernel_rfl) (by kernel_rfl) rfl (by kernel_rfl) (fun _ _ d _ _ h => by cases d <;> exact h) SB.refl.drew (fun hHeld => ?_)
  refine seq_take ?_ (by rfl) (fun wx hSx => ?_) ?_
  rotate_left
  · (unfold SB at hSx; go_simp; (try with_reducible rfl))
  (try simp only [Act.put, List.setIfInBounds_toArray, List.set_cons_zero, List.set_cons_succ])
  refine seq_take ?_ (by rfl) (fun wx hSx => ?_) ?_
  rotate_left
  · (unfold SB at hSx; go_simp; (try with_reducible rfl))
  (try simp only [Act.put, List.setIfInBounds_toArray, List.set_cons_zero, List.set_cons_succ])
  refine seq_run (by rfl) (fun K hK => ?_)
  go_simp
  refine hK.out _ _ ?_ (fun hHeld => ?_)
  · (repeat (first | (with_reducible exact SB.refl) | (with_reducible exact hHeld) | (with_reducible refine SB.drew ?_) | (with_reducible refine SB.drewN ?_ _) | ((with_reducible refine SB.alloc ?_ ?_ _); (rotate_left); (first | omega | (simp <;> omega))) | ((with_reducible refine SB.setCell ?_ ?_ _); (rotate_left); (focus (simp; done))) | ((with_reducible refine SB.below ?_ hbS ?_); (rotate_left); (first | omega | (simp <;> omega))) | (with_reducible refine SB.undrew ?_) | ((with_reducible refine SB.congr ?_ ?_); (rotate_left); (focus (simp; done))) | ((with_reducible refine SB.realloc ?_ ?_ ?_); (rotate_left); (focus (simp; done)); (focus (simp; done)))))
  clear hK K
  (try simp only [Act.put, List.setIfInBounds_toArray, List.set_cons_zero, List.set_cons_succ])
  refine seq_take ?_ (by rfl) (fun wx hSx => ?_) ?_
  rotate_left
  · (unfold SB at hSx; go_simp; (try with_reducible rfl))
  (try simp only [Act.put, List.setIfInBounds_toArray, List.set_cons_zero, List.set_cons_succ])
  refine seq_run (by rfl) (fun K hK => ?_)
  go_simp
  refine hK.out _ _ ?_ (fun hHeld => ?_)
  · (repeat (first | (with_reducible exact SB.refl) | (with_reducible exact hHeld) | (with_reducible refine SB.drew ?_) | (with_reducible refine SB.drewN ?_ _) | ((with_reducible refine SB.alloc ?_ ?_ _); (rotate_left); (first | omega | (simp <;> omega))) | ((with_reducible refine SB.setCell ?_ ?_ _); (rotate_left); (focus (simp; done))) | ((with_reducible refine SB.below ?_ hbS ?_); (rotate_left); (first | omega | (simp <;> omega))) | (with_reducible refine SB.undrew ?_) | ((with_reducible refine SB.congr ?_ ?_); (rotate_left); (focus (simp; done))) | ((with_reducible refine SB.realloc ?_ ?_ ?_); (rotate_left); (focus (simp; done)); (focus (simp; done)))))
  clear hK K
  (try simp only [Act.put, List.setIfInBounds_toArray, List.set_cons_zero, List.set_cons_succ])
  refine seq_take ?_ (by rfl) (fun wx hSx => ?_) ?_
  rotate_left
  · (unfold SB at hSx; go_simp; (try with_reducible rfl))
  (try simp only [Act.put, List.setIfInBounds_toArray, List.set_cons_zero, List.set_cons_succ])
  refine seq_end ?_
  go_wp2_with fail
  refine (rplus_any a b ha hb0 _).mono ?_
  rintro e w1 ⟨rfl, hb⟩
  rw [HF.out, HE.out]
  have q1B : Below w.heap.size w w1 := (by refine Below.trans ?_ (hb.mono (by first | omega | (simp <;> omega))); (repeat (first | (with_reducible exact Below.refl _ _) | (with_reducible assumption) | ((with_reducible refine Below.alloc ?_ ?_ _); (rotate_left); (first | omega | (simp <;> omega))) | ((with_reducible refine Below.setCell ?_ ?_ _); (rotate_left); (first | omega | (simp <;> omega))) | (with_reducible refine Below.drew ?_) | (with_reducible refine below_drewN ?_ _))))
  have q1z := hb.size
  try simp at q1z
  have q1t : w.heap.size ≤ w1.heap.size := (by omega)
  have q1s0 : w.heap.size < w1.heap.size := (by omega)
  have q1n0_0 : ¬ w1.heap.size = w.heap.size := (by omega)
  have q1n0_1 : ¬ w1.heap.size + 1 = w.heap.size := (by omega)
  have q1n0_2 : ¬ w1.heap.size + 2 = w.heap.size := (by omega)
  have q1c0_0 := hb.cell (p := ⟨w.heap.size, 0, none⟩) (by first | omega | (simp <;> omega))
  simp [go_sem, *] at q1c0_0
  have q1c0_1 := hb.cell (p := ⟨w.heap.size, 1, none⟩) (by first | omega | (simp <;> omega))
  simp [go_sem, *] at q1c0_1
  have q1f0 := fun o => hb.frozen (p := ⟨w.heap.size, o, none⟩) (by first | omega | (simp <;> omega))
  simp [go_sem, *] at q1f0
  have q1s1 : w.heap.size + 1 < w1.heap.size := (by omega)
  have q1n1_0 : ¬ w1.heap.size = w.heap.size + 1 := (by omega)
  have q1n1_1 : ¬ w1.heap.size + 1 = w.heap.size + 1 := (by omega)
  have q1n1_2 : ¬ w1.heap.size + 2 = w.heap.size + 1 := (by omega)
  have q1c1_0 := hb.cell (p := ⟨w.heap.size + 1, 0, none⟩) (by first | omega | (simp <;> omega))
  simp [go_sem, *] at q1c1_0
  have q1c1_1 := hb.cell (p := ⟨w.heap.size + 1, 1, none⟩) (by first | omega | (simp <;> omega))
  simp [go_sem, *] at q1c1_1
  have q1f1 := fun o => hb.frozen (p := ⟨w.heap.size + 1, o, none⟩) (by first | omega | (simp <;> omega))
  simp [go_sem, *] at q1f1
  have q1s2 : w.heap.size + 2 < w1.heap.size := (by omega)
  have q1n2_0 : ¬ w1.heap.size = w.heap.size + 2 := (by omega)
  have q1n2_1 : ¬ w1.heap.size + 1 = w.heap.size + 2 := (by omega)
  have q1n2_2 : ¬ w1.heap.size + 2 = w.heap.size + 2 := (by omega)
  have q1c2_0 := hb.cell (p := ⟨w.heap.size + 2, 0, none⟩) (by first | omega | (simp <;> omega))
  simp [go_sem, *] at q1c2_0
  have q1c2_1 := hb.cell (p := ⟨w.heap.size + 2, 1, none⟩) (by first | omega | (simp <;> omega))
  simp [go_sem, *] at q1c2_1
  have q1f2 := fun o => hb.frozen (p := ⟨w.heap.size + 2, o, none⟩) (by first | omega | (simp <;> omega))
  simp [go_sem, *] at q1f2
  have q1s3 : w.heap.size + 3 < w1.heap.size := (by omega)
  have q1n3_0 : ¬ w1.heap.size = w.heap.size + 3 := (by omega)
  have q1n3_1 : ¬ w1.heap.size + 1 = w.heap.size + 3 := (by omega)
  have q1n3_2 : ¬ w1.heap.size + 2 = w.heap.size + 3 := (by omega)
  have q1c3_0 := hb.cell (p := ⟨w.heap.size + 3, 0, none⟩) (by first | omega | (simp <;> omega))
  simp [go_sem, *] at q1c3_0
  have q1c3_1 := hb.cell (p := ⟨w.heap.size + 3, 1, none⟩) (by first | omega | (simp <;> omega))
  simp [go_sem, *] at q1c3_1
  have q1f3 := fun o => hb.frozen (p := ⟨w.heap.size + 3, o, none⟩) (by first | omega | (simp <;> omega))
  simp [go_sem, *] at q1f3
  have q1o : ∀ b o, b < w.heap.size → w1.cell? ⟨b, o, none⟩ = w.cell? ⟨b, o, none⟩ := fun b o h => q1B.cell (p := ⟨b, o, none⟩) h
  clear hb
  go_wp2_with fail
  refine (rjoin_any an (a + b) HM _).mono ?_
  rintro e w2 ⟨rfl, hb⟩
  rw [HD.out]
  rw [HV.out]
  have q2B : Below w.heap.size w w2 := (by refine Below.trans ?_ (hb.mono (by first | omega | (simp <;> omega))); (repeat (first | (with_reducible exact Below.refl _ _) | (with_reducible assumption) | ((with_reducible refine Below.alloc ?_ ?_ _); (rotate_left); (first | omega | (simp <;> omega))) | ((with_reducible refine Below.setCell ?_ ?_ _); (rotate_left); (first | omega | (simp <;> omega))) | (with_reducible refine Below.drew ?_) | (with_reducible refine below_drewN ?_ _))))
  have q2z := hb.size
  try simp at q2z
  have q2t : w.heap.size ≤ w2.heap.size := (by omega)
  have q2s0 : w.heap.size < w2.heap.size := (by omega)
  have q2n0_0 : ¬ w2.heap.size = w.heap.size := (by omega)
  have q2n0_1 : ¬ w2.heap.size + 1 = w.heap.size := (by omega)
  have q2n0_2 : ¬ w2.heap.size + 2 = w.heap.size := (by omega)
  have q2c0_0 := hb.cell (p := ⟨w.heap.size, 0, none⟩) (by first | omega | (simp <;> omega))
  simp [go_sem, *] at q2c0_0
  have q2c0_1 := hb.cell (p := ⟨w.heap.size, 1, none⟩) (by first | omega | (simp <;> omega))
  simp [go_sem, *] at q2c0_1
  have q2f0 := fun o => hb.frozen (p := ⟨w.heap.size, o, none⟩) (by first | omega | (simp <;> omega))
  simp [go_sem, *] at q2f0
  have q2s1 : w.heap.size + 1 < w2.heap.size := (by omega)
  have q2n1_0 : ¬ w2.heap.size = w.heap.size + 1 := (by omega)
  have q2n1_1 : ¬ w2.heap.size + 1 = w.heap.size + 1 := (by omega)
  have q2n1_2 : ¬ w2.heap.size + 2 = w.heap.size + 1 := (by omega)
  have q2c1_0 := hb.cell (p := ⟨w.heap.size + 1, 0, none⟩) (by first | omega | (simp <;> omega))
  simp [go_sem, *] at q2c1_0
  have q2c1_1 := hb.cell (p := ⟨w.heap.size + 1, 1, none⟩) (by first | omega | (simp <;> omega))
  simp [go_sem, *] at q2c1_1
  have q2f1 := fun o => hb.frozen (p := ⟨w.heap.size + 1, o, none⟩) (by first | omega | (simp <;> omega))
  simp [go_sem, *] at q2f1
  have q2s2 : w.heap.size + 2 < w2.heap.size := (by omega)
  have q2n2_0 : ¬ w2.heap.size = w.heap.size + 2 := (by omega)
  have q2n2_1 : ¬ w2.heap.size + 1 = w.heap.size + 2 := (by omega)
  have q2n2_2 : ¬ w2.heap.size + 2 = w.heap.size + 2 := (by omega)
  have q2c2_0 := hb.cell (p := ⟨w.heap.size + 2, 0, none⟩) (by first | omega | (simp <;> omega))
  simp [go_sem, *] at q2c2_0
  have q2c2_1 := hb.cell (p := ⟨w.heap.size + 2, 1, none⟩) (by first | omega | (simp <;> omega))
  simp [go_sem, *] at q2c2_1
  have q2f2 := fun o => hb.frozen (p := ⟨w.heap.size + 2, o, none⟩) (by first | omega | (simp <;> omega))
  simp [go_sem, *] at q2f2
  have q2s3 : w.heap.size + 3 < w2.heap.size := (by omega)
  have q2n3_0 : ¬ w2.heap.size = w.heap.size + 3 := (by omega)
  have q2n3_1 : ¬ w2.heap.size + 1 = w.heap.size + 3 := (by omega)
  have q2n3_2 : ¬ w2.heap.size + 2 = w.heap.size + 3 := (by omega)
  have q2c3_0 := hb.cell (p := ⟨w.heap.size + 3, 0, none⟩) (by first | omega | (simp <;> omega))
  simp [go_sem, *] at q2c3_0
  have q2c3_1 := hb.cell (p := ⟨w.heap.size + 3, 1, none⟩) (by first | omega | (simp <;> omega))
  simp [go_sem, *] at q2c3_1
  have q2f3 := fun o => hb.frozen (p := ⟨w.heap.size + 3, o, none⟩) (by first | omega | (simp <;> omega))
  simp [go_sem, *] at q2f3
  have q2o : ∀ b o, b < w.heap.size → w2.cell? ⟨b, o, none⟩ = w.cell? ⟨b, o, none⟩ := fun b o h => q2B.cell (p := ⟨b, o, none⟩) h
  clear hb q1o q1f3 q1c3_1 q1c3_0 q1s3 q1f2 q1c2_1 q1c2_0 q1s2 q1f1 q1c1_1 q1c1_0 q1s1 q1f0 q1c0_1 q1c0_0 q1s0 q1z q1B
  go_wp2_with fail
  refine bodyPost_ret (by simp [results, Try.results33, go_sem, *] <;> rfl) rfl ⟨?_, ?_⟩
  · rfl
  (repeat (first | (with_reducible exact Below.refl _ _) | (with_reducible assumption) | ((with_reducible refine Below.alloc ?_ ?_ _); (rotate_left); (first | omega | (simp <;> omega))) | ((with_reducible refine Below.setCell ?_ ?_ _); (rotate_left); (first | omega | (simp <;> omega))) | (with_reducible refine Below.drew ?_) | (with_reducible refine below_drewN ?_ _)))
set_option maxHeartbeats 400000 in
theorem rsumL1 (an bn : Bool) (a b : Int) (ha : MIn a) (hb0 : MIn b) (he : (an == bn) = false) (hf : a < b) (hz : WIn (sgn bn (b - a))) (w : World) :
    Calls Try.prog 33 #[.bool an, .agg #[.int .u64 (hiW a), .int .u64 (loW a)], .bool bn, .agg #[.int .u64 (hiW b), .int .u64 (loW b)]] w fun e w' =>
      e = .returned (.tuple #[.agg #[.int .i64 (hiW (fitR (sgn an a + sgn bn b))), .int .u64 (loW (fitR (sgn an a + sgn bn b)))], .int .i64 (fitE (sgn an a + sgn bn b))]) ∧ Below w.heap.size w w' := by
  have HZ := hide (sgn_add_less he a b)
  rw [HZ.out]
  have HD := hide (decide_eq_true hz)
  have HV := hide (wrap128_of hz)
  rw [fitR_of hz, fitE_of hz]
  clear hz
  have HM := min_sub hb0 ha (Int.le_of_lt hf)
  have HF := hide (decide_eq_true hf)
  have hle := Int.le_of_lt hf
  clear hf
  go_enter Try.func33, Try.ntmps33
  go_wp2_with fail
  refine wp_region_seq (SB (w.heap.size + 3) [] _) [true, true, false, true, false, true] (by kernel_rfl) (by kernel_rfl) rfl (by kernel_rfl) (fun _ _ d _ _ h => by cases d <;> exact h) SB.refl.drew (fun hHeld => ?_)
  refine seq_take ?_ (by rfl) (fun wx hSx => ?_) ?_
  rotate_left
  · (unfold SB at hSx; go_simp; (try with_reducible rfl))
  (try simp only [Act.put, List.setIfInBounds_toArray, List.set_cons_zero, List.set_cons_succ])
  refine seq_take ?_ (by rfl) (fun wx hSx => ?_) ?_
  rotate_left
  · (unfold SB at hSx; go_simp; (try with_reducible rfl))
  (try simp only [Act.put, List.setIfInBounds_toArray, List.set_cons_zero, List.set_cons_succ])
  refine seq_run (by rfl) (fun K hK => ?_)
  go_simp
  refine hK.out _ _ ?_ (fun hHeld => ?_)
  · (repeat (first | (with_reducible exact SB.refl) | (with_reducible exact hHeld) | (with_reducible refine SB.drew ?_) | (with_reducible refine SB.drewN ?_ _) | ((with_reducible refine SB.alloc ?_ ?_ _); (rotate_left); (first | omega | (simp <;> omega))) | ((with_reducible refine SB.setCell ?_ ?_ _); (rotate_left); (focus (simp; done))) | ((with_reducible refine SB.below ?_ hbS ?_); (rotate_left); (first | omega | (simp <;> omega))) | (with_reducible refine SB.undrew ?_) | ((with_reducible refine SB.congr ?_ ?_); (rotate_left); (focus (simp; done))) | ((with_reducible refine SB.realloc ?_ ?_ ?_); (rotate_left); (focus (simp; done)); (focus (simp; done)))))
  clear hK K
  (try simp only [Act.put, List.setIfInBounds_toArray, List.set_cons_zero, List.set_cons_succ])
  refine seq_take ?_ (by rfl) (fun wx hSx => ?_) ?_
  rotate_left
  · (unfold SB at hSx; go_simp; (try with_reducible rfl))
  (try simp only [Act.put, List.setIfInBounds_toArray, List.set_cons_zero, List.set_cons_succ])
  refine seq_run (by rfl) (fun K hK => ?_)
  go_simp
  refine hK.out _ _ ?_ (fun hHeld => ?_)
  · (repeat (first | (with_reducible exact SB.refl) | (with_reducible exact hHeld) | (with_reducible refine SB.drew ?_) | (with_reducible refine SB.drewN ?_ _) | ((with_reducible refine SB.alloc ?_ ?_ _); (rotate_left); (first | omega | (simp <;> omega))) | ((with_reducible refine SB.setCell ?_ ?_ _); (rotate_left); (focus (simp; done))) | ((with_reducible refine SB.below ?_ hbS ?_); (rotate_left); (first | omega | (simp <;> omega))) | (with_reducible refine SB.undrew ?_) | ((with_reducible refine SB.congr ?_ ?_); (rotate_left); (focus (simp; done))) | ((with_reducible refine SB.realloc ?_ ?_ ?_); (rotate_left); (focus (simp; done)); (focus (simp; done)))))
  clear hK K
  (try simp only [Act.put, List.setIfInBounds_toArray, List.set_cons_zero, List.set_cons_succ])
  refine seq_take ?_ (by rfl) (fun wx hSx => ?_) ?_
  rotate_left
  · (unfold SB at hSx; go_simp; (try with_reducible rfl))
  (try simp only [Act.put, List.setIfInBounds_toArray, List.set_cons_zero, List.set_cons_succ])
  refine seq_end ?_
  go_wp2_with fail
  refine (rless_any a b _).mono ?_
  rintro e w1 ⟨rfl, hb⟩
  rw [HF.out]
  have q1B : Below w.heap.size w w1 := (by refine Below.trans ?_ (hb.mono (by first | omega | (simp <;> omega))); (repeat (first | (with_reducible exact Below.refl _ _) | (with_reducible assumption) | ((with_reducible refine Below.alloc ?_ ?_ _); (rotate_left); (first | omega | (simp <;> omega))) | ((with_reducible refine Below.setCell ?_ ?_ _); (rotate_left); (first | omega | (simp <;> omega))) | (with_reducible refine Below.drew ?_) | (with_reducible refine below_drewN ?_ _))))
  have q1z := hb.size
  try simp at q1z
  have q1t : w.heap.size ≤ w1.heap.size := (by omega)
  have q1s0 : w.heap.size < w1.heap.size := (by omega)
  have q1n0_0 : ¬ w1.heap.size = w.heap.size := (by omega)
  have q1n0_1 : ¬ w1.heap.size + 1 = w.heap.size := (by omega)
  have q1n0_2 : ¬ w1.heap.size + 2 = w.heap.size := (by omega)
  have q1c0_0 := hb.cell (p := ⟨w.heap.size, 0, none⟩) (by first | omega | (simp <;> omega))
  simp [go_sem, *] at q1c0_0
  have q1c0_1 := hb.cell (p := ⟨w.heap.size, 1, none⟩) (by first | omega | (simp <;> omega))
  simp [go_sem, *] at q1c0_1
  have q1f0 := fun o => hb.frozen (p := ⟨w.heap.size, o, none⟩) (by first | omega | (simp <;> omega))
  simp [go_sem, *] at q1f0
  have q1s1 : w.heap.size + 1 < w1.heap.size := (by omega)
  have q1n1_0 : ¬ w1.heap.size = w.heap.size + 1 := (by omega)
  have q1n1_1 : ¬ w1.heap.size + 1 = w.heap.size + 1 := (by omega)
  have q1n1_2 : ¬ w1.heap.size + 2 = w.heap.size + 1 := (by omega)
  have q1c1_0 := hb.cell (p := ⟨w.heap.size + 1, 0, none⟩) (by first | omega | (simp <;> omega))
  simp [go_sem, *] at q1c1_0
  have q1c1_1 := hb.cell (p := ⟨w.heap.size + 1, 1, none⟩) (by first | omega | (simp <;> omega))
  simp [go_sem, *] at q1c1_1
  have q1f1 := fun o => hb.frozen (p := ⟨w.heap.size + 1, o, none⟩) (by first | omega | (simp <;> omega))
  simp [go_sem, *] at q1f1
  have q1s2 : w.heap.size + 2 < w1.heap.size := (by omega)
  have q1n2_0 : ¬ w1.heap.size = w.heap.size + 2 := (by omega)
  have q1n2_1 : ¬ w1.heap.size + 1 = w.heap.size + 2 := (by omega)
  have q1n2_2 : ¬ w1.heap.size + 2 = w.heap.size + 2 := (by omega)
  have q1c2_0 := hb.cell (p := ⟨w.heap.size + 2, 0, none⟩) (by first | omega | (simp <;> omega))
  simp [go_sem, *] at q1c2_0
  have q1c2_1 := hb.cell (p := ⟨w.heap.size + 2, 1, none⟩) (by first | omega | (simp <;> omega))
  simp [go_sem, *] at q1c2_1
  have q1f2 := fun o => hb.frozen (p := ⟨w.heap.size + 2, o, none⟩) (by first | omega | (simp <;> omega))
  simp [go_sem, *] at q1f2
  have q1s3 : w.heap.size + 3 < w1.heap.size := (by omega)
  have q1n3_0 : ¬ w1.heap.size = w.heap.size + 3 := (by omega)
  have q1n3_1 : ¬ w1.heap.size + 1 = w.heap.size + 3 := (by omega)
  have q1n3_2 : ¬ w1.heap.size + 2 = w.heap.size + 3 := (by omega)
  have q1c3_0 := hb.cell (p := ⟨w.heap.size + 3, 0, none⟩) (by first | omega | (simp <;> omega))
  simp [go_sem, *] at q1c3_0
  have q1c3_1 := hb.cell (p := ⟨w.heap.size + 3, 1, none⟩) (by first | omega | (simp <;> omega))
  simp [go_sem, *] at q1c3_1
  have q1f3 := fun o => hb.frozen (p := ⟨w.heap.size + 3, o, none⟩) (by first | omega | (simp <;> omega))
  simp [go_sem, *] at q1f3
  have q1o : ∀ b o, b < w.heap.size → w1.cell? ⟨b, o, none⟩ = w.cell? ⟨b, o, none⟩ := fun b o h => q1B.cell (p := ⟨b, o, none⟩) h
  clear hb
  go_wp2_with fail
  refine (rminus_any b a hb0 ha hle _).mono ?_
  rintro e w2 ⟨rfl, hb⟩
  have q2B : Below w.heap.size w w2 := (by refine Below.trans ?_ (hb.mono (by first | omega | (simp <;> omega))); (repeat (first | (with_reducible exact Below.refl _ _) | (with_reducible assumption) | ((with_reducible refine Below.alloc ?_ ?_ _); (rotate_left); (first | omega | (simp <;> omega))) | ((with_reducible refine Below.setCell ?_ ?_ _); (rotate_left); (first | omega | (simp <;> omega))) | (with_reducible refine Below.drew ?_) | (with_reducible refine below_drewN ?_ _))))
  have q2z := hb.size
  try simp at q2z
  have q2t : w.heap.size ≤ w2.heap.size := (by omega)
  have q2s0 : w.heap.size < w2.heap.size := (by omega)
  have q2n0_0 : ¬ w2.heap.size = w.heap.size := (by omega)
  have q2n0_1 : ¬ w2.heap.size + 1 = w.heap.size := (by omega)
  have q2n0_2 : ¬ w2.heap.size + 2 = w.heap.size := (by omega)
  have q2c0_0 := hb.cell (p := ⟨w.heap.size, 0, none⟩) (by first | omega | (simp <;> omega))
  simp [go_sem, *] at q2c0_0
  have q2c0_1 := hb.cell (p := ⟨w.heap.size, 1, none⟩) (by first | omega | (simp <;> omega))
  simp [go_sem, *] at q2c0_1
  have q2f0 := fun o => hb.frozen (p := ⟨w.heap.size, o, none⟩) (by first | omega | (simp <;> omega))
  simp [go_sem, *] at q2f0
  have q2s1 : w.heap.size + 1 < w2.heap.size := (by omega)
  have q2n1_0 : ¬ w2.heap.size = w.heap.size + 1 := (by omega)
  have q2n1_1 : ¬ w2.heap.size + 1 = w.heap.size + 1 := (by omega)
  have q2n1_2 : ¬ w2.heap.size + 2 = w.heap.size + 1 := (by omega)
  have q2c1_0 := hb.cell (p := ⟨w.heap.size + 1, 0, none⟩) (by first | omega | (simp <;> omega))
  simp [go_sem, *] at q2c1_0
  have q2c1_1 := hb.cell (p := ⟨w.heap.size + 1, 1, none⟩) (by first | omega | (simp <;> omega))
  simp [go_sem, *] at q2c1_1
  have q2f1 := fun o => hb.frozen (p := ⟨w.heap.size + 1, o, none⟩) (by first | omega | (simp <;> omega))
  simp [go_sem, *] at q2f1
  have q2s2 : w.heap.size + 2 < w2.heap.size := (by omega)
  have q2n2_0 : ¬ w2.heap.size = w.heap.size + 2 := (by omega)
  have q2n2_1 : ¬ w2.heap.size + 1 = w.heap.size + 2 := (by omega)
  have q2n2_2 : ¬ w2.heap.size + 2 = w.heap.size + 2 := (by omega)
  have q2c2_0 := hb.cell (p := ⟨w.heap.size + 2, 0, none⟩) (by first | omega | (simp <;> omega))
  simp [go_sem, *] at q2c2_0
  have q2c2_1 := hb.cell (p := ⟨w.heap.size + 2, 1, none⟩) (by first | omega | (simp <;> omega))
  simp [go_sem, *] at q2c2_1
  have q2f2 := fun o => hb.frozen (p := ⟨w.heap.size + 2, o, none⟩) (by first | omega | (simp <;> omega))
  simp [go_sem, *] at q2f2
  have q2s3 : w.heap.size + 3 < w2.heap.size := (by omega)
  have q2n3_0 : ¬ w2.heap.size = w.heap.size + 3 := (by omega)
  have q2n3_1 : ¬ w2.heap.size + 1 = w.heap.size + 3 := (by omega)
  have q2n3_2 : ¬ w2.heap.size + 2 = w.heap.size + 3 := (by omega)
  have q2c3_0 := hb.cell (p := ⟨w.heap.size + 3, 0, none⟩) (by first | omega | (simp <;> omega))
  simp [go_sem, *] at q2c3_0
  have q2c3_1 := hb.cell (p := ⟨w.heap.size + 3, 1, none⟩) (by first | omega | (simp <;> omega))
  simp [go_sem, *] at q2c3_1
  have q2f3 := fun o => hb.frozen (p := ⟨w.heap.size + 3, o, none⟩) (by first | omega | (simp <;> omega))
  simp [go_sem, *] at q2f3
  have q2o : ∀ b o, b < w.heap.size → w2.cell? ⟨b, o, none⟩ = w.cell? ⟨b, o, none⟩ := fun b o h => q2B.cell (p := ⟨b, o, none⟩) h
  clear hb q1o q1f3 q1c3_1 q1c3_0 q1s3 q1f2 q1c2_1 q1c2_0 q1s2 q1f1 q1c1_1 q1c1_0 q1s1 q1f0 q1c0_1 q1c0_0 q1s0 q1z q1B
  go_wp2_with fail
  refine (rjoin_any bn (b - a) HM _).mono ?_
  rintro e w3 ⟨rfl, hb⟩
  rw [HD.out]
  rw [HV.out]
  have q3B : Below w.heap.size w w3 := (by refine Below.trans ?_ (hb.mono (by first | omega | (simp <;> omega))); (repeat (first | (with_reducible exact Below.refl _ _) | (with_reducible assumption) | ((with_reducible refine Below.alloc ?_ ?_ _); (rotate_left); (first | omega | (simp <;> omega))) | ((with_reducible refine Below.setCell ?_ ?_ _); (rotate_left); (first | omega | (simp <;> omega))) | (with_reducible refine Below.drew ?_) | (with_reducible refine below_drewN ?_ _))))
  have q3z := hb.size
  try simp at q3z
  have q3t : w.heap.size ≤ w3.heap.size := (by omega)
  have q3s0 : w.heap.size < w3.heap.size := (by omega)
  have q3n0_0 : ¬ w3.heap.size = w.heap.size := (by omega)
  have q3n0_1 : ¬ w3.heap.size + 1 = w.heap.size := (by omega)
  have q3n0_2 : ¬ w3.heap.size + 2 = w.heap.size := (by omega)
  have q3c0_0 := hb.cell (p := ⟨w.heap.size, 0, none⟩) (by first | omega | (simp <;> omega))
  simp [go_sem, *] at q3c0_0
  have q3c0_1 := hb.cell (p := ⟨w.heap.size, 1, none⟩) (by first | omega | (simp <;> omega))
  simp [go_sem, *] at q3c0_1
  have q3f0 := fun o => hb.frozen (p := ⟨w.heap.size, o, none⟩) (by first | omega | (simp <;> omega))
  simp [go_sem, *] at q3f0
  have q3s1 : w.heap.size + 1 < w3.heap.size := (by omega)
  have q3n1_0 : ¬ w3.heap.size = w.heap.size + 1 := (by omega)
  have q3n1_1 : ¬ w3.heap.size + 1 = w.heap.size + 1 := (by omega)
  have q3n1_2 : ¬ w3.heap.size + 2 = w.heap.size + 1 := (by omega)
  have q3c1_0 := hb.cell (p := ⟨w.heap.size + 1, 0, none⟩) (by first | omega | (simp <;> omega))
  simp [go_sem, *] at q3c1_0
  have q3c1_1 := hb.cell (p := ⟨w.heap.size + 1, 1, none⟩) (by first | omega | (simp <;> omega))
  simp [go_sem, *] at q3c1_1
  have q3f1 := fun o => hb.frozen (p := ⟨w.heap.size + 1, o, none⟩) (by first | omega | (simp <;> omega))
  simp [go_sem, *] at q3f1
  have q3s2 : w.heap.size + 2 < w3.heap.size := (by omega)
  have q3n2_0 : ¬ w3.heap.size = w.heap.size + 2 := (by omega)
  have q3n2_1 : ¬ w3.heap.size + 1 = w.heap.size + 2 := (by omega)
  have q3n2_2 : ¬ w3.heap.size + 2 = w.heap.size + 2 := (by omega)
  have q3c2_0 := hb.cell (p := ⟨w.heap.size + 2, 0, none⟩) (by first | omega | (simp <;> omega))
  simp [go_sem, *] at q3c2_0
  have q3c2_1 := hb.cell (p := ⟨w.heap.size + 2, 1, none⟩) (by first | omega | (simp <;> omega))
  simp [go_sem, *] at q3c2_1
  have q3f2 := fun o => hb.frozen (p := ⟨w.heap.size + 2, o, none⟩) (by first | omega | (simp <;> omega))
  simp [go_sem, *] at q3f2
  have q3s3 : w.heap.size + 3 < w3.heap.size := (by omega)
  have q3n3_0 : ¬ w3.heap.size = w.heap.size + 3 := (by omega)
  have q3n3_1 : ¬ w3.heap.size + 1 = w.heap.size + 3 := (by omega)
  have q3n3_2 : ¬ w3.heap.size + 2 = w.heap.size + 3 := (by omega)
  have q3c3_0 := hb.cell (p := ⟨w.heap.size + 3, 0, none⟩) (by first | omega | (simp <;> omega))
  simp [go_sem, *] at q3c3_0
  have q3c3_1 := hb.cell (p := ⟨w.heap.size + 3, 1, none⟩) (by first | omega | (simp <;> omega))
  simp [go_sem, *] at q3c3_1
  have q3f3 := fun o => hb.frozen (p := ⟨w.heap.size + 3, o, none⟩) (by first | omega | (simp <;> omega))
  simp [go_sem, *] at q3f3
  have q3o : ∀ b o, b < w.heap.size → w3.cell? ⟨b, o, none⟩ = w.cell? ⟨b, o, none⟩ := fun b o h => q3B.cell (p := ⟨b, o, none⟩) h
  clear hb q2o q2f3 q2c3_1 q2c3_0 q2s3 q2f2 q2c2_1 q2c2_0 q2s2 q2f1 q2c1_1 q2c1_0 q2s1 q2f0 q2c0_1 q2c0_0 q2s0 q2z q2B
  go_wp2_with fail
  refine bodyPost_ret (by simp [results, Try.results33, go_sem, *] <;> rfl) rfl ⟨?_, ?_⟩
  · rfl
  (repeat (first | (with_reducible exact Below.refl _ _) | (with_reducible assumption) | ((with_reducible refine Below.alloc ?_ ?_ _); (rotate_left); (first | omega | (simp <;> omega))) | ((with_reducible refine Below.setCell ?_ ?_ _); (rotate_left); (first | omega | (simp <;> omega))) | (with_reducible refine Below.drew ?_) | (with_reducible refine below_drewN ?_ _)))
set_option maxHeartbeats 400000 in
theorem rsumG1 (an bn : Bool) (a b : Int) (ha : MIn a) (hb0 : MIn b) (he : (an == bn) = false) (hf : ¬ a < b) (hz : WIn (sgn an (a - b))) (w : World) :
    Calls Try.prog 33 #[.bool an, .agg #[.int .u64 (hiW a), .int .u64 (loW a)], .bool bn, .agg #[.int .u64 (hiW b), .int .u64 (loW b)]] w fun e w' =>
      e = .returned (.tuple #[.agg #[.int .i64 (hiW (fitR (sgn an a + sgn bn b))), .int .u64 (loW (fitR (sgn an a + sgn bn b)))], .int .i64 (fitE (sgn an a + sgn bn b))]) ∧ Below w.heap.size w w' := by
  have HZ := hide (sgn_add_more he a b)
  rw [HZ.out]
  have HD := hide (decide_eq_true hz)
  have HV := hide (wrap128_of hz)
  rw [fitR_of hz, fitE_of hz]
  clear hz
  have HM := min_sub ha hb0 (Int.not_lt.1 hf)
  have HF := hide (decide_eq_false hf)
  have hle := Int.not_lt.1 hf
  clear hf
  go_enter Try.func33, Try.ntmps33
  go_wp2_with fail
  refine wp_region_seq (SB (w.heap.size + 3) [] _) [true, true, false, true, false, true] (by kernel_rfl) (by kernel_rfl) rfl (by kernel_rfl) (fun _ _ d _ _ h => by cases d <;> exact h) SB.refl.drew (fun hHeld => ?_)
  refine seq_take ?_ (by rfl) (fun wx hSx => ?_) ?_
  rotate_left
  · (unfold SB at hSx; go_simp; (try with_reducible rfl))
  (try simp only [Act.put, List.setIfInBounds_toArray, List.set_cons_zero, List.set_cons_succ])
  refine seq_take ?_ (by rfl) (fun wx hSx => ?_) ?_
  rotate_left
  · (unfold SB at hSx; go_simp; (try with_reducible rfl))
  (try simp only [Act.put, List.setIfInBounds_toArray, List.set_cons_zero, List.set_cons_succ])
  refine seq_run (by rfl) (fun K hK => ?_)
  go_simp
  refine hK.out _ _ ?_ (fun hHeld => ?_)
  · (repeat (first | (with_reducible exact SB.refl) | (with_reducible exact hHeld) | (with_reducible refine SB.drew ?_) | (with_reducible refine SB.drewN ?_ _) | ((with_reducible refine SB.alloc ?_ ?_ _); (rotate_left); (first | omega | (simp <;> omega))) | ((with_reducible refine SB.setCell ?_ ?_ _); (rotate_left); (focus (simp; done))) | ((with_reducible refine SB.below ?_ hbS ?_); (rotate_left); (first | omega | (simp <;> omega))) | (with_reducible refine SB.undrew ?_) | ((with_reducible refine SB.congr ?_ ?_); (rotate_left); (focus (simp; done))) | ((with_reducible refine SB.realloc ?_ ?_ ?_); (rotate_left); (focus (simp; done)); (focus (simp; done)))))
  clear hK K
  (try simp only [Act.put, List.setIfInBounds_toArray, List.set_cons_zero, List.set_cons_succ])
  refine seq_take ?_ (by rfl) (fun wx hSx => ?_) ?_
  rotate_left
  · (unfold SB at hSx; go_simp; (try with_reducible rfl))
  (try simp only [Act.put, List.setIfInBounds_toArray, List.set_cons_zero, List.set_cons_succ])
  refine seq_run (by rfl) (fun K hK => ?_)
  go_simp
  refine hK.out _ _ ?_ (fun hHeld => ?_)
  · (repeat (first | (with_reducible exact SB.refl) | (with_reducible exact hHeld) | (with_reducible refine SB.drew ?_) | (with_reducible refine SB.drewN ?_ _) | ((with_reducible refine SB.alloc ?_ ?_ _); (rotate_left); (first | omega | (simp <;> omega))) | ((with_reducible refine SB.setCell ?_ ?_ _); (rotate_left); (focus (simp; done))) | ((with_reducible refine SB.below ?_ hbS ?_); (rotate_left); (first | omega | (simp <;> omega))) | (with_reducible refine SB.undrew ?_) | ((with_reducible refine SB.congr ?_ ?_); (rotate_left); (focus (simp; done))) | ((with_reducible refine SB.realloc ?_ ?_ ?_); (rotate_left); (focus (simp; done)); (focus (simp; done)))))
  clear hK K
  (try simp only [Act.put, List.setIfInBounds_toArray, List.set_cons_zero, List.set_cons_succ])
  refine seq_take ?_ (by rfl) (fun wx hSx => ?_) ?_
  rotate_left
  · (unfold SB at hSx; go_simp; (try with_reducible rfl))
  (try simp only [Act.put, List.setIfInBounds_toArray, List.set_cons_zero, List.set_cons_succ])
  refine seq_end ?_
  go_wp2_with fail
  refine (rless_any a b _).mono ?_
  rintro e w1 ⟨rfl, hb⟩
  rw [HF.out]
  have q1B : Below w.heap.size w w1 := (by refine Below.trans ?_ (hb.mono (by first | omega | (simp <;> omega))); (repeat (first | (with_reducible exact Below.refl _ _) | (with_reducible assumption) | ((with_reducible refine Below.alloc ?_ ?_ _); (rotate_left); (first | omega | (simp <;> omega))) | ((with_reducible refine Below.setCell ?_ ?_ _); (rotate_left); (first | omega | (simp <;> omega))) | (with_reducible refine Below.drew ?_) | (with_reducible refine below_drewN ?_ _))))
  have q1z := hb.size
  try simp at q1z
  have q1t : w.heap.size ≤ w1.heap.size := (by omega)
  have q1s0 : w.heap.size < w1.heap.size := (by omega)
  have q1n0_0 : ¬ w1.heap.size = w.heap.size := (by omega)
  have q1n0_1 : ¬ w1.heap.size + 1 = w.heap.size := (by omega)
  have q1n0_2 : ¬ w1.heap.size + 2 = w.heap.size := (by omega)
  have q1c0_0 := hb.cell (p := ⟨w.heap.size, 0, none⟩) (by first | omega | (simp <;> omega))
  simp [go_sem, *] at q1c0_0
  have q1c0_1 := hb.cell (p := ⟨w.heap.size, 1, none⟩) (by first | omega | (simp <;> omega))
  simp [go_sem, *] at q1c0_1
  have q1f0 := fun o => hb.frozen (p := ⟨w.heap.size, o, none⟩) (by first | omega | (simp <;> omega))
  simp [go_sem, *] at q1f0
  have q1s1 : w.heap.size + 1 < w1.heap.size := (by omega)
  have q1n1_0 : ¬ w1.heap.size = w.heap.size + 1 := (by omega)
  have q1n1_1 : ¬ w1.heap.size + 1 = w.heap.size + 1 := (by omega)
  have q1n1_2 : ¬ w1.heap.size + 2 = w.heap.size + 1 := (by omega)
  have q1c1_0 := hb.cell (p := ⟨w.heap.size + 1, 0, none⟩) (by first | omega | (simp <;> omega))
  simp [go_sem, *] at q1c1_0
  have q1c1_1 := hb.cell (p := ⟨w.heap.size + 1, 1, none⟩) (by first | omega | (simp <;> omega))
  simp [go_sem, *] at q1c1_1
  have q1f1 := fun o => hb.frozen (p := ⟨w.heap.size + 1, o, none⟩) (by first | omega | (simp <;> omega))
  simp [go_sem, *] at q1f1
  have q1s2 : w.heap.size + 2 < w1.heap.size := (by omega)
  have q1n2_0 : ¬ w1.heap.size = w.heap.size + 2 := (by omega)
  have q1n2_1 : ¬ w1.heap.size + 1 = w.heap.size + 2 := (by omega)
  have q1n2_2 : ¬ w1.heap.size + 2 = w.heap.size + 2 := (by omega)
  have q1c2_0 := hb.cell (p := ⟨w.heap.size + 2, 0, none⟩) (by first | omega | (simp <;> omega))
  simp [go_sem, *] at q1c2_0
  have q1c2_1 := hb.cell (p := ⟨w.heap.size + 2, 1, none⟩) (by first | omega | (simp <;> omega))
  simp [go_sem, *] at q1c2_1
  have q1f2 := fun o => hb.frozen (p := ⟨w.heap.size + 2, o, none⟩) (by first | omega | (simp <;> omega))
  simp [go_sem, *] at q1f2
  have q1s3 : w.heap.size + 3 < w1.heap.size := (by omega)
  have q1n3_0 : ¬ w1.heap.size = w.heap.size + 3 := (by omega)
  have q1n3_1 : ¬ w1.heap.size + 1 = w.heap.size + 3 := (by omega)
  have q1n3_2 : ¬ w1.heap.size + 2 = w.heap.size + 3 := (by omega)
  have q1c3_0 := hb.cell (p := ⟨w.heap.size + 3, 0, none⟩) (by first | omega | (simp <;> omega))
  simp [go_sem, *] at q1c3_0
  have q1c3_1 := hb.cell (p := ⟨w.heap.size + 3, 1, none⟩) (by first | omega | (simp <;> omega))
  simp [go_sem, *] at q1c3_1
  have q1f3 := fun o => hb.frozen (p := ⟨w.heap.size + 3, o, none⟩) (by first | omega | (simp <;> omega))
  simp [go_sem, *] at q1f3
  have q1o : ∀ b o, b < w.heap.size → w1.cell? ⟨b, o, none⟩ = w.cell? ⟨b, o, none⟩ := fun b o h => q1B.cell (p := ⟨b, o, none⟩) h
  clear hb
  go_wp2_with fail
  refine (rminus_any a b ha hb0 hle _).mono ?_
  rintro e w2 ⟨rfl, hb⟩
  have q2B : Below w.heap.size w w2 := (by refine Below.trans ?_ (hb.mono (by first | omega | (simp <;> omega))); (repeat (first | (with_reducible exact Below.refl _ _) | (with_reducible assumption) | ((with_reducible refine Below.alloc ?_ ?_ _); (rotate_left); (first | omega | (simp <;> omega))) | ((with_reducible refine Below.setCell ?_ ?_ _); (rotate_left); (first | omega | (simp <;> omega))) | (with_reducible refine Below.drew ?_) | (with_reducible refine below_drewN ?_ _))))
  have q2z := hb.size
  try simp at q2z
  have q2t : w.heap.size ≤ w2.heap.size := (by omega)
  have q2s0 : w.heap.size < w2.heap.size := (by omega)
  have q2n0_0 : ¬ w2.heap.size = w.heap.size := (by omega)
  have q2n0_1 : ¬ w2.heap.size + 1 = w.heap.size := (by omega)
  have q2n0_2 : ¬ w2.heap.size + 2 = w.heap.size := (by omega)
  have q2c0_0 := hb.cell (p := ⟨w.heap.size, 0, none⟩) (by first | omega | (simp <;> omega))
  simp [go_sem, *] at q2c0_0
  have q2c0_1 := hb.cell (p := ⟨w.heap.size, 1, none⟩) (by first | omega | (simp <;> omega))
  simp [go_sem, *] at q2c0_1
  have q2f0 := fun o => hb.frozen (p := ⟨w.heap.size, o, none⟩) (by first | omega | (simp <;> omega))
  simp [go_sem, *] at q2f0
  have q2s1 : w.heap.size + 1 < w2.heap.size := (by omega)
  have q2n1_0 : ¬ w2.heap.size = w.heap.size + 1 := (by omega)
  have q2n1_1 : ¬ w2.heap.size + 1 = w.heap.size + 1 := (by omega)
  have q2n1_2 : ¬ w2.heap.size + 2 = w.heap.size + 1 := (by omega)
  have q2c1_0 := hb.cell (p := ⟨w.heap.size + 1, 0, none⟩) (by first | omega | (simp <;> omega))
  simp [go_sem, *] at q2c1_0
  have q2c1_1 := hb.cell (p := ⟨w.heap.size + 1, 1, none⟩) (by first | omega | (simp <;> omega))
  simp [go_sem, *] at q2c1_1
  have q2f1 := fun o => hb.frozen (p := ⟨w.heap.size + 1, o, none⟩) (by first | omega | (simp <;> omega))
  simp [go_sem, *] at q2f1
  have q2s2 : w.heap.size + 2 < w2.heap.size := (by omega)
  have q2n2_0 : ¬ w2.heap.size = w.heap.size + 2 := (by omega)
  have q2n2_1 : ¬ w2.heap.size + 1 = w.heap.size + 2 := (by omega)
  have q2n2_2 : ¬ w2.heap.size + 2 = w.heap.size + 2 := (by omega)
  have q2c2_0 := hb.cell (p := ⟨w.heap.size + 2, 0, none⟩) (by first | omega | (simp <;> omega))
  simp [go_sem, *] at q2c2_0
  have q2c2_1 := hb.cell (p := ⟨w.heap.size + 2, 1, none⟩) (by first | omega | (simp <;> omega))
  simp [go_sem, *] at q2c2_1
  have q2f2 := fun o => hb.frozen (p := ⟨w.heap.size + 2, o, none⟩) (by first | omega | (simp <;> omega))
  simp [go_sem, *] at q2f2
  have q2s3 : w.heap.size + 3 < w2.heap.size := (by omega)
  have q2n3_0 : ¬ w2.heap.size = w.heap.size + 3 := (by omega)
  have q2n3_1 : ¬ w2.heap.size + 1 = w.heap.size + 3 := (by omega)
  have q2n3_2 : ¬ w2.heap.size + 2 = w.heap.size + 3 := (by omega)
  have q2c3_0 := hb.cell (p := ⟨w.heap.size + 3, 0, none⟩) (by first | omega | (simp <;> omega))
  simp [go_sem, *] at q2c3_0
  have q2c3_1 := hb.cell (p := ⟨w.heap.size + 3, 1, none⟩) (by first | omega | (simp <;> omega))
  simp [go_sem, *] at q2c3_1
  have q2f3 := fun o => hb.frozen (p := ⟨w.heap.size + 3, o, none⟩) (by first | omega | (simp <;> omega))
  simp [go_sem, *] at q2f3
  have q2o : ∀ b o, b < w.heap.size → w2.cell? ⟨b, o, none⟩ = w.cell? ⟨b, o, none⟩ := fun b o h => q2B.cell (p := ⟨b, o, none⟩) h
  clear hb q1o q1f3 q1c3_1 q1c3_0 q1s3 q1f2 q1c2_1 q1c2_0 q1s2 q1f1 q1c1_1 q1c1_0 q1s1 q1f0 q1c0_1 q1c0_0 q1s0 q1z q1B
  go_wp2_with fail
  refine (rjoin_any an (a - b) HM _).mono ?_
  rintro e w3 ⟨rfl, hb⟩
  rw [HD.out]
  rw [HV.out]
  have q3B : Below w.heap.size w w3 := (by refine Below.trans ?_ (hb.mono (by first | omega | (simp <;> omega))); (repeat (first | (with_reducible exact Below.refl _ _) | (with_reducible assumption) | ((with_reducible refine Below.alloc ?_ ?_ _); (rotate_left); (first | omega | (simp <;> omega))) | ((with_reducible refine Below.setCell ?_ ?_ _); (rotate_left); (first | omega | (simp <;> omega))) | (with_reducible refine Below.drew ?_) | (with_reducible refine below_drewN ?_ _))))
  have q3z := hb.size
  try simp at q3z
  have q3t : w.heap.size ≤ w3.heap.size := (by omega)
  have q3s0 : w.heap.size < w3.heap.size := (by omega)
  have q3n0_0 : ¬ w3.heap.size = w.heap.size := (by omega)
  have q3n0_1 : ¬ w3.heap.size + 1 = w.heap.size := (by omega)
  have q3n0_2 : ¬ w3.heap.size + 2 = w.heap.size := (by omega)
  have q3c0_0 := hb.cell (p := ⟨w.heap.size, 0, none⟩) (by first | omega | (simp <;> omega))
  simp [go_sem, *] at q3c0_0
  have q3c0_1 := hb.cell (p := ⟨w.heap.size, 1, none⟩) (by first | omega | (simp <;> omega))
  simp [go_sem, *] at q3c0_1
  have q3f0 := fun o => hb.frozen (p := ⟨w.heap.size, o, none⟩) (by first | omega | (simp <;> omega))
  simp [go_sem, *] at q3f0
  have q3s1 : w.heap.size + 1 < w3.heap.size := (by omega)
  have q3n1_0 : ¬ w3.heap.size = w.heap.size + 1 := (by omega)
  have q3n1_1 : ¬ w3.heap.size + 1 = w.heap.size + 1 := (by omega)
  have q3n1_2 : ¬ w3.heap.size + 2 = w.heap.size + 1 := (by omega)
  have q3c1_0 := hb.cell (p := ⟨w.heap.size + 1, 0, none⟩) (by first | omega | (simp <;> omega))
  simp [go_sem, *] at q3c1_0
  have q3c1_1 := hb.cell (p := ⟨w.heap.size + 1, 1, none⟩) (by first | omega | (simp <;> omega))
  simp [go_sem, *] at q3c1_1
  have q3f1 := fun o => hb.frozen (p := ⟨w.heap.size + 1, o, none⟩) (by first | omega | (simp <;> omega))
  simp [go_sem, *] at q3f1
  have q3s2 : w.heap.size + 2 < w3.heap.size := (by omega)
  have q3n2_0 : ¬ w3.heap.size = w.heap.size + 2 := (by omega)
  have q3n2_1 : ¬ w3.heap.size + 1 = w.heap.size + 2 := (by omega)
  have q3n2_2 : ¬ w3.heap.size + 2 = w.heap.size + 2 := (by omega)
  have q3c2_0 := hb.cell (p := ⟨w.heap.size + 2, 0, none⟩) (by first | omega | (simp <;> omega))
  simp [go_sem, *] at q3c2_0
  have q3c2_1 := hb.cell (p := ⟨w.heap.size + 2, 1, none⟩) (by first | omega | (simp <;> omega))
  simp [go_sem, *] at q3c2_1
  have q3f2 := fun o => hb.frozen (p := ⟨w.heap.size + 2, o, none⟩) (by first | omega | (simp <;> omega))
  simp [go_sem, *] at q3f2
  have q3s3 : w.heap.size + 3 < w3.heap.size := (by omega)
  have q3n3_0 : ¬ w3.heap.size = w.heap.size + 3 := (by omega)
  have q3n3_1 : ¬ w3.heap.size + 1 = w.heap.size + 3 := (by omega)
  have q3n3_2 : ¬ w3.heap.size + 2 = w.heap.size + 3 := (by omega)
  have q3c3_0 := hb.cell (p := ⟨w.heap.size + 3, 0, none⟩) (by first | omega | (simp <;> omega))
  simp [go_sem, *] at q3c3_0
  have q3c3_1 := hb.cell (p := ⟨w.heap.size + 3, 1, none⟩) (by first | omega | (simp <;> omega))
  simp [go_sem, *] at q3c3_1
  have q3f3 := fun o => hb.frozen (p := ⟨w.heap.size + 3, o, none⟩) (by first | omega | (simp <;> omega))
  simp [go_sem, *] at q3f3
  have q3o : ∀ b o, b < w.heap.size → w3.cell? ⟨b, o, none⟩ = w.cell? ⟨b, o, none⟩ := fun b o h => q3B.cell (p := ⟨b, o, none⟩) h
  clear hb q2o q2f3 q2c3_1 q2c3_0 q2s3 q2f2 q2c2_1 q2c2_0 q2s2 q2f1 q2c1_1 q2c1_0 q2s1 q2f0 q2c0_1 q2c0_0 q2s0 q2z q2B
  go_wp2_with fail
  refine bodyPost_ret (by simp [results, Try.results33, go_sem, *] <;> rfl) rfl ⟨?_, ?_⟩
  · rfl
  (repeat (first | (with_reducible exact Below.refl _ _) | (with_reducible assumption) | ((with_reducible refine Below.alloc ?_ ?_ _); (rotate_left); (first | omega | (simp <;> omega))) | ((with_reducible refine Below.setCell ?_ ?_ _); (rotate_left); (first | omega | (simp <;> omega))) | (with_reducible refine Below.drew ?_) | (with_reducible refine below_drewN ?_ _)))
set_option maxHeartbeats 400000 in
theorem rsumE2 (an bn : Bool) (a b : Int) (ha : MIn a) (hb0 : MIn b) (he : (an == bn) = true) (hf : a + b < 340282366920938463463374607431768211456) (hz : ¬ WIn (sgn an (a + b))) (w : World) :
    Calls Try.prog 33 #[.bool an, .agg #[.int .u64 (hiW a), .int .u64 (loW a)], .bool bn, .agg #[.int .u64 (hiW b), .int .u64 (loW b)]] w fun e w' =>
      e = .returned (.tuple #[.agg #[.int .i64 (hiW (fitR (sgn an a + sgn bn b))), .int .u64 (loW (fitR (sgn an a + sgn bn b)))], .int .i64 (fitE (sgn an a + sgn bn b))]) ∧ Below w.heap.size w w' := by
  have HZ := hide (sgn_add_same he a b)
  rw [HZ.out]
  have HD := hide (decide_eq_false hz)
  rw [fitR_not hz, fitE_not hz, hi_zero, lo_zero]
  clear hz
  have HM := min_add ha hb0 hf
  have HF := hide (fitM_t hf)
  have HE := hide (mod128_of HM)
  clear hf
  go_enter Try.func33, Try.ntmps33
  go_wp2_with fail
  refine wp_region_seq (SB (w.heap.size + 3) [] _) [true, true, false, true, false, true] (by kernel_rfl) (by kernel_rfl) rfl (by kernel_rfl) (fun _ _ d _ _ h => by cases d <;> exact h) SB.refl.drew (fun hHeld => ?_)
  refine seq_take ?_ (by rfl) (fun wx hSx => ?_) ?_
  rotate_left
  · (unfold SB at hSx; go_simp; (try with_reducible rfl))
  (try simp only [Act.put, List.setIfInBounds_toArray, List.set_cons_zero, List.set_cons_succ])
  refine seq_take ?_ (by rfl) (fun wx hSx => ?_) ?_
  rotate_left
  · (unfold SB at hSx; go_simp; (try with_reducible rfl))
  (try simp only [Act.put, List.setIfInBounds_toArray, List.set_cons_zero, List.set_cons_succ])
  refine seq_run (by rfl) (fun K hK => ?_)
  go_simp
  refine hK.out _ _ ?_ (fun hHeld => ?_)
  · (repeat (first | (with_reducible exact SB.refl) | (with_reducible exact hHeld) | (with_reducible refine SB.drew ?_) | (with_reducible refine SB.drewN ?_ _) | ((with_reducible refine SB.alloc ?_ ?_ _); (rotate_left); (first | omega | (simp <;> omega))) | ((with_reducible refine SB.setCell ?_ ?_ _); (rotate_left); (focus (simp; done))) | ((with_reducible refine SB.below ?_ hbS ?_); (rotate_left); (first | omega | (simp <;> omega))) | (with_reducible refine SB.undrew ?_) | ((with_reducible refine SB.congr ?_ ?_); (rotate_left); (focus (simp; done))) | ((with_reducible refine SB.realloc ?_ ?_ ?_); (rotate_left); (focus (simp; done)); (focus (simp; done)))))
  clear hK K
  (try simp only [Act.put, List.setIfInBounds_toArray, List.set_cons_zero, List.set_cons_succ])
  refine seq_take ?_ (by rfl) (fun wx hSx => ?_) ?_
  rotate_left
  · (unfold SB at hSx; go_simp; (try with_reducible rfl))
  (try simp only [Act.put, List.setIfInBounds_toArray, List.set_cons_zero, List.set_cons_succ])
  refine seq_run (by rfl) (fun K hK => ?_)
  go_simp
  refine hK.out _ _ ?_ (fun hHeld => ?_)
  · (repeat (first | (with_reducible exact SB.refl) | (with_reducible exact hHeld) | (with_reducible refine SB.drew ?_) | (with_reducible refine SB.drewN ?_ _) | ((with_reducible refine SB.alloc ?_ ?_ _); (rotate_left); (first | omega | (simp <;> omega))) | ((with_reducible refine SB.setCell ?_ ?_ _); (rotate_left); (focus (simp; done))) | ((with_reducible refine SB.below ?_ hbS ?_); (rotate_left); (first | omega | (simp <;> omega))) | (with_reducible refine SB.undrew ?_) | ((with_reducible refine SB.congr ?_ ?_); (rotate_left); (focus (simp; done))) | ((with_reducible refine SB.realloc ?_ ?_ ?_); (rotate_left); (focus (simp; done)); (focus (simp; done)))))
  clear hK K
  (try simp only [Act.put, List.setIfInBounds_toArray, List.set_cons_zero, List.set_cons_succ])
  refine seq_take ?_ (by rfl) (fun wx hSx => ?_) ?_
  rotate_left
  · (unfold SB at hSx; go_simp; (try with_reducible rfl))
  (try simp only [Act.put, List.setIfInBounds_toArray, List.set_cons_zero, List.set_cons_succ])
  refine seq_end ?_
  go_wp2_with fail
  refine (rplus_any a b ha hb0 _).mono ?_
  rintro e w1 ⟨rfl, hb⟩
  rw [HF.out, HE.out]
  have q1B : Below w.heap.size w w1 := (by refine Below.trans ?_ (hb.mono (by first | omega | (simp <;> omega))); (repeat (first | (with_reducible exact Below.refl _ _) | (with_reducible assumption) | ((with_reducible refine Below.alloc ?_ ?_ _); (rotate_left); (first | omega | (simp <;> omega))) | ((with_reducible refine Below.setCell ?_ ?_ _); (rotate_left); (first | omega | (simp <;> omega))) | (with_reducible refine Below.drew ?_) | (with_reducible refine below_drewN ?_ _))))
  have q1z := hb.size
  try simp at q1z
  have q1t : w.heap.size ≤ w1.heap.size := (by omega)
  have q1s0 : w.heap.size < w1.heap.size := (by omega)
  have q1n0_0 : ¬ w1.heap.size = w.heap.size := (by omega)
  have q1n0_1 : ¬ w1.heap.size + 1 = w.heap.size := (by omega)
  have q1n0_2 : ¬ w1.heap.size + 2 = w.heap.size := (by omega)
  have q1c0_0 := hb.cell (p := ⟨w.heap.size, 0, none⟩) (by first | omega | (simp <;> omega))
  simp [go_sem, *] at q1c0_0
  have q1c0_1 := hb.cell (p := ⟨w.heap.size, 1, none⟩) (by first | omega | (simp <;> omega))
  simp [go_sem, *] at q1c0_1
  have q1f0 := fun o => hb.frozen (p := ⟨w.heap.size, o, none⟩) (by first | omega | (simp <;> omega))
  simp [go_sem, *] at q1f0
  have q1s1 : w.heap.size + 1 < w1.heap.size := (by omega)
  have q1n1_0 : ¬ w1.heap.size = w.heap.size + 1 := (by omega)
  have q1n1_1 : ¬ w1.heap.size + 1 = w.heap.size + 1 := (by omega)
  have q1n1_2 : ¬ w1.heap.size + 2 = w.heap.size + 1 := (by omega)
  have q1c1_0 := hb.cell (p := ⟨w.heap.size + 1, 0, none⟩) (by first | omega | (simp <;> omega))
  simp [go_sem, *] at q1c1_0
  have q1c1_1 := hb.cell (p := ⟨w.heap.size + 1, 1, none⟩) (by first | omega | (simp <;> omega))
  simp [go_sem, *] at q1c1_1
  have q1f1 := fun o => hb.frozen (p := ⟨w.heap.size + 1, o, none⟩) (by first | omega | (simp <;> omega))
  simp [go_sem, *] at q1f1
  have q1s2 : w.heap.size + 2 < w1.heap.size := (by omega)
  have q1n2_0 : ¬ w1.heap.size = w.heap.size + 2 := (by omega)
  have q1n2_1 : ¬ w1.heap.size + 1 = w.heap.size + 2 := (by omega)
  have q1n2_2 : ¬ w1.heap.size + 2 = w.heap.size + 2 := (by omega)
  have q1c2_0 := hb.cell (p := ⟨w.heap.size + 2, 0, none⟩) (by first | omega | (simp <;> omega))
  simp [go_sem, *] at q1c2_0
  have q1c2_1 := hb.cell (p := ⟨w.heap.size + 2, 1, none⟩) (by first | omega | (simp <;> omega))
  simp [go_sem, *] at q1c2_1
  have q1f2 := fun o => hb.frozen (p := ⟨w.heap.size + 2, o, none⟩) (by first | omega | (simp <;> omega))
  simp [go_sem, *] at q1f2
  have q1s3 : w.heap.size + 3 < w1.heap.size := (by omega)
  have q1n3_0 : ¬ w1.heap.size = w.heap.size + 3 := (by omega)
  have q1n3_1 : ¬ w1.heap.size + 1 = w.heap.size + 3 := (by omega)
  have q1n3_2 : ¬ w1.heap.size + 2 = w.heap.size + 3 := (by omega)
  have q1c3_0 := hb.cell (p := ⟨w.heap.size + 3, 0, none⟩) (by first | omega | (simp <;> omega))
  simp [go_sem, *] at q1c3_0
  have q1c3_1 := hb.cell (p := ⟨w.heap.size + 3, 1, none⟩) (by first | omega | (simp <;> omega))
  simp [go_sem, *] at q1c3_1
  have q1f3 := fun o => hb.frozen (p := ⟨w.heap.size + 3, o, none⟩) (by first | omega | (simp <;> omega))
  simp [go_sem, *] at q1f3
  have q1o : ∀ b o, b < w.heap.size → w1.cell? ⟨b, o, none⟩ = w.cell? ⟨b, o, none⟩ := fun b o h => q1B.cell (p := ⟨b, o, none⟩) h
  clear hb
  go_wp2_with fail
  refine (rjoin_any an (a + b) HM _).mono ?_
  rintro e w2 ⟨rfl, hb⟩
  rw [HD.out]
  have q2B : Below w.heap.size w w2 := (by refine Below.trans ?_ (hb.mono (by first | omega | (simp <;> omega))); (repeat (first | (with_reducible exact Below.refl _ _) | (with_reducible assumption) | ((with_reducible refine Below.alloc ?_ ?_ _); (rotate_left); (first | omega | (simp <;> omega))) | ((with_reducible refine Below.setCell ?_ ?_ _); (rotate_left); (first | omega | (simp <;> omega))) | (with_reducible refine Below.drew ?_) | (with_reducible refine below_drewN ?_ _))))
  have q2z := hb.size
  try simp at q2z
  have q2t : w.heap.size ≤ w2.heap.size := (by omega)
  have q2s0 : w.heap.size < w2.heap.size := (by omega)
  have q2n0_0 : ¬ w2.heap.size = w.heap.size := (by omega)
  have q2n0_1 : ¬ w2.heap.size + 1 = w.heap.size := (by omega)
  have q2n0_2 : ¬ w2.heap.size + 2 = w.heap.size := (by omega)
  have q2c0_0 := hb.cell (p := ⟨w.heap.size, 0, none⟩) (by first | omega | (simp <;> omega))
  simp [go_sem, *] at q2c0_0
  have q2c0_1 := hb.cell (p := ⟨w.heap.size, 1, none⟩) (by first | omega | (simp <;> omega))
  simp [go_sem, *] at q2c0_1
  have q2f0 := fun o => hb.frozen (p := ⟨w.heap.size, o, none⟩) (by first | omega | (simp <;> omega))
  simp [go_sem, *] at q2f0
  have q2s1 : w.heap.size + 1 < w2.heap.size := (by omega)
  have q2n1_0 : ¬ w2.heap.size = w.heap.size + 1 := (by omega)
  have q2n1_1 : ¬ w2.heap.size + 1 = w.heap.size + 1 := (by omega)
  have q2n1_2 : ¬ w2.heap.size + 2 = w.heap.size + 1 := (by omega)
  have q2c1_0 := hb.cell (p := ⟨w.heap.size + 1, 0, none⟩) (by first | omega | (simp <;> omega))
  simp [go_sem, *] at q2c1_0
  have q2c1_1 := hb.cell (p := ⟨w.heap.size + 1, 1, none⟩) (by first | omega | (simp <;> omega))
  simp [go_sem, *] at q2c1_1
  have q2f1 := fun o => hb.frozen (p := ⟨w.heap.size + 1, o, none⟩) (by first | omega | (simp <;> omega))
  simp [go_sem, *] at q2f1
  have q2s2 : w.heap.size + 2 < w2.heap.size := (by omega)
  have q2n2_0 : ¬ w2.heap.size = w.heap.size + 2 := (by omega)
  have q2n2_1 : ¬ w2.heap.size + 1 = w.heap.size + 2 := (by omega)
  have q2n2_2 : ¬ w2.heap.size + 2 = w.heap.size + 2 := (by omega)
  have q2c2_0 := hb.cell (p := ⟨w.heap.size + 2, 0, none⟩) (by first | omega | (simp <;> omega))
  simp [go_sem, *] at q2c2_0
  have q2c2_1 := hb.cell (p := ⟨w.heap.size + 2, 1, none⟩) (by first | omega | (simp <;> omega))
  simp [go_sem, *] at q2c2_1
  have q2f2 := fun o => hb.frozen (p := ⟨w.heap.size + 2, o, none⟩) (by first | omega | (simp <;> omega))
  simp [go_sem, *] at q2f2
  have q2s3 : w.heap.size + 3 < w2.heap.size := (by omega)
  have q2n3_0 : ¬ w2.heap.size = w.heap.size + 3 := (by omega)
  have q2n3_1 : ¬ w2.heap.size + 1 = w.heap.size + 3 := (by omega)
  have q2n3_2 : ¬ w2.heap.size + 2 = w.heap.size + 3 := (by omega)
  have q2c3_0 := hb.cell (p := ⟨w.heap.size + 3, 0, none⟩) (by first | omega | (simp <;> omega))
  simp [go_sem, *] at q2c3_0
  have q2c3_1 := hb.cell (p := ⟨w.heap.size + 3, 1, none⟩) (by first | omega | (simp <;> omega))
  simp [go_sem, *] at q2c3_1
  have q2f3 := fun o => hb.frozen (p := ⟨w.heap.size + 3, o, none⟩) (by first | omega | (simp <;> omega))
  simp [go_sem, *] at q2f3
  have q2o : ∀ b o, b < w.heap.size → w2.cell? ⟨b, o, none⟩ = w.cell? ⟨b, o, none⟩ := fun b o h => q2B.cell (p := ⟨b, o, none⟩) h
  clear hb q1o q1f3 q1c3_1 q1c3_0 q1s3 q1f2 q1c2_1 q1c2_0 q1s2 q1f1 q1c1_1 q1c1_0 q1s1 q1f0 q1c0_1 q1c0_0 q1s0 q1z q1B
  go_wp2_with fail
  refine bodyPost_ret (by simp [results, Try.results33, go_sem, *] <;> rfl) rfl ⟨?_, ?_⟩
  · rfl
  (repeat (first | (with_reducible exact Below.refl _ _) | (with_reducible assumption) | ((with_reducible refine Below.alloc ?_ ?_ _); (rotate_left); (first | omega | (simp <;> omega))) | ((with_reducible refine Below.setCell ?_ ?_ _); (rotate_left); (first | omega | (simp <;> omega))) | (with_reducible refine Below.drew ?_) | (with_reducible refine below_drewN ?_ _)))
set_option maxHeartbeats 400000 in
theorem rsumL2 (an bn : Bool) (a b : Int) (ha : MIn a) (hb0 : MIn b) (he : (an == bn) = false) (hf : a < b) (hz : ¬ WIn (sgn bn (b - a))) (w : World) :
    Calls Try.prog 33 #[.bool an, .agg #[.int .u64 (hiW a), .int .u64 (loW a)], .bool bn, .agg #[.int .u64 (hiW b), .int .u64 (loW b)]] w fun e w' =>
      e = .returned (.tuple #[.agg #[.int .i64 (hiW (fitR (sgn an a + sgn bn b))), .int .u64 (loW (fitR (sgn an a + sgn bn b)))], .int .i64 (fitE (sgn an a + sgn bn b))]) ∧ Below w.heap.size w w' := by
  have HZ := hide (sgn_add_less he a b)
  rw [HZ.out]
  have HD := hide (decide_eq_false hz)
  rw [fitR_not hz, fitE_not hz, hi_zero, lo_zero]
  clear hz
  have HM := min_sub hb0 ha (Int.le_of_lt hf)
  have HF := hide (decide_eq_true hf)
  have hle := Int.le_of_lt hf
  clear hf
  go_enter Try.func33, Try.ntmps33
  go_wp2_with fail
  refine wp_region_seq (SB (w.heap.size + 3) [] _) [true, true, false, true, false, true] (by kernel_rfl) (by kernel_rfl) rfl (by kernel_rfl) (fun _ _ d _ _ h => by cases d <;> exact h) SB.refl.drew (fun hHeld => ?_)
  refine seq_take ?_ (by rfl) (fun wx hSx => ?_) ?_
  rotate_left
  · (unfold SB at hSx; go_simp; (try with_reducible rfl))
  (try simp only [Act.put, List.setIfInBounds_toArray, List.set_cons_zero, List.set_cons_succ])
  refine seq_take ?_ (by rfl) (fun wx hSx => ?_) ?_
  rotate_left
  · (unfold SB at hSx; go_simp; (try with_reducible rfl))
  (try simp only [Act.put, List.setIfInBounds_toArray, List.set_cons_zero, List.set_cons_succ])
  refine seq_run (by rfl) (fun K hK => ?_)
  go_simp
  refine hK.out _ _ ?_ (fun hHeld => ?_)
  · (repeat (first | (with_reducible exact SB.refl) | (with_reducible exact hHeld) | (with_reducible refine SB.drew ?_) | (with_reducible refine SB.drewN ?_ _) | ((with_reducible refine SB.alloc ?_ ?_ _); (rotate_left); (first | omega | (simp <;> omega))) | ((with_reducible refine SB.setCell ?_ ?_ _); (rotate_left); (focus (simp; done))) | ((with_reducible refine SB.below ?_ hbS ?_); (rotate_left); (first | omega | (simp <;> omega))) | (with_reducible refine SB.undrew ?_) | ((with_reducible refine SB.congr ?_ ?_); (rotate_left); (focus (simp; done))) | ((with_reducible refine SB.realloc ?_ ?_ ?_); (rotate_left); (focus (simp; done)); (focus (simp; done)))))
  clear hK K
  (try simp only [Act.put, List.setIfInBounds_toArray, List.set_cons_zero, List.set_cons_succ])
  refine seq_take ?_ (by rfl) (fun wx hSx => ?_) ?_
  rotate_left
  · (unfold SB at hSx; go_simp; (try with_reducible rfl))
  (try simp only [Act.put, List.setIfInBounds_toArray, List.set_cons_zero, List.set_cons_succ])
  refine seq_run (by rfl) (fun K hK => ?_)
  go_simp
  refine hK.out _ _ ?_ (fun hHeld => ?_)
  · (repeat (first | (with_reducible exact SB.refl) | (with_reducible exact hHeld) | (with_reducible refine SB.drew ?_) | (with_reducible refine SB.drewN ?_ _) | ((with_reducible refine SB.alloc ?_ ?_ _); (rotate_left); (first | omega | (simp <;> omega))) | ((with_reducible refine SB.setCell ?_ ?_ _); (rotate_left); (focus (simp; done))) | ((with_reducible refine SB.below ?_ hbS ?_); (rotate_left); (first | omega | (simp <;> omega))) | (with_reducible refine SB.undrew ?_) | ((with_reducible refine SB.congr ?_ ?_); (rotate_left); (focus (simp; done))) | ((with_reducible refine SB.realloc ?_ ?_ ?_); (rotate_left); (focus (simp; done)); (focus (simp; done)))))
  clear hK K
  (try simp only [Act.put, List.setIfInBounds_toArray, List.set_cons_zero, List.set_cons_succ])
  refine seq_take ?_ (by rfl) (fun wx hSx => ?_) ?_
  rotate_left
  · (unfold SB at hSx; go_simp; (try with_reducible rfl))
  (try simp only [Act.put, List.setIfInBounds_toArray, List.set_cons_zero, List.set_cons_succ])
  refine seq_end ?_
  go_wp2_with fail
  refine (rless_any a b _).mono ?_
  rintro e w1 ⟨rfl, hb⟩
  rw [HF.out]
  have q1B : Below w.heap.size w w1 := (by refine Below.trans ?_ (hb.mono (by first | omega | (simp <;> omega))); (repeat (first | (with_reducible exact Below.refl _ _) | (with_reducible assumption) | ((with_reducible refine Below.alloc ?_ ?_ _); (rotate_left); (first | omega | (simp <;> omega))) | ((with_reducible refine Below.setCell ?_ ?_ _); (rotate_left); (first | omega | (simp <;> omega))) | (with_reducible refine Below.drew ?_) | (with_reducible refine below_drewN ?_ _))))
  have q1z := hb.size
  try simp at q1z
  have q1t : w.heap.size ≤ w1.heap.size := (by omega)
  have q1s0 : w.heap.size < w1.heap.size := (by omega)
  have q1n0_0 : ¬ w1.heap.size = w.heap.size := (by omega)
  have q1n0_1 : ¬ w1.heap.size + 1 = w.heap.size := (by omega)
  have q1n0_2 : ¬ w1.heap.size + 2 = w.heap.size := (by omega)
  have q1c0_0 := hb.cell (p := ⟨w.heap.size, 0, none⟩) (by first | omega | (simp <;> omega))
  simp [go_sem, *] at q1c0_0
  have q1c0_1 := hb.cell (p := ⟨w.heap.size, 1, none⟩) (by first | omega | (simp <;> omega))
  simp [go_sem, *] at q1c0_1
  have q1f0 := fun o => hb.frozen (p := ⟨w.heap.size, o, none⟩) (by first | omega | (simp <;> omega))
  simp [go_sem, *] at q1f0
  have q1s1 : w.heap.size + 1 < w1.heap.size := (by omega)
  have q1n1_0 : ¬ w1.heap.size = w.heap.size + 1 := (by omega)
  have q1n1_1 : ¬ w1.heap.size + 1 = w.heap.size + 1 := (by omega)
  have q1n1_2 : ¬ w1.heap.size + 2 = w.heap.size + 1 := (by omega)
  have q1c1_0 := hb.cell (p := ⟨w.heap.size + 1, 0, none⟩) (by first | omega | (simp <;> omega))
  simp [go_sem, *] at q1c1_0
  have q1c1_1 := hb.cell (p := ⟨w.heap.size + 1, 1, none⟩) (by first | omega | (simp <;> omega))
  simp [go_sem, *] at q1c1_1
  have q1f1 := fun o => hb.frozen (p := ⟨w.heap.size + 1, o, none⟩) (by first | omega | (simp <;> omega))
  simp [go_sem, *] at q1f1
  have q1s2 : w.heap.size + 2 < w1.heap.size := (by omega)
  have q1n2_0 : ¬ w1.heap.size = w.heap.size + 2 := (by omega)
  have q1n2_1 : ¬ w1.heap.size + 1 = w.heap.size + 2 := (by omega)
  have q1n2_2 : ¬ w1.heap.size + 2 = w.heap.size + 2 := (by omega)
  have q1c2_0 := hb.cell (p := ⟨w.heap.size + 2, 0, none⟩) (by first | omega | (simp <;> omega))
  simp [go_sem, *] at q1c2_0
  have q1c2_1 := hb.cell (p := ⟨w.heap.size + 2, 1, none⟩) (by first | omega | (simp <;> omega))
  simp [go_sem, *] at q1c2_1
  have q1f2 := fun o => hb.frozen (p := ⟨w.heap.size + 2, o, none⟩) (by first | omega | (simp <;> omega))
  simp [go_sem, *] at q1f2
  have q1s3 : w.heap.size + 3 < w1.heap.size := (by omega)
  have q1n3_0 : ¬ w1.heap.size = w.heap.size + 3 := (by omega)
  have q1n3_1 : ¬ w1.heap.size + 1 = w.heap.size + 3 := (by omega)
  have q1n3_2 : ¬ w1.heap.size + 2 = w.heap.size + 3 := (by omega)
  have q1c3_0 := hb.cell (p := ⟨w.heap.size + 3, 0, none⟩) (by first | omega | (simp <;> omega))
  simp [go_sem, *] at q1c3_0
  have q1c3_1 := hb.cell (p := ⟨w.heap.size + 3, 1, none⟩) (by first | omega | (simp <;> omega))
  simp [go_sem, *] at q1c3_1
  have q1f3 := fun o => hb.frozen (p := ⟨w.heap.size + 3, o, none⟩) (by first | omega | (simp <;> omega))
  simp [go_sem, *] at q1f3
  have q1o : ∀ b o, b < w.heap.size → w1.cell? ⟨b, o, none⟩ = w.cell? ⟨b, o, none⟩ := fun b o h => q1B.cell (p := ⟨b, o, none⟩) h
  clear hb
  go_wp2_with fail
  refine (rminus_any b a hb0 ha hle _).mono ?_
  rintro e w2 ⟨rfl, hb⟩
  have q2B : Below w.heap.size w w2 := (by refine Below.trans ?_ (hb.mono (by first | omega | (simp <;> omega))); (repeat (first | (with_reducible exact Below.refl _ _) | (with_reducible assumption) | ((with_reducible refine Below.alloc ?_ ?_ _); (rotate_left); (first | omega | (simp <;> omega))) | ((with_reducible refine Below.setCell ?_ ?_ _); (rotate_left); (first | omega | (simp <;> omega))) | (with_reducible refine Below.drew ?_) | (with_reducible refine below_drewN ?_ _))))
  have q2z := hb.size
  try simp at q2z
  have q2t : w.heap.size ≤ w2.heap.size := (by omega)
  have q2s0 : w.heap.size < w2.heap.size := (by omega)
  have q2n0_0 : ¬ w2.heap.size = w.heap.size := (by omega)
  have q2n0_1 : ¬ w2.heap.size + 1 = w.heap.size := (by omega)
  have q2n0_2 : ¬ w2.heap.size + 2 = w.heap.size := (by omega)
  have q2c0_0 := hb.cell (p := ⟨w.heap.size, 0, none⟩) (by first | omega | (simp <;> omega))
  simp [go_sem, *] at q2c0_0
  have q2c0_1 := hb.cell (p := ⟨w.heap.size, 1, none⟩) (by first | omega | (simp <;> omega))
  simp [go_sem, *] at q2c0_1
  have q2f0 := fun o => hb.frozen (p := ⟨w.heap.size, o, none⟩) (by first | omega | (simp <;> omega))
  simp [go_sem, *] at q2f0
  have q2s1 : w.heap.size + 1 < w2.heap.size := (by omega)
  have q2n1_0 : ¬ w2.heap.size = w.heap.size + 1 := (by omega)
  have q2n1_1 : ¬ w2.heap.size + 1 = w.heap.size + 1 := (by omega)
  have q2n1_2 : ¬ w2.heap.size + 2 = w.heap.size + 1 := (by omega)
  have q2c1_0 := hb.cell (p := ⟨w.heap.size + 1, 0, none⟩) (by first | omega | (simp <;> omega))
  simp [go_sem, *] at q2c1_0
  have q2c1_1 := hb.cell (p := ⟨w.heap.size + 1, 1, none⟩) (by first | omega | (simp <;> omega))
  simp [go_sem, *] at q2c1_1
  have q2f1 := fun o => hb.frozen (p := ⟨w.heap.size + 1, o, none⟩) (by first | omega | (simp <;> omega))
  simp [go_sem, *] at q2f1
  have q2s2 : w.heap.size + 2 < w2.heap.size := (by omega)
  have q2n2_0 : ¬ w2.heap.size = w.heap.size + 2 := (by omega)
  have q2n2_1 : ¬ w2.heap.size + 1 = w.heap.size + 2 := (by omega)
  have q2n2_2 : ¬ w2.heap.size + 2 = w.heap.size + 2 := (by omega)
  have q2c2_0 := hb.cell (p := ⟨w.heap.size + 2, 0, none⟩) (by first | omega | (simp <;> omega))
  simp [go_sem, *] at q2c2_0
  have q2c2_1 := hb.cell (p := ⟨w.heap.size + 2, 1, none⟩) (by first | omega | (simp <;> omega))
  simp [go_sem, *] at q2c2_1
  have q2f2 := fun o => hb.frozen (p := ⟨w.heap.size + 2, o, none⟩) (by first | omega | (simp <;> omega))
  simp [go_sem, *] at q2f2
  have q2s3 : w.heap.size + 3 < w2.heap.size := (by omega)
  have q2n3_0 : ¬ w2.heap.size = w.heap.size + 3 := (by omega)
  have q2n3_1 : ¬ w2.heap.size + 1 = w.heap.size + 3 := (by omega)
  have q2n3_2 : ¬ w2.heap.size + 2 = w.heap.size + 3 := (by omega)
  have q2c3_0 := hb.cell (p := ⟨w.heap.size + 3, 0, none⟩) (by first | omega | (simp <;> omega))
  simp [go_sem, *] at q2c3_0
  have q2c3_1 := hb.cell (p := ⟨w.heap.size + 3, 1, none⟩) (by first | omega | (simp <;> omega))
  simp [go_sem, *] at q2c3_1
  have q2f3 := fun o => hb.frozen (p := ⟨w.heap.size + 3, o, none⟩) (by first | omega | (simp <;> omega))
  simp [go_sem, *] at q2f3
  have q2o : ∀ b o, b < w.heap.size → w2.cell? ⟨b, o, none⟩ = w.cell? ⟨b, o, none⟩ := fun b o h => q2B.cell (p := ⟨b, o, none⟩) h
  clear hb q1o q1f3 q1c3_1 q1c3_0 q1s3 q1f2 q1c2_1 q1c2_0 q1s2 q1f1 q1c1_1 q1c1_0 q1s1 q1f0 q1c0_1 q1c0_0 q1s0 q1z q1B
  go_wp2_with fail
  refine (rjoin_any bn (b - a) HM _).mono ?_
  rintro e w3 ⟨rfl, hb⟩
  rw [HD.out]
  have q3B : Below w.heap.size w w3 := (by refine Below.trans ?_ (hb.mono (by first | omega | (simp <;> omega))); (repeat (first | (with_reducible exact Below.refl _ _) | (with_reducible assumption) | ((with_reducible refine Below.alloc ?_ ?_ _); (rotate_left); (first | omega | (simp <;> omega))) | ((with_reducible refine Below.setCell ?_ ?_ _); (rotate_left); (first | omega | (simp <;> omega))) | (with_reducible refine Below.drew ?_) | (with_reducible refine below_drewN ?_ _))))
  have q3z := hb.size
  try simp at q3z
  have q3t : w.heap.size ≤ w3.heap.size := (by omega)
  have q3s0 : w.heap.size < w3.heap.size := (by omega)
  have q3n0_0 : ¬ w3.heap.size = w.heap.size := (by omega)
  have q3n0_1 : ¬ w3.heap.size + 1 = w.heap.size := (by omega)
  have q3n0_2 : ¬ w3.heap.size + 2 = w.heap.size := (by omega)
  have q3c0_0 := hb.cell (p := ⟨w.heap.size, 0, none⟩) (by first | omega | (simp <;> omega))
  simp [go_sem, *] at q3c0_0
  have q3c0_1 := hb.cell (p := ⟨w.heap.size, 1, none⟩) (by first | omega | (simp <;> omega))
  simp [go_sem, *] at q3c0_1
  have q3f0 := fun o => hb.frozen (p := ⟨w.heap.size, o, none⟩) (by first | omega | (simp <;> omega))
  simp [go_sem, *] at q3f0
  have q3s1 : w.heap.size + 1 < w3.heap.size := (by omega)
  have q3n1_0 : ¬ w3.heap.size = w.heap.size + 1 := (by omega)
  have q3n1_1 : ¬ w3.heap.size + 1 = w.heap.size + 1 := (by omega)
  have q3n1_2 : ¬ w3.heap.size + 2 = w.heap.size + 1 := (by omega)
  have q3c1_0 := hb.cell (p := ⟨w.heap.size + 1, 0, none⟩) (by first | omega | (simp <;> omega))
  simp [go_sem, *] at q3c1_0
  have q3c1_1 := hb.cell (p := ⟨w.heap.size + 1, 1, none⟩) (by first | omega | (simp <;> omega))
  simp [go_sem, *] at q3c1_1
  have q3f1 := fun o => hb.frozen (p := ⟨w.heap.size + 1, o, none⟩) (by first | omega | (simp <;> omega))
  simp [go_sem, *] at q3f1
  have q3s2 : w.heap.size + 2 < w3.heap.size := (by omega)
  have q3n2_0 : ¬ w3.heap.size = w.heap.size + 2 := (by omega)
  have q3n2_1 : ¬ w3.heap.size + 1 = w.heap.size + 2 := (by omega)
  have q3n2_2 : ¬ w3.heap.size + 2 = w.heap.size + 2 := (by omega)
  have q3c2_0 := hb.cell (p := ⟨w.heap.size + 2, 0, none⟩) (by first | omega | (simp <;> omega))
  simp [go_sem, *] at q3c2_0
  have q3c2_1 := hb.cell (p := ⟨w.heap.size + 2, 1, none⟩) (by first | omega | (simp <;> omega))
  simp [go_sem, *] at q3c2_1
  have q3f2 := fun o => hb.frozen (p := ⟨w.heap.size + 2, o, none⟩) (by first | omega | (simp <;> omega))
  simp [go_sem, *] at q3f2
  have q3s3 : w.heap.size + 3 < w3.heap.size := (by omega)
  have q3n3_0 : ¬ w3.heap.size = w.heap.size + 3 := (by omega)
  have q3n3_1 : ¬ w3.heap.size + 1 = w.heap.size + 3 := (by omega)
  have q3n3_2 : ¬ w3.heap.size + 2 = w.heap.size + 3 := (by omega)
  have q3c3_0 := hb.cell (p := ⟨w.heap.size + 3, 0, none⟩) (by first | omega | (simp <;> omega))
  simp [go_sem, *] at q3c3_0
  have q3c3_1 := hb.cell (p := ⟨w.heap.size + 3, 1, none⟩) (by first | omega | (simp <;> omega))
  simp [go_sem, *] at q3c3_1
  have q3f3 := fun o => hb.frozen (p := ⟨w.heap.size + 3, o, none⟩) (by first | omega | (simp <;> omega))
  simp [go_sem, *] at q3f3
  have q3o : ∀ b o, b < w.heap.size → w3.cell? ⟨b, o, none⟩ = w.cell? ⟨b, o, none⟩ := fun b o h => q3B.cell (p := ⟨b, o, none⟩) h
  clear hb q2o q2f3 q2c3_1 q2c3_0 q2s3 q2f2 q2c2_1 q2c2_0 q2s2 q2f1 q2c1_1 q2c1_0 q2s1 q2f0 q2c0_1 q2c0_0 q2s0 q2z q2B
  go_wp2_with fail
  refine bodyPost_ret (by simp [results, Try.results33, go_sem, *] <;> rfl) rfl ⟨?_, ?_⟩
  · rfl
  (repeat (first | (with_reducible exact Below.refl _ _) | (with_reducible assumption) | ((with_reducible refine Below.alloc ?_ ?_ _); (rotate_left); (first | omega | (simp <;> omega))) | ((with_reducible refine Below.setCell ?_ ?_ _); (rotate_left); (first | omega | (simp <;> omega))) | (with_reducible refine Below.drew ?_) | (with_reducible refine below_drewN ?_ _)))
set_option maxHeartbeats 400000 in
theorem rsumG2 (an bn : Bool) (a b : Int) (ha : MIn a) (hb0 : MIn b) (he : (an == bn) = false) (hf : ¬ a < b) (hz : ¬ WIn (sgn an (a - b))) (w : World) :
    Calls Try.prog 33 #[.bool an, .agg #[.int .u64 (hiW a), .int .u64 (loW a)], .bool bn, .agg #[.int .u64 (hiW b), .int .u64 (loW b)]] w fun e w' =>
      e = .returned (.tuple #[.agg #[.int .i64 (hiW (fitR (sgn an a + sgn bn b))), .int .u64 (loW (fitR (sgn an a + sgn bn b)))], .int .i64 (fitE (sgn an a + sgn bn b))]) ∧ Below w.heap.size w w' := by
  have HZ := hide (sgn_add_more he a b)
  rw [HZ.out]
  have HD := hide (decide_eq_false hz)
  rw [fitR_not hz, fitE_not hz, hi_zero, lo_zero]
  clear hz
  have HM := min_sub ha hb0 (Int.not_lt.1 hf)
  have HF := hide (decide_eq_false hf)
  have hle := Int.not_lt.1 hf
  clear hf
  go_enter Try.func33, Try.ntmps33
  go_wp2_with fail
  refine wp_region_seq (SB (w.heap.size + 3) [] _) [true, true, false, true, false, true] (by kernel_rfl) (by kernel_rfl) rfl (by kernel_rfl) (fun _ _ d _ _ h => by cases d <;> exact h) SB.refl.drew (fun hHeld => ?_)
  refine seq_take ?_ (by rfl) (fun wx hSx => ?_) ?_
  rotate_left
  · (unfold SB at hSx; go_simp; (try with_reducible rfl))
  (try simp only [Act.put, List.setIfInBounds_toArray, List.set_cons_zero, List.set_cons_succ])
  refine seq_take ?_ (by rfl) (fun wx hSx => ?_) ?_
  rotate_left
  · (unfold SB at hSx; go_simp; (try with_reducible rfl))
  (try simp only [Act.put, List.setIfInBounds_toArray, List.set_cons_zero, List.set_cons_succ])
  refine seq_run (by rfl) (fun K hK => ?_)
  go_simp
  refine hK.out _ _ ?_ (fun hHeld => ?_)
  · (repeat (first | (with_reducible exact SB.refl) | (with_reducible exact hHeld) | (with_reducible refine SB.drew ?_) | (with_reducible refine SB.drewN ?_ _) | ((with_reducible refine SB.alloc ?_ ?_ _); (rotate_left); (first | omega | (simp <;> omega))) | ((with_reducible refine SB.setCell ?_ ?_ _); (rotate_left); (focus (simp; done))) | ((with_reducible refine SB.below ?_ hbS ?_); (rotate_left); (first | omega | (simp <;> omega))) | (with_reducible refine SB.undrew ?_) | ((with_reducible refine SB.congr ?_ ?_); (rotate_left); (focus (simp; done))) | ((with_reducible refine SB.realloc ?_ ?_ ?_); (rotate_left); (focus (simp; done)); (focus (simp; done)))))
  clear hK K
  (try simp only [Act.put, List.setIfInBounds_toArray, List.set_cons_zero, List.set_cons_succ])
  refine seq_take ?_ (by rfl) (fun wx hSx => ?_) ?_
  rotate_left
  · (unfold SB at hSx; go_simp; (try with_reducible rfl))
  (try simp only [Act.put, List.setIfInBounds_toArray, List.set_cons_zero, List.set_cons_succ])
  refine seq_run (by rfl) (fun K hK => ?_)
  go_simp
  refine hK.out _ _ ?_ (fun hHeld => ?_)
  · (repeat (first | (with_reducible exact SB.refl) | (with_reducible exact hHeld) | (with_reducible refine SB.drew ?_) | (with_reducible refine SB.drewN ?_ _) | ((with_reducible refine SB.alloc ?_ ?_ _); (rotate_left); (first | omega | (simp <;> omega))) | ((with_reducible refine SB.setCell ?_ ?_ _); (rotate_left); (focus (simp; done))) | ((with_reducible refine SB.below ?_ hbS ?_); (rotate_left); (first | omega | (simp <;> omega))) | (with_reducible refine SB.undrew ?_) | ((with_reducible refine SB.congr ?_ ?_); (rotate_left); (focus (simp; done))) | ((with_reducible refine SB.realloc ?_ ?_ ?_); (rotate_left); (focus (simp; done)); (focus (simp; done)))))
  clear hK K
  (try simp only [Act.put, List.setIfInBounds_toArray, List.set_cons_zero, List.set_cons_succ])
  refine seq_take ?_ (by rfl) (fun wx hSx => ?_) ?_
  rotate_left
  · (unfold SB at hSx; go_simp; (try with_reducible rfl))
  (try simp only [Act.put, List.setIfInBounds_toArray, List.set_cons_zero, List.set_cons_succ])
  refine seq_end ?_
  go_wp2_with fail
  refine (rless_any a b _).mono ?_
  rintro e w1 ⟨rfl, hb⟩
  rw [HF.out]
  have q1B : Below w.heap.size w w1 := (by refine Below.trans ?_ (hb.mono (by first | omega | (simp <;> omega))); (repeat (first | (with_reducible exact Below.refl _ _) | (with_reducible assumption) | ((with_reducible refine Below.alloc ?_ ?_ _); (rotate_left); (first | omega | (simp <;> omega))) | ((with_reducible refine Below.setCell ?_ ?_ _); (rotate_left); (first | omega | (simp <;> omega))) | (with_reducible refine Below.drew ?_) | (with_reducible refine below_drewN ?_ _))))
  have q1z := hb.size
  try simp at q1z
  have q1t : w.heap.size ≤ w1.heap.size := (by omega)
  have q1s0 : w.heap.size < w1.heap.size := (by omega)
  have q1n0_0 : ¬ w1.heap.size = w.heap.size := (by omega)
  have q1n0_1 : ¬ w1.heap.size + 1 = w.heap.size := (by omega)
  have q1n0_2 : ¬ w1.heap.size + 2 = w.heap.size := (by omega)
  have q1c0_0 := hb.cell (p := ⟨w.heap.size, 0, none⟩) (by first | omega | (simp <;> omega))
  simp [go_sem, *] at q1c0_0
  have q1c0_1 := hb.cell (p := ⟨w.heap.size, 1, none⟩) (by first | omega | (simp <;> omega))
  simp [go_sem, *] at q1c0_1
  have q1f0 := fun o => hb.frozen (p := ⟨w.heap.size, o, none⟩) (by first | omega | (simp <;> omega))
  simp [go_sem, *] at q1f0
  have q1s1 : w.heap.size + 1 < w1.heap.size := (by omega)
  have q1n1_0 : ¬ w1.heap.size = w.heap.size + 1 := (by omega)
  have q1n1_1 : ¬ w1.heap.size + 1 = w.heap.size + 1 := (by omega)
  have q1n1_2 : ¬ w1.heap.size + 2 = w.heap.size + 1 := (by omega)
  have q1c1_0 := hb.cell (p := ⟨w.heap.size + 1, 0, none⟩) (by first | omega | (simp <;> omega))
  simp [go_sem, *] at q1c1_0
  have q1c1_1 := hb.cell (p := ⟨w.heap.size + 1, 1, none⟩) (by first | omega | (simp <;> omega))
  simp [go_sem, *] at q1c1_1
  have q1f1 := fun o => hb.frozen (p := ⟨w.heap.size + 1, o, none⟩) (by first | omega | (simp <;> omega))
  simp [go_sem, *] at q1f1
  have q1s2 : w.heap.size + 2 < w1.heap.size := (by omega)
  have q1n2_0 : ¬ w1.heap.size = w.heap.size + 2 := (by omega)
  have q1n2_1 : ¬ w1.heap.size + 1 = w.heap.size + 2 := (by omega)
  have q1n2_2 : ¬ w1.heap.size + 2 = w.heap.size + 2 := (by omega)
  have q1c2_0 := hb.cell (p := ⟨w.heap.size + 2, 0, none⟩) (by first | omega | (simp <;> omega))
  simp [go_sem, *] at q1c2_0
  have q1c2_1 := hb.cell (p := ⟨w.heap.size + 2, 1, none⟩) (by first | omega | (simp <;> omega))
  simp [go_sem, *] at q1c2_1
  have q1f2 := fun o => hb.frozen (p := ⟨w.heap.size + 2, o, none⟩) (by first | omega | (simp <;> omega))
  simp [go_sem, *] at q1f2
  have q1s3 : w.heap.size + 3 < w1.heap.size := (by omega)
  have q1n3_0 : ¬ w1.heap.size = w.heap.size + 3 := (by omega)
  have q1n3_1 : ¬ w1.heap.size + 1 = w.heap.size + 3 := (by omega)
  have q1n3_2 : ¬ w1.heap.size + 2 = w.heap.size + 3 := (by omega)
  have q1c3_0 := hb.cell (p := ⟨w.heap.size + 3, 0, none⟩) (by first | omega | (simp <;> omega))
  simp [go_sem, *] at q1c3_0
  have q1c3_1 := hb.cell (p := ⟨w.heap.size + 3, 1, none⟩) (by first | omega | (simp <;> omega))
  simp [go_sem, *] at q1c3_1
  have q1f3 := fun o => hb.frozen (p := ⟨w.heap.size + 3, o, none⟩) (by first | omega | (simp <;> omega))
  simp [go_sem, *] at q1f3
  have q1o : ∀ b o, b < w.heap.size → w1.cell? ⟨b, o, none⟩ = w.cell? ⟨b, o, none⟩ := fun b o h => q1B.cell (p := ⟨b, o, none⟩) h
  clear hb
  go_wp2_with fail
  refine (rminus_any a b ha hb0 hle _).mono ?_
  rintro e w2 ⟨rfl, hb⟩
  have q2B : Below w.heap.size w w2 := (by refine Below.trans ?_ (hb.mono (by first | omega | (simp <;> omega))); (repeat (first | (with_reducible exact Below.refl _ _) | (with_reducible assumption) | ((with_reducible refine Below.alloc ?_ ?_ _); (rotate_left); (first | omega | (simp <;> omega))) | ((with_reducible refine Below.setCell ?_ ?_ _); (rotate_left); (first | omega | (simp <;> omega))) | (with_reducible refine Below.drew ?_) | (with_reducible refine below_drewN ?_ _))))
  have q2z := hb.size
  try simp at q2z
  have q2t : w.heap.size ≤ w2.heap.size := (by omega)
  have q2s0 : w.heap.size < w2.heap.size := (by omega)
  have q2n0_0 : ¬ w2.heap.size = w.heap.size := (by omega)
  have q2n0_1 : ¬ w2.heap.size + 1 = w.heap.size := (by omega)
  have q2n0_2 : ¬ w2.heap.size + 2 = w.heap.size := (by omega)
  have q2c0_0 := hb.cell (p := ⟨w.heap.size, 0, none⟩) (by first | omega | (simp <;> omega))
  simp [go_sem, *] at q2c0_0
  have q2c0_1 := hb.cell (p := ⟨w.heap.size, 1, none⟩) (by first | omega | (simp <;> omega))
  simp [go_sem, *] at q2c0_1
  have q2f0 := fun o => hb.frozen (p := ⟨w.heap.size, o, none⟩) (by first | omega | (simp <;> omega))
  simp [go_sem, *] at q2f0
  have q2s1 : w.heap.size + 1 < w2.heap.size := (by omega)
  have q2n1_0 : ¬ w2.heap.size = w.heap.size + 1 := (by omega)
  have q2n1_1 : ¬ w2.heap.size + 1 = w.heap.size + 1 := (by omega)
  have q2n1_2 : ¬ w2.heap.size + 2 = w.heap.size + 1 := (by omega)
  have q2c1_0 := hb.cell (p := ⟨w.heap.size + 1, 0, none⟩) (by first | omega | (simp <;> omega))
  simp [go_sem, *] at q2c1_0
  have q2c1_1 := hb.cell (p := ⟨w.heap.size + 1, 1, none⟩) (by first | omega | (simp <;> omega))
  simp [go_sem, *] at q2c1_1
  have q2f1 := fun o => hb.frozen (p := ⟨w.heap.size + 1, o, none⟩) (by first | omega | (simp <;> omega))
  simp [go_sem, *] at q2f1
  have q2s2 : w.heap.size + 2 < w2.heap.size := (by omega)
  have q2n2_0 : ¬ w2.heap.size = w.heap.size + 2 := (by omega)
  have q2n2_1 : ¬ w2.heap.size + 1 = w.heap.size + 2 := (by omega)
  have q2n2_2 : ¬ w2.heap.size + 2 = w.heap.size + 2 := (by omega)
  have q2c2_0 := hb.cell (p := ⟨w.heap.size + 2, 0, none⟩) (by first | omega | (simp <;> omega))
  simp [go_sem, *] at q2c2_0
  have q2c2_1 := hb.cell (p := ⟨w.heap.size + 2, 1, none⟩) (by first | omega | (simp <;> omega))
  simp [go_sem, *] at q2c2_1
  have q2f2 := fun o => hb.frozen (p := ⟨w.heap.size + 2, o, none⟩) (by first | omega | (simp <;> omega))
  simp [go_sem, *] at q2f2
  have q2s3 : w.heap.size + 3 < w2.heap.size := (by omega)
  have q2n3_0 : ¬ w2.heap.size = w.heap.size + 3 := (by omega)
  have q2n3_1 : ¬ w2.heap.size + 1 = w.heap.size + 3 := (by omega)
  have q2n3_2 : ¬ w2.heap.size + 2 = w.heap.size + 3 := (by omega)
  have q2c3_0 := hb.cell (p := ⟨w.heap.size + 3, 0, none⟩) (by first | omega | (simp <;> omega))
  simp [go_sem, *] at q2c3_0
  have q2c3_1 := hb.cell (p := ⟨w.heap.size + 3, 1, none⟩) (by first | omega | (simp <;> omega))
  simp [go_sem, *] at q2c3_1
  have q2f3 := fun o => hb.frozen (p := ⟨w.heap.size + 3, o, none⟩) (by first | omega | (simp <;> omega))
  simp [go_sem, *] at q2f3
  have q2o : ∀ b o, b < w.heap.size → w2.cell? ⟨b, o, none⟩ = w.cell? ⟨b, o, none⟩ := fun b o h => q2B.cell (p := ⟨b, o, none⟩) h
  clear hb q1o q1f3 q1c3_1 q1c3_0 q1s3 q1f2 q1c2_1 q1c2_0 q1s2 q1f1 q1c1_1 q1c1_0 q1s1 q1f0 q1c0_1 q1c0_0 q1s0 q1z q1B
  go_wp2_with fail
  refine (rjoin_any an (a - b) HM _).mono ?_
  rintro e w3 ⟨rfl, hb⟩
  rw [HD.out]
  have q3B : Below w.heap.size w w3 := (by refine Below.trans ?_ (hb.mono (by first | omega | (simp <;> omega))); (repeat (first | (with_reducible exact Below.refl _ _) | (with_reducible assumption) | ((with_reducible refine Below.alloc ?_ ?_ _); (rotate_left); (first | omega | (simp <;> omega))) | ((with_reducible refine Below.setCell ?_ ?_ _); (rotate_left); (first | omega | (simp <;> omega))) | (with_reducible refine Below.drew ?_) | (with_reducible refine below_drewN ?_ _))))
  have q3z := hb.size
  try simp at q3z
  have q3t : w.heap.size ≤ w3.heap.size := (by omega)
  have q3s0 : w.heap.size < w3.heap.size := (by omega)
  have q3n0_0 : ¬ w3.heap.size = w.heap.size := (by omega)
  have q3n0_1 : ¬ w3.heap.size + 1 = w.heap.size := (by omega)
  have q3n0_2 : ¬ w3.heap.size + 2 = w.heap.size := (by omega)
  have q3c0_0 := hb.cell (p := ⟨w.heap.size, 0, none⟩) (by first | omega | (simp <;> omega))
  simp [go_sem, *] at q3c0_0
  have q3c0_1 := hb.cell (p := ⟨w.heap.size, 1, none⟩) (by first | omega | (simp <;> omega))
  simp [go_sem, *] at q3c0_1
  have q3f0 := fun o => hb.frozen (p := ⟨w.heap.size, o, none⟩) (by first | omega | (simp <;> omega))
  simp [go_sem, *] at q3f0
  have q3s1 : w.heap.size + 1 < w3.heap.size := (by omega)
  have q3n1_0 : ¬ w3.heap.size = w.heap.size + 1 := (by omega)
  have q3n1_1 : ¬ w3.heap.size + 1 = w.heap.size + 1 := (by omega)
  have q3n1_2 : ¬ w3.heap.size + 2 = w.heap.size + 1 := (by omega)
  have q3c1_0 := hb.cell (p := ⟨w.heap.size + 1, 0, none⟩) (by first | omega | (simp <;> omega))
  simp [go_sem, *] at q3c1_0
  have q3c1_1 := hb.cell (p := ⟨w.heap.size + 1, 1, none⟩) (by first | omega | (simp <;> omega))
  simp [go_sem, *] at q3c1_1
  have q3f1 := fun o => hb.frozen (p := ⟨w.heap.size + 1, o, none⟩) (by first | omega | (simp <;> omega))
  simp [go_sem, *] at q3f1
  have q3s2 : w.heap.size + 2 < w3.heap.size := (by omega)
  have q3n2_0 : ¬ w3.heap.size = w.heap.size + 2 := (by omega)
  have q3n2_1 : ¬ w3.heap.size + 1 = w.heap.size + 2 := (by omega)
  have q3n2_2 : ¬ w3.heap.size + 2 = w.heap.size + 2 := (by omega)
  have q3c2_0 := hb.cell (p := ⟨w.heap.size + 2, 0, none⟩) (by first | omega | (simp <;> omega))
  simp [go_sem, *] at q3c2_0
  have q3c2_1 := hb.cell (p := ⟨w.heap.size + 2, 1, none⟩) (by first | omega | (simp <;> omega))
  simp [go_sem, *] at q3c2_1
  have q3f2 := fun o => hb.frozen (p := ⟨w.heap.size + 2, o, none⟩) (by first | omega | (simp <;> omega))
  simp [go_sem, *] at q3f2
  have q3s3 : w.heap.size + 3 < w3.heap.size := (by omega)
  have q3n3_0 : ¬ w3.heap.size = w.heap.size + 3 := (by omega)
  have q3n3_1 : ¬ w3.heap.size + 1 = w.heap.size + 3 := (by omega)
  have q3n3_2 : ¬ w3.heap.size + 2 = w.heap.size + 3 := (by omega)
  have q3c3_0 := hb.cell (p := ⟨w.heap.size + 3, 0, none⟩) (by first | omega | (simp <;> omega))
  simp [go_sem, *] at q3c3_0
  have q3c3_1 := hb.cell (p := ⟨w.heap.size + 3, 1, none⟩) (by first | omega | (simp <;> omega))
  simp [go_sem, *] at q3c3_1
  have q3f3 := fun o => hb.frozen (p := ⟨w.heap.size + 3, o, none⟩) (by first | omega | (simp <;> omega))
  simp [go_sem, *] at q3f3
  have q3o : ∀ b o, b < w.heap.size → w3.cell? ⟨b, o, none⟩ = w.cell? ⟨b, o, none⟩ := fun b o h => q3B.cell (p := ⟨b, o, none⟩) h
  clear hb q2o q2f3 q2c3_1 q2c3_0 q2s3 q2f2 q2c2_1 q2c2_0 q2s2 q2f1 q2c1_1 q2c1_0 q2s1 q2f0 q2c0_1 q2c0_0 q2s0 q2z q2B
  go_wp2_with fail
  refine bodyPost_ret (by simp [results, Try.results33, go_sem, *] <;> rfl) rfl ⟨?_, ?_⟩
  · rfl
  (repeat (first | (with_reducible exact Below.refl _ _) | (with_reducible assumption) | ((with_reducible refine Below.alloc ?_ ?_ _); (rotate_left); (first | omega | (simp <;> omega))) | ((with_reducible refine Below.setCell ?_ ?_ _); (rotate_left); (first | omega | (simp <;> omega))) | (with_reducible refine Below.drew ?_) | (with_reducible refine below_drewN ?_ _)))
set_option maxHeartbeats 400000 in
theorem rsumE3 (an bn : Bool) (a b : Int) (ha : MIn a) (hb0 : MIn b) (he : (an == bn) = true) (hf : ¬ a + b < 340282366920938463463374607431768211456) (w : World) :
    Calls Try.prog 33 #[.bool an, .agg #[.int .u64 (hiW a), .int .u64 (loW a)], .bool bn, .agg #[.int .u64 (hiW b), .int .u64 (loW b)]] w fun e w' =>
      e = .returned (.tuple #[.agg #[.int .i64 (hiW (fitR (sgn an a + sgn bn b))), .int .u64 (loW (fitR (sgn an a + sgn bn b)))], .int .i64 (fitE (sgn an a + sgn bn b))]) ∧ Below w.heap.size w w' := by
  have HZ := hide (sgn_add_same he a b)
  rw [HZ.out]
  have hz := sgn_big an hf
  rw [fitR_not hz, fitE_not hz, hi_zero, lo_zero]
  clear hz
  have HF := hide (fitM_f hf)
  clear hf
  go_enter Try.func33, Try.ntmps33
  go_wp2_with fail
  refine wp_region_seq (SB (w.heap.size + 3) [] _) [true, true, false, true, false, true] (by kernel_rfl) (by kernel_rfl) rfl (by kernel_rfl) (fun _ _ d _ _ h => by cases d <;> exact h) SB.refl.drew (fun hHeld => ?_)
  refine seq_take ?_ (by rfl) (fun wx hSx => ?_) ?_
  rotate_left
  · (unfold SB at hSx; go_simp; (try with_reducible rfl))
  (try simp only [Act.put, List.setIfInBounds_toArray, List.set_cons_zero, List.set_cons_succ])
  refine seq_take ?_ (by rfl) (fun wx hSx => ?_) ?_
  rotate_left
  · (unfold SB at hSx; go_simp; (try with_reducible rfl))
  (try simp only [Act.put, List.setIfInBounds_toArray, List.set_cons_zero, List.set_cons_succ])
  refine seq_run (by rfl) (fun K hK => ?_)
  go_simp
  refine hK.out _ _ ?_ (fun hHeld => ?_)
  · (repeat (first | (with_reducible exact SB.refl) | (with_reducible exact hHeld) | (with_reducible refine SB.drew ?_) | (with_reducible refine SB.drewN ?_ _) | ((with_reducible refine SB.alloc ?_ ?_ _); (rotate_left); (first | omega | (simp <;> omega))) | ((with_reducible refine SB.setCell ?_ ?_ _); (rotate_left); (focus (simp; done))) | ((with_reducible refine SB.below ?_ hbS ?_); (rotate_left); (first | omega | (simp <;> omega))) | (with_reducible refine SB.undrew ?_) | ((with_reducible refine SB.congr ?_ ?_); (rotate_left); (focus (simp; done))) | ((with_reducible refine SB.realloc ?_ ?_ ?_); (rotate_left); (focus (simp; done)); (focus (simp; done)))))
  clear hK K
  (try simp only [Act.put, List.setIfInBounds_toArray, List.set_cons_zero, List.set_cons_succ])
  refine seq_take ?_ (by rfl) (fun wx hSx => ?_) ?_
  rotate_left
  · (unfold SB at hSx; go_simp; (try with_reducible rfl))
  (try simp only [Act.put, List.setIfInBounds_toArray, List.set_cons_zero, List.set_cons_succ])
  refine seq_run (by rfl) (fun K hK => ?_)
  go_simp
  refine hK.out _ _ ?_ (fun hHeld => ?_)
  · (repeat (first | (with_reducible exact SB.refl) | (with_reducible exact hHeld) | (with_reducible refine SB.drew ?_) | (with_reducible refine SB.drewN ?_ _) | ((with_reducible refine SB.alloc ?_ ?_ _); (rotate_left); (first | omega | (simp <;> omega))) | ((with_reducible refine SB.setCell ?_ ?_ _); (rotate_left); (focus (simp; done))) | ((with_reducible refine SB.below ?_ hbS ?_); (rotate_left); (first | omega | (simp <;> omega))) | (with_reducible refine SB.undrew ?_) | ((with_reducible refine SB.congr ?_ ?_); (rotate_left); (focus (simp; done))) | ((with_reducible refine SB.realloc ?_ ?_ ?_); (rotate_left); (focus (simp; done)); (focus (simp; done)))))
  clear hK K
  (try simp only [Act.put, List.setIfInBounds_toArray, List.set_cons_zero, List.set_cons_succ])
  refine seq_take ?_ (by rfl) (fun wx hSx => ?_) ?_
  rotate_left
  · (unfold SB at hSx; go_simp; (try with_reducible rfl))
  (try simp only [Act.put, List.setIfInBounds_toArray, List.set_cons_zero, List.set_cons_succ])
  refine seq_end ?_
  go_wp2_with fail
  refine (rplus_any a b ha hb0 _).mono ?_
  rintro e w1 ⟨rfl, hb⟩
  rw [HF.out]
  have q1B : Below w.heap.size w w1 := (by refine Below.trans ?_ (hb.mono (by first | omega | (simp <;> omega))); (repeat (first | (with_reducible exact Below.refl _ _) | (with_reducible assumption) | ((with_reducible refine Below.alloc ?_ ?_ _); (rotate_left); (first | omega | (simp <;> omega))) | ((with_reducible refine Below.setCell ?_ ?_ _); (rotate_left); (first | omega | (simp <;> omega))) | (with_reducible refine Below.drew ?_) | (with_reducible refine below_drewN ?_ _))))
  have q1z := hb.size
  try simp at q1z
  have q1t : w.heap.size ≤ w1.heap.size := (by omega)
  have q1s0 : w.heap.size < w1.heap.size := (by omega)
  have q1n0_0 : ¬ w1.heap.size = w.heap.size := (by omega)
  have q1n0_1 : ¬ w1.heap.size + 1 = w.heap.size := (by omega)
  have q1n0_2 : ¬ w1.heap.size + 2 = w.heap.size := (by omega)
  have q1c0_0 := hb.cell (p := ⟨w.heap.size, 0, none⟩) (by first | omega | (simp <;> omega))
  simp [go_sem, *] at q1c0_0
  have q1c0_1 := hb.cell (p := ⟨w.heap.size, 1, none⟩) (by first | omega | (simp <;> omega))
  simp [go_sem, *] at q1c0_1
  have q1f0 := fun o => hb.frozen (p := ⟨w.heap.size, o, none⟩) (by first | omega | (simp <;> omega))
  simp [go_sem, *] at q1f0
  have q1s1 : w.heap.size + 1 < w1.heap.size := (by omega)
  have q1n1_0 : ¬ w1.heap.size = w.heap.size + 1 := (by omega)
  have q1n1_1 : ¬ w1.heap.size + 1 = w.heap.size + 1 := (by omega)
  have q1n1_2 : ¬ w1.heap.size + 2 = w.heap.size + 1 := (by omega)
  have q1c1_0 := hb.cell (p := ⟨w.heap.size + 1, 0, none⟩) (by first | omega | (simp <;> omega))
  simp [go_sem, *] at q1c1_0
  have q1c1_1 := hb.cell (p := ⟨w.heap.size + 1, 1, none⟩) (by first | omega | (simp <;> omega))
  simp [go_sem, *] at q1c1_1
  have q1f1 := fun o => hb.frozen (p := ⟨w.heap.size + 1, o, none⟩) (by first | omega | (simp <;> omega))
  simp [go_sem, *] at q1f1
  have q1s2 : w.heap.size + 2 < w1.heap.size := (by omega)
  have q1n2_0 : ¬ w1.heap.size = w.heap.size + 2 := (by omega)
  have q1n2_1 : ¬ w1.heap.size + 1 = w.heap.size + 2 := (by omega)
  have q1n2_2 : ¬ w1.heap.size + 2 = w.heap.size + 2 := (by omega)
  have q1c2_0 := hb.cell (p := ⟨w.heap.size + 2, 0, none⟩) (by first | omega | (simp <;> omega))
  simp [go_sem, *] at q1c2_0
  have q1c2_1 := hb.cell (p := ⟨w.heap.size + 2, 1, none⟩) (by first | omega | (simp <;> omega))
  simp [go_sem, *] at q1c2_1
  have q1f2 := fun o => hb.frozen (p := ⟨w.heap.size + 2, o, none⟩) (by first | omega | (simp <;> omega))
  simp [go_sem, *] at q1f2
  have q1s3 : w.heap.size + 3 < w1.heap.size := (by omega)
  have q1n3_0 : ¬ w1.heap.size = w.heap.size + 3 := (by omega)
  have q1n3_1 : ¬ w1.heap.size + 1 = w.heap.size + 3 := (by omega)
  have q1n3_2 : ¬ w1.heap.size + 2 = w.heap.size + 3 := (by omega)
  have q1c3_0 := hb.cell (p := ⟨w.heap.size + 3, 0, none⟩) (by first | omega | (simp <;> omega))
  simp [go_sem, *] at q1c3_0
  have q1c3_1 := hb.cell (p := ⟨w.heap.size + 3, 1, none⟩) (by first | omega | (simp <;> omega))
  simp [go_sem, *] at q1c3_1
  have q1f3 := fun o => hb.frozen (p := ⟨w.heap.size + 3, o, none⟩) (by first | omega | (simp <;> omega))
  simp [go_sem, *] at q1f3
  have q1o : ∀ b o, b < w.heap.size → w1.cell? ⟨b, o, none⟩ = w.cell? ⟨b, o, none⟩ := fun b o h => q1B.cell (p := ⟨b, o, none⟩) h
  clear hb
  go_wp2_with fail
  refine (rjoin_any an _ (mod128_in _) _).mono ?_
  rintro e w2 ⟨rfl, hb⟩
  have q2B : Below w.heap.size w w2 := (by refine Below.trans ?_ (hb.mono (by first | omega | (simp <;> omega))); (repeat (first | (with_reducible exact Below.refl _ _) | (with_reducible assumption) | ((with_reducible refine Below.alloc ?_ ?_ _); (rotate_left); (first | omega | (simp <;> omega))) | ((with_reducible refine Below.setCell ?_ ?_ _); (rotate_left); (first | omega | (simp <;> omega))) | (with_reducible refine Below.drew ?_) | (with_reducible refine below_drewN ?_ _))))
  have q2z := hb.size
  try simp at q2z
  have q2t : w.heap.size ≤ w2.heap.size := (by omega)
  have q2s0 : w.heap.size < w2.heap.size := (by omega)
  have q2n0_0 : ¬ w2.heap.size = w.heap.size := (by omega)
  have q2n0_1 : ¬ w2.heap.size + 1 = w.heap.size := (by omega)
  have q2n0_2 : ¬ w2.heap.size + 2 = w.heap.size := (by omega)
  have q2c0_0 := hb.cell (p := ⟨w.heap.size, 0, none⟩) (by first | omega | (simp <;> omega))
  simp [go_sem, *] at q2c0_0
  have q2c0_1 := hb.cell (p := ⟨w.heap.size, 1, none⟩) (by first | omega | (simp <;> omega))
  simp [go_sem, *] at q2c0_1
  have q2f0 := fun o => hb.frozen (p := ⟨w.heap.size, o, none⟩) (by first | omega | (simp <;> omega))
  simp [go_sem, *] at q2f0
  have q2s1 : w.heap.size + 1 < w2.heap.size := (by omega)
  have q2n1_0 : ¬ w2.heap.size = w.heap.size + 1 := (by omega)
  have q2n1_1 : ¬ w2.heap.size + 1 = w.heap.size + 1 := (by omega)
  have q2n1_2 : ¬ w2.heap.size + 2 = w.heap.size + 1 := (by omega)
  have q2c1_0 := hb.cell (p := ⟨w.heap.size + 1, 0, none⟩) (by first | omega | (simp <;> omega))
  simp [go_sem, *] at q2c1_0
  have q2c1_1 := hb.cell (p := ⟨w.heap.size + 1, 1, none⟩) (by first | omega | (simp <;> omega))
  simp [go_sem, *] at q2c1_1
  have q2f1 := fun o => hb.frozen (p := ⟨w.heap.size + 1, o, none⟩) (by first | omega | (simp <;> omega))
  simp [go_sem, *] at q2f1
  have q2s2 : w.heap.size + 2 < w2.heap.size := (by omega)
  have q2n2_0 : ¬ w2.heap.size = w.heap.size + 2 := (by omega)
  have q2n2_1 : ¬ w2.heap.size + 1 = w.heap.size + 2 := (by omega)
  have q2n2_2 : ¬ w2.heap.size + 2 = w.heap.size + 2 := (by omega)
  have q2c2_0 := hb.cell (p := ⟨w.heap.size + 2, 0, none⟩) (by first | omega | (simp <;> omega))
  simp [go_sem, *] at q2c2_0
  have q2c2_1 := hb.cell (p := ⟨w.heap.size + 2, 1, none⟩) (by first | omega | (simp <;> omega))
  simp [go_sem, *] at q2c2_1
  have q2f2 := fun o => hb.frozen (p := ⟨w.heap.size + 2, o, none⟩) (by first | omega | (simp <;> omega))
  simp [go_sem, *] at q2f2
  have q2s3 : w.heap.size + 3 < w2.heap.size := (by omega)
  have q2n3_0 : ¬ w2.heap.size = w.heap.size + 3 := (by omega)
  have q2n3_1 : ¬ w2.heap.size + 1 = w.heap.size + 3 := (by omega)
  have q2n3_2 : ¬ w2.heap.size + 2 = w.heap.size + 3 := (by omega)
  have q2c3_0 := hb.cell (p := ⟨w.heap.size + 3, 0, none⟩) (by first | omega | (simp <;> omega))
  simp [go_sem, *] at q2c3_0
  have q2c3_1 := hb.cell (p := ⟨w.heap.size + 3, 1, none⟩) (by first | omega | (simp <;> omega))
  simp [go_sem, *] at q2c3_1
  have q2f3 := fun o => hb.frozen (p := ⟨w.heap.size + 3, o, none⟩) (by first | omega | (simp <;> omega))
  simp [go_sem, *] at q2f3
  have q2o : ∀ b o, b < w.heap.size → w2.cell? ⟨b, o, none⟩ = w.cell? ⟨b, o, none⟩ := fun b o h => q2B.cell (p := ⟨b, o, none⟩) h
  clear hb q1o q1f3 q1c3_1 q1c3_0 q1s3 q1f2 q1c2_1 q1c2_0 q1s2 q1f1 q1c1_1 q1c1_0 q1s1 q1f0 q1c0_1 q1c0_0 q1s0 q1z q1B
  go_wp2_with fail
  refine bodyPost_ret (by simp [results, Try.results33, go_sem, *] <;> rfl) rfl ⟨?_, ?_⟩
  · rfl
  (repeat (first | (with_reducible exact Below.refl _ _) | (with_reducible assumption) | ((with_reducible refine Below.alloc ?_ ?_ _); (rotate_left); (first | omega | (simp <;> omega))) | ((with_reducible refine Below.setCell ?_ ?_ _); (rotate_left); (first | omega | (simp <;> omega))) | (with_reducible refine Below.drew ?_) | (with_reducible refine below_drewN ?_ _)))
/-- The sum of two numbers given by signs and magnitudes, or ErrOverflow. -/
theorem rsum_any (an bn : Bool) (a b : Int) (ha : MIn a) (hb0 : MIn b) (w : World) :
    Calls Try.prog 33 #[.bool an, .agg #[.int .u64 (hiW a), .int .u64 (loW a)], .bool bn, .agg #[.int .u64 (hiW b), .int .u64 (loW b)]] w fun e w' =>
      e = .returned (.tuple #[.agg #[.int .i64 (hiW (fitR (sgn an a + sgn bn b))), .int .u64 (loW (fitR (sgn an a + sgn bn b)))], .int .i64 (fitE (sgn an a + sgn bn b))]) ∧ Below w.heap.size w w' := by
  cases he : (an == bn)
  · by_cases hf : a < b
    · by_cases hz : WIn (sgn bn (b - a))
      · exact rsumL1 an bn a b ha hb0 he hf hz w
      · exact rsumL2 an bn a b ha hb0 he hf hz w
    · by_cases hz : WIn (sgn an (a - b))
      · exact rsumG1 an bn a b ha hb0 he hf hz w
      · exact rsumG2 an bn a b ha hb0 he hf hz w
  · by_cases hf : a + b < 340282366920938463463374607431768211456
    · by_cases hz : WIn (sgn an (a + b))
      · exact rsumE1 an bn a b ha hb0 he hf hz w
      · exact rsumE2 an bn a b ha hb0 he hf hz w
    · exact rsumE3 an bn a b ha hb0 he hf w
end Go.Proofs.Ytjjclclianbnfaa
