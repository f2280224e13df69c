/- Texts laid together: Eua. -/
import Derived.Test.YtdjlaiilngechaaGreatDoorUExD
import Derived.Test.YtdjlaiilngechaaGreatDoorUK0
namespace Go.Proofs.YtdjlaiilngechaaGreatDoor
set_option maxRecDepth 4000
set_option linter.unusedSimpArgs false
set_option linter.unusedVariables false
open Go.RowKit
theorem quo_end {m q n r : Int} (h : m = q * n + r) (h0 : 0 ≤ r) (h1 : r < n) : m / n = q ∧ m % n = r :=
 (Int.ediv_emod_unique (by omega)).2 ⟨by rw [h, Int.mul_comm]; omega, h0, h1⟩
theorem pow_top {k : Nat} (h : k < 128) : (2 : Int) ^ k ≤ 170141183460469231731687303715884105728 := by
 have h1 : (2 : Nat) ^ k ≤ 2 ^ 127 := Nat.pow_le_pow_right (by decide) (by omega)
 have h2 : ((2 ^ k : Nat) : Int) ≤ ((2 ^ 127 : Nat) : Int) := Int.ofNat_le.2 h1
 rw [Int.natCast_pow] at h2
 exact h2
theorem rshifted_any (m : Int) (hm : MIn m) (w : World) :
  Calls Tryz.prog 169 #[.agg #[.int .u64 (hiW m), .int .u64 (loW m)]] w fun e w' =>
   e = .returned (.tuple #[.agg #[.int .u64 (hiW (mod128 (m + m))), .int .u64 (loW (mod128 (m + m)))], .bool (fitM (m + m))]) ∧ Below w.heap.size w w' := by
 go_enter Tryz.func169, Tryz.ntmps169
 go_wp2_with fail
 refine (rplus_any m m hm hm _).mono ?_
 rintro e w1 ⟨rfl, hb⟩
 have q1B : Below w.heap.size w w1 := qB hb
 have q1z := hb.size
 try simp at q1z
 have q1t : w.heap.size ≤ w1.heap.size := (by omega)
 obtain ⟨q1s0, q1n0_0, q1n0_1, q1n0_2⟩ := kB w1.heap.size w.heap.size
 obtain ⟨q1c0_0, q1c0_1, q1f0⟩ := kC2 hb w.heap.size
 simp [go_sem, *] at q1c0_0 q1c0_1 q1f0
 obtain ⟨q1s1, q1n1_0, q1n1_1, q1n1_2⟩ := kB w1.heap.size (w.heap.size + 1)
 obtain ⟨q1c1_0, q1c1_1, q1f1⟩ := kC2 hb (w.heap.size + 1)
 simp [go_sem, *] at q1c1_0 q1c1_1 q1f1
 have q1o := belO q1B
 clear hb
 go_wp2_with fail
 refine bodyPost_ret (by simp [results, Tryz.results169, go_sem, *] <;> rfl) rfl ⟨?_, ?_⟩
 ·rfl
 (repeat (first | (with_reducible first | exact Below.refl _ _ | assumption | refine Below.drew ?_) | ((with_reducible first | refine Below.alloc ?_ ?_ _ | refine Below.setCell ?_ ?_ _); rotate_left; (first | omega | (simp <;> omega)))))
/-- After k rounds of Quotient. -/
def QuoI (m n : Int) (w : World) (v7 v8 : Value) (wr : World) : Prop :=
 ∃ (k : Nat) (q r a : Int), k ≤ 128 ∧ v8 = .int .i64 k ∧ v7 = .int .u64 r ∧ 0 ≤ r ∧ r < n ∧ 0 ≤ q ∧ Hid (q < 2 ^ k) ∧ MIn a ∧ Hid (m * 2 ^ k = (q * n + r) * 340282366920938463463374607431768211456 + a) ∧
  Below w.heap.size w wr ∧ w.heap.size + 2 < wr.heap.size ∧
  (wr.cell? ⟨w.heap.size, 0, none⟩ = some (.int .u64 (hiW a)) ∧ wr.cell? ⟨w.heap.size, 1, none⟩ = some (.int .u64 (loW a)) ∧ ∀ o, wr.frozen? ⟨w.heap.size, o, none⟩ = false) ∧
  (wr.cell? ⟨w.heap.size + 1, 0, none⟩ = some (.int .u64 0) ∧ wr.cell? ⟨w.heap.size + 1, 1, none⟩ = some (.int .u64 0) ∧ ∀ o, wr.frozen? ⟨w.heap.size + 1, o, none⟩ = false) ∧
  (wr.cell? ⟨w.heap.size + 2, 0, none⟩ = some (.int .u64 (hiW q)) ∧ wr.cell? ⟨w.heap.size + 2, 1, none⟩ = some (.int .u64 (loW q)) ∧ ∀ o, wr.frozen? ⟨w.heap.size + 2, o, none⟩ = false)
theorem quo_hi {a : Int} (h : MIn a) (hb : 9223372036854775808 ≤ hiW a) : mod128 (a + a) = 2 * a - 340282366920938463463374607431768211456 := by
 unfold MIn at h; unfold hiW at hb; unfold mod128; omega
theorem quo_lo {a : Int} (h : MIn a) (hb : hiW a < 9223372036854775808) : mod128 (a + a) = 2 * a := by
 unfold MIn at h; unfold hiW at hb; unfold mod128; omega
theorem quo_min {a : Int} (h : MIn a) (hb : 9223372036854775808 ≤ hiW a) : MIn (2 * a - 340282366920938463463374607431768211456) := by
 unfold MIn at *; unfold hiW at hb; omega
theorem quo_min2 {a : Int} (h : MIn a) (hb : hiW a < 9223372036854775808) : MIn (2 * a) := by
 unfold MIn at *; unfold hiW at hb; omega
theorem one_more (q : Int) : IntKind.u64.wrap (loW (2 * q) + 1) = loW (2 * q + 1) ∧ hiW (2 * q) = hiW (2 * q + 1) := by
 simp only [wrapU]; unfold hiW loW; omega
set_option maxHeartbeats 4000000 in
theorem rquot_any (m n : Int) (hm : MIn m) (n1 : 0 < n) (n2 : n < 9223372036854775808) (w : World) :
  Calls Tryz.prog 162 #[.agg #[.int .u64 (hiW m), .int .u64 (loW m)], .int .u64 n] w fun e w' =>
   e = .returned (.tuple #[.agg #[.int .u64 (hiW (m / n)), .int .u64 (loW (m / n))], .int .u64 (m % n)]) ∧ Below w.heap.size w w' := by
 obtain ⟨a1, a2⟩ := hi_mbd hm; obtain ⟨c1, c2⟩ := lo_bd m
 go_enter Tryz.func162, Tryz.ntmps162
 go_wp2_with fail
 go_loopw [7, 8] (fun v7 v8 wr => QuoI m n w v7 v8 wr) (fun _ v8 _ => 128 - (intOf v8).toNat)
 case atStart =>
  refine ⟨0, 0, 0, m, by omega, rfl, rfl, by omega, n1, by omega, hide (by decide), hm, hide (by simp), ?_, ?_, ?_, ?_, ?_⟩
  ·(repeat (first | (with_reducible first | exact Below.refl _ _ | assumption | refine Below.drew ?_) | ((with_reducible first | refine Below.alloc ?_ ?_ _ | refine Below.setCell ?_ ?_ _); rotate_left; (first | omega | (simp <;> omega)))))
  ·simp
  ·exact ⟨by simp [go_sem], by simp [go_sem], by simp [go_sem]⟩
  ·exact ⟨by simp [go_sem], by simp [go_sem], by simp [go_sem]⟩
  ·exact ⟨by simp [go_sem, hiW], by simp [go_sem, loW], by simp [go_sem]⟩
 case round =>
  obtain ⟨k, q, r, a, hk, rfl, rfl, r0, r1, q0, HP, ha, HE, hB, hz, ⟨ca0, ca1, caf⟩, ⟨cb0, cb1, cbf⟩, ⟨cc0, cc1, ccf⟩⟩ := hrel
  have hz0 : w.heap.size < wr.heap.size := by omega
  have hz1 : w.heap.size + 1 < wr.heap.size := by omega
  obtain ⟨b1, b2⟩ := hi_mbd ha
  by_cases hlt : k < 128
  ·have hq2 : q < 170141183460469231731687303715884105728 := by have := pow_top hlt; have := HP.out; omega
   have hq : MIn q := by unfold MIn; omega
   have HQ := hide (show mod128 (q + q) = 2 * q from by unfold mod128; omega)
   have HP2 := hide (show (2 : Int) ^ (k + 1) = 2 * 2 ^ k from by rw [Int.pow_succ]; omega)
   have HM2 := hide (show m * 2 ^ (k + 1) = 2 * (m * 2 ^ k) from by rw [HP2.out, Int.mul_left_comm])
   obtain ⟨p, hp⟩ : ∃ p, p = q * n := ⟨_, rfl⟩
   have HN := hide (show (2 * q) * n = 2 * p ∧ (2 * q + 1) * n = 2 * p + n from by rw [hp, Int.add_mul, Int.mul_assoc, Int.one_mul]; exact ⟨rfl, rfl⟩)
   have HE3 := hide (show m * 2 ^ k = (p + r) * 340282366920938463463374607431768211456 + a by rw [hp]; exact HE.out)
   have HO := hide (one_more q)
   clear hp hq2
   have e0 : IntKind.u64.wrap (r * 2) = r * 2 := by rw [wrapU]; omega
   by_cases hbit : 9223372036854775808 ≤ hiW a
   ·have et := and_top_hi (hiW a) hbit b2
    have HA := hide (quo_hi ha hbit)
    have HAM := hide (quo_min ha hbit)
    have e1 : IntKind.u64.wrap (r * 2 + 1) = r * 2 + 1 := by rw [wrapU]; omega
    have HX := hide hbit
    clear hbit
    by_cases hg : n ≤ r * 2 + 1
    ·have e2 : IntKind.u64.wrap (r * 2 + 1 - n) = r * 2 + 1 - n := by rw [wrapU]; omega
     have e3 := HO.out.1
     have e4 := HO.out.2
     go_wp2_with fail
     refine (rshifted_any a ha _).mono ?_
     rintro e w1 ⟨rfl, hb⟩
     rw [HA.out]
     have q1B : Below w.heap.size w w1 := qB hb
     have q1z := hb.size
     try simp at q1z
     have q1t : w.heap.size ≤ w1.heap.size := (by omega)
     obtain ⟨q1s0, q1n0_0, q1n0_1, q1n0_2⟩ := kB w1.heap.size w.heap.size
     obtain ⟨q1c0_0, q1c0_1, q1f0⟩ := kC2 hb w.heap.size
     simp [go_sem, *] at q1c0_0 q1c0_1 q1f0
     obtain ⟨q1s1, q1n1_0, q1n1_1, q1n1_2⟩ := kB w1.heap.size (w.heap.size + 1)
     obtain ⟨q1c1_0, q1c1_1, q1f1⟩ := kC2 hb (w.heap.size + 1)
     simp [go_sem, *] at q1c1_0 q1c1_1 q1f1
     obtain ⟨q1s2, q1n2_0, q1n2_1, q1n2_2⟩ := kB w1.heap.size (w.heap.size + 2)
     obtain ⟨q1c2_0, q1c2_1, q1f2⟩ := kC2 hb (w.heap.size + 2)
     simp [go_sem, *] at q1c2_0 q1c2_1 q1f2
     have q1o := belO q1B
     clear hb
     go_wp2_with fail
     refine (rshifted_any q hq _).mono ?_
     rintro e w2 ⟨rfl, hb⟩
     rw [HQ.out]
     have q2B : Below w.heap.size w w2 := qB hb
     have q2z := hb.size
     try simp at q2z
     have q2t : w.heap.size ≤ w2.heap.size := (by omega)
     obtain ⟨q2s0, q2n0_0, q2n0_1, q2n0_2⟩ := kB w2.heap.size w.heap.size
     obtain ⟨q2c0_0, q2c0_1, q2f0⟩ := kC2 hb w.heap.size
     simp [go_sem, *] at q2c0_0 q2c0_1 q2f0
     obtain ⟨q2s1, q2n1_0, q2n1_1, q2n1_2⟩ := kB w2.heap.size (w.heap.size + 1)
     obtain ⟨q2c1_0, q2c1_1, q2f1⟩ := kC2 hb (w.heap.size + 1)
     simp [go_sem, *] at q2c1_0 q2c1_1 q2f1
     obtain ⟨q2s2, q2n2_0, q2n2_1, q2n2_2⟩ := kB w2.heap.size (w.heap.size + 2)
     obtain ⟨q2c2_0, q2c2_1, q2f2⟩ := kC2 hb (w.heap.size + 2)
     simp [go_sem, *] at q2c2_0 q2c2_1 q2f2
     have q2o := belO q2B
     clear hb q1o q1f2 q1c2_1 q1c2_0 q1s2 q1f1 q1c1_1 q1c1_0 q1s1 q1f0 q1c0_1 q1c0_0 q1s0 q1z q1B
     go_wp2_with fail
     go_roundw
     case rel =>
      refine ⟨k + 1, 2 * q + 1, r * 2 + 1 - n, _, by omega, by go_num, rfl, by omega, by omega, by omega, hide (by rw [HP2.out]; have := HP.out; omega), HAM.out, hide (by rw [HM2.out, HE3.out, HN.out.2]; omega), ?_, ?_, ?_, ?_, ?_⟩
      ·(repeat (first | (with_reducible first | exact Below.refl _ _ | assumption | refine Below.drew ?_) | ((with_reducible first | refine Below.alloc ?_ ?_ _ | refine Below.setCell ?_ ?_ _); rotate_left; (first | omega | (simp <;> omega)))))
      ·simp; omega
      ·exact ⟨by simp [go_sem, *], by simp [go_sem, *], by simp [go_sem, *]⟩
      ·exact ⟨by simp [go_sem, *], by simp [go_sem, *], by simp [go_sem, *]⟩
      ·exact ⟨by simp [go_sem, *], (by first | (simp [go_sem, *]; done) | (refine World.cell?_setCell_same' _ _ _ ?_; first | (simp [go_sem, *]; done) | (rw [World.cell?_setCell_same' _ _ _ (by simp [go_sem, *])]; rfl))), by simp [go_sem, *]⟩
     case measure => simp [intOf]; omega
    ·have hg2 : r * 2 + 1 < n := by omega
     clear hg
     go_wp2_with fail
     refine (rshifted_any a ha _).mono ?_
     rintro e w1 ⟨rfl, hb⟩
     rw [HA.out]
     have q1B : Below w.heap.size w w1 := qB hb
     have q1z := hb.size
     try simp at q1z
     have q1t : w.heap.size ≤ w1.heap.size := (by omega)
     obtain ⟨q1s0, q1n0_0, q1n0_1, q1n0_2⟩ := kB w1.heap.size w.heap.size
     obtain ⟨q1c0_0, q1c0_1, q1f0⟩ := kC2 hb w.heap.size
     simp [go_sem, *] at q1c0_0 q1c0_1 q1f0
     obtain ⟨q1s1, q1n1_0, q1n1_1, q1n1_2⟩ := kB w1.heap.size (w.heap.size + 1)
     obtain ⟨q1c1_0, q1c1_1, q1f1⟩ := kC2 hb (w.heap.size + 1)
     simp [go_sem, *] at q1c1_0 q1c1_1 q1f1
     obtain ⟨q1s2, q1n2_0, q1n2_1, q1n2_2⟩ := kB w1.heap.size (w.heap.size + 2)
     obtain ⟨q1c2_0, q1c2_1, q1f2⟩ := kC2 hb (w.heap.size + 2)
     simp [go_sem, *] at q1c2_0 q1c2_1 q1f2
     have q1o := belO q1B
     clear hb
     go_wp2_with fail
     refine (rshifted_any q hq _).mono ?_
     rintro e w2 ⟨rfl, hb⟩
     rw [HQ.out]
     have q2B : Below w.heap.size w w2 := qB hb
     have q2z := hb.size
     try simp at q2z
     have q2t : w.heap.size ≤ w2.heap.size := (by omega)
     obtain ⟨q2s0, q2n0_0, q2n0_1, q2n0_2⟩ := kB w2.heap.size w.heap.size
     obtain ⟨q2c0_0, q2c0_1, q2f0⟩ := kC2 hb w.heap.size
     simp [go_sem, *] at q2c0_0 q2c0_1 q2f0
     obtain ⟨q2s1, q2n1_0, q2n1_1, q2n1_2⟩ := kB w2.heap.size (w.heap.size + 1)
     obtain ⟨q2c1_0, q2c1_1, q2f1⟩ := kC2 hb (w.heap.size + 1)
     simp [go_sem, *] at q2c1_0 q2c1_1 q2f1
     obtain ⟨q2s2, q2n2_0, q2n2_1, q2n2_2⟩ := kB w2.heap.size (w.heap.size + 2)
     obtain ⟨q2c2_0, q2c2_1, q2f2⟩ := kC2 hb (w.heap.size + 2)
     simp [go_sem, *] at q2c2_0 q2c2_1 q2f2
     have q2o := belO q2B
     clear hb q1o q1f2 q1c2_1 q1c2_0 q1s2 q1f1 q1c1_1 q1c1_0 q1s1 q1f0 q1c0_1 q1c0_0 q1s0 q1z q1B
     go_wp2_with fail
     go_roundw
     case rel =>
      refine ⟨k + 1, 2 * q, r * 2 + 1, _, by omega, by go_num, rfl, by omega, by omega, by omega, hide (by rw [HP2.out]; have := HP.out; omega), HAM.out, hide (by rw [HM2.out, HE3.out, HN.out.1]; omega), ?_, ?_, ?_, ?_, ?_⟩
      ·(repeat (first | (with_reducible first | exact Below.refl _ _ | assumption | refine Below.drew ?_) | ((with_reducible first | refine Below.alloc ?_ ?_ _ | refine Below.setCell ?_ ?_ _); rotate_left; (first | omega | (simp <;> omega)))))
      ·simp; omega
      ·exact ⟨by simp [go_sem, *], by simp [go_sem, *], by simp [go_sem, *]⟩
      ·exact ⟨by simp [go_sem, *], by simp [go_sem, *], by simp [go_sem, *]⟩
      ·exact ⟨by simp [go_sem, *], (by first | (simp [go_sem, *]; done) | (refine World.cell?_setCell_same' _ _ _ ?_; first | (simp [go_sem, *]; done) | (rw [World.cell?_setCell_same' _ _ _ (by simp [go_sem, *])]; rfl))), by simp [go_sem, *]⟩
     case measure => simp [intOf]; omega
   ·have hbit' : hiW a < 9223372036854775808 := by omega
    have et := and_top_lo (hiW a) b1 hbit'
    have HA := hide (quo_lo ha hbit')
    have HAM := hide (quo_min2 ha hbit')
    clear hbit hbit'
    by_cases hg : n ≤ r * 2
    ·have e2 : IntKind.u64.wrap (r * 2 - n) = r * 2 - n := by rw [wrapU]; omega
     have e3 := HO.out.1
     have e4 := HO.out.2
     go_wp2_with fail
     refine (rshifted_any a ha _).mono ?_
     rintro e w1 ⟨rfl, hb⟩
     rw [HA.out]
     have q1B : Below w.heap.size w w1 := qB hb
     have q1z := hb.size
     try simp at q1z
     have q1t : w.heap.size ≤ w1.heap.size := (by omega)
     obtain ⟨q1s0, q1n0_0, q1n0_1, q1n0_2⟩ := kB w1.heap.size w.heap.size
     obtain ⟨q1c0_0, q1c0_1, q1f0⟩ := kC2 hb w.heap.size
     simp [go_sem, *] at q1c0_0 q1c0_1 q1f0
     obtain ⟨q1s1, q1n1_0, q1n1_1, q1n1_2⟩ := kB w1.heap.size (w.heap.size + 1)
     obtain ⟨q1c1_0, q1c1_1, q1f1⟩ := kC2 hb (w.heap.size + 1)
     simp [go_sem, *] at q1c1_0 q1c1_1 q1f1
     obtain ⟨q1s2, q1n2_0, q1n2_1, q1n2_2⟩ := kB w1.heap.size (w.heap.size + 2)
     obtain ⟨q1c2_0, q1c2_1, q1f2⟩ := kC2 hb (w.heap.size + 2)
     simp [go_sem, *] at q1c2_0 q1c2_1 q1f2
     have q1o := belO q1B
     clear hb
     go_wp2_with fail
     refine (rshifted_any q hq _).mono ?_
     rintro e w2 ⟨rfl, hb⟩
     rw [HQ.out]
     have q2B : Below w.heap.size w w2 := qB hb
     have q2z := hb.size
     try simp at q2z
     have q2t : w.heap.size ≤ w2.heap.size := (by omega)
     obtain ⟨q2s0, q2n0_0, q2n0_1, q2n0_2⟩ := kB w2.heap.size w.heap.size
     obtain ⟨q2c0_0, q2c0_1, q2f0⟩ := kC2 hb w.heap.size
     simp [go_sem, *] at q2c0_0 q2c0_1 q2f0
     obtain ⟨q2s1, q2n1_0, q2n1_1, q2n1_2⟩ := kB w2.heap.size (w.heap.size + 1)
     obtain ⟨q2c1_0, q2c1_1, q2f1⟩ := kC2 hb (w.heap.size + 1)
     simp [go_sem, *] at q2c1_0 q2c1_1 q2f1
     obtain ⟨q2s2, q2n2_0, q2n2_1, q2n2_2⟩ := kB w2.heap.size (w.heap.size + 2)
     obtain ⟨q2c2_0, q2c2_1, q2f2⟩ := kC2 hb (w.heap.size + 2)
     simp [go_sem, *] at q2c2_0 q2c2_1 q2f2
     have q2o := belO q2B
     clear hb q1o q1f2 q1c2_1 q1c2_0 q1s2 q1f1 q1c1_1 q1c1_0 q1s1 q1f0 q1c0_1 q1c0_0 q1s0 q1z q1B
     go_wp2_with fail
     go_roundw
     case rel =>
      refine ⟨k + 1, 2 * q + 1, r * 2 - n, _, by omega, by go_num, rfl, by omega, by omega, by omega, hide (by rw [HP2.out]; have := HP.out; omega), HAM.out, hide (by rw [HM2.out, HE3.out, HN.out.2]; omega), ?_, ?_, ?_, ?_, ?_⟩
      ·(repeat (first | (with_reducible first | exact Below.refl _ _ | assumption | refine Below.drew ?_) | ((with_reducible first | refine Below.alloc ?_ ?_ _ | refine Below.setCell ?_ ?_ _); rotate_left; (first | omega | (simp <;> omega)))))
      ·simp; omega
      ·exact ⟨by simp [go_sem, *], by simp [go_sem, *], by simp [go_sem, *]⟩
      ·exact ⟨by simp [go_sem, *], by simp [go_sem, *], by simp [go_sem, *]⟩
      ·exact ⟨by simp [go_sem, *], (by first | (simp [go_sem, *]; done) | (refine World.cell?_setCell_same' _ _ _ ?_; first | (simp [go_sem, *]; done) | (rw [World.cell?_setCell_same' _ _ _ (by simp [go_sem, *])]; rfl))), by simp [go_sem, *]⟩
     case measure => simp [intOf]; omega
    ·have hg2 : r * 2 < n := by omega
     clear hg
     go_wp2_with fail
     refine (rshifted_any a ha _).mono ?_
     rintro e w1 ⟨rfl, hb⟩
     rw [HA.out]
     have q1B : Below w.heap.size w w1 := qB hb
     have q1z := hb.size
     try simp at q1z
     have q1t : w.heap.size ≤ w1.heap.size := (by omega)
     obtain ⟨q1s0, q1n0_0, q1n0_1, q1n0_2⟩ := kB w1.heap.size w.heap.size
     obtain ⟨q1c0_0, q1c0_1, q1f0⟩ := kC2 hb w.heap.size
     simp [go_sem, *] at q1c0_0 q1c0_1 q1f0
     obtain ⟨q1s1, q1n1_0, q1n1_1, q1n1_2⟩ := kB w1.heap.size (w.heap.size + 1)
     obtain ⟨q1c1_0, q1c1_1, q1f1⟩ := kC2 hb (w.heap.size + 1)
     simp [go_sem, *] at q1c1_0 q1c1_1 q1f1
     obtain ⟨q1s2, q1n2_0, q1n2_1, q1n2_2⟩ := kB w1.heap.size (w.heap.size + 2)
     obtain ⟨q1c2_0, q1c2_1, q1f2⟩ := kC2 hb (w.heap.size + 2)
     simp [go_sem, *] at q1c2_0 q1c2_1 q1f2
     have q1o := belO q1B
     clear hb
     go_wp2_with fail
     refine (rshifted_any q hq _).mono ?_
     rintro e w2 ⟨rfl, hb⟩
     rw [HQ.out]
     have q2B : Below w.heap.size w w2 := qB hb
     have q2z := hb.size
     try simp at q2z
     have q2t : w.heap.size ≤ w2.heap.size := (by omega)
     obtain ⟨q2s0, q2n0_0, q2n0_1, q2n0_2⟩ := kB w2.heap.size w.heap.size
     obtain ⟨q2c0_0, q2c0_1, q2f0⟩ := kC2 hb w.heap.size
     simp [go_sem, *] at q2c0_0 q2c0_1 q2f0
     obtain ⟨q2s1, q2n1_0, q2n1_1, q2n1_2⟩ := kB w2.heap.size (w.heap.size + 1)
     obtain ⟨q2c1_0, q2c1_1, q2f1⟩ := kC2 hb (w.heap.size + 1)
     simp [go_sem, *] at q2c1_0 q2c1_1 q2f1
     obtain ⟨q2s2, q2n2_0, q2n2_1, q2n2_2⟩ := kB w2.heap.size (w.heap.size + 2)
     obtain ⟨q2c2_0, q2c2_1, q2f2⟩ := kC2 hb (w.heap.size + 2)
     simp [go_sem, *] at q2c2_0 q2c2_1 q2f2
     have q2o := belO q2B
     clear hb q1o q1f2 q1c2_1 q1c2_0 q1s2 q1f1 q1c1_1 q1c1_0 q1s1 q1f0 q1c0_1 q1c0_0 q1s0 q1z q1B
     go_wp2_with fail
     go_roundw
     case rel =>
      refine ⟨k + 1, 2 * q, r * 2, _, by omega, by go_num, rfl, by omega, by omega, by omega, hide (by rw [HP2.out]; have := HP.out; omega), HAM.out, hide (by rw [HM2.out, HE3.out, HN.out.1]; omega), ?_, ?_, ?_, ?_, ?_⟩
      ·(repeat (first | (with_reducible first | exact Below.refl _ _ | assumption | refine Below.drew ?_) | ((with_reducible first | refine Below.alloc ?_ ?_ _ | refine Below.setCell ?_ ?_ _); rotate_left; (first | omega | (simp <;> omega)))))
      ·simp; omega
      ·exact ⟨by simp [go_sem, *], by simp [go_sem, *], by simp [go_sem, *]⟩
      ·exact ⟨by simp [go_sem, *], by simp [go_sem, *], by simp [go_sem, *]⟩
      ·exact ⟨by simp [go_sem, *], (by first | (simp [go_sem, *]; done) | (refine World.cell?_setCell_same' _ _ _ ?_; first | (simp [go_sem, *]; done) | (rw [World.cell?_setCell_same' _ _ _ (by simp [go_sem, *])]; rfl))), by simp [go_sem, *]⟩
     case measure => simp [intOf]; omega
  ·obtain rfl : k = 128 := by omega
   have hq := quo_end (m := m) (q := q) (n := n) (r := r) (by have := HE.out; unfold MIn at ha; omega) r0 r1
   have HQ := hide hq
   clear hq
   go_wp2_with fail
   refine bodyPost_ret (by simp [results, Tryz.results162, go_sem, *] <;> rfl) rfl ⟨?_, ?_⟩
   ·rw [HQ.out.1, HQ.out.2]
   (repeat (first | (with_reducible first | exact Below.refl _ _ | assumption | refine Below.drew ?_) | ((with_reducible first | refine Below.alloc ?_ ?_ _ | refine Below.setCell ?_ ?_ _); rotate_left; (first | omega | (simp <;> omega)))))
/-! ### Div by the grains of a minor unit -/
theorem rdiv_pos (x : Int) (hx : WIn x) (h0 : 0 ≤ x) (w : World) :
  Calls Tryz.prog 147 #[.agg #[.int .i64 (hiW x), .int .u64 (loW x)], .int .i64 1603080000000] w fun e w' => e = .returned (.tuple #[.agg #[.int .i64 (hiW (x / 1603080000000)), .int .u64 (loW (x / 1603080000000))], .int .i64 (x % 1603080000000), .int .i64 0]) ∧ Below w.heap.size w w' := by
 have HA := hide (absI_pos h0)
 have HM := hide (show MIn x from by unfold WIn at hx; unfold MIn; omega)
 have HQ := hide (quo_in HM.out)
 have HR := hide (show wrap128 (sgn false (x / 1603080000000)) = x / 1603080000000 from by rw [sgn_f]; exact wrap128_of (quo_win hx))
 have h1 : decide (x < 0) = false := decide_eq_false (by omega)
 have h2 : IntKind.i64.wrap (x % 1603080000000) = x % 1603080000000 := by rw [IntKind.wrap_i64]; omega
 go_enter Tryz.func147, Tryz.ntmps147
 go_wp2_with fail
 refine (rsplit_any x hx _).mono ?_
 rintro e w1 ⟨rfl, hb⟩
 rw [HA.out, h1]
 have q1B : Below w.heap.size w w1 := qB hb
 have q1z := hb.size
 try simp at q1z
 have q1t : w.heap.size ≤ w1.heap.size := (by omega)
 obtain ⟨q1s0, q1n0_0, q1n0_1, q1n0_2⟩ := kB w1.heap.size w.heap.size
 obtain ⟨q1c0_0, q1c0_1, q1f0⟩ := kC2 hb w.heap.size
 simp [go_sem, *] at q1c0_0 q1c0_1 q1f0
 obtain ⟨q1s1, q1n1_0, q1n1_1, q1n1_2⟩ := kB w1.heap.size (w.heap.size + 1)
 obtain ⟨q1c1_0, q1c1_1, q1f1⟩ := kC2 hb (w.heap.size + 1)
 simp [go_sem, *] at q1c1_0 q1c1_1 q1f1
 have q1o := belO q1B
 clear hb
 go_wp2_with fail
 refine (rquot_any _ 1603080000000 HM.out (by decide) (by decide) _).mono ?_
 rintro e w2 ⟨rfl, hb⟩
 have q2B : Below w.heap.size w w2 := qB hb
 have q2z := hb.size
 try simp at q2z
 have q2t : w.heap.size ≤ w2.heap.size := (by omega)
 obtain ⟨q2s0, q2n0_0, q2n0_1, q2n0_2⟩ := kB w2.heap.size w.heap.size
 obtain ⟨q2c0_0, q2c0_1, q2f0⟩ := kC2 hb w.heap.size
 simp [go_sem, *] at q2c0_0 q2c0_1 q2f0
 obtain ⟨q2s1, q2n1_0, q2n1_1, q2n1_2⟩ := kB w2.heap.size (w.heap.size + 1)
 obtain ⟨q2c1_0, q2c1_1, q2f1⟩ := kC2 hb (w.heap.size + 1)
 simp [go_sem, *] at q2c1_0 q2c1_1 q2f1
 obtain ⟨q2s2, q2n2_0, q2n2_1, q2n2_2⟩ := kB w2.heap.size w1.heap.size
 obtain ⟨q2c2_0, q2c2_1, q2f2⟩ := kC2 hb w1.heap.size
 simp [go_sem, *] at q2c2_0 q2c2_1 q2f2
 have q2o := belO q2B
 clear hb q1o q1f1 q1c1_1 q1c1_0 q1s1 q1f0 q1c0_1 q1c0_0 q1s0 q1z q1B
 go_wp2_with fail
 refine (rjoin_any _ _ HQ.out _).mono ?_
 rintro e w3 ⟨rfl, hb⟩
 rw [HR.out]
 have q3B : Below w.heap.size w w3 := qB hb
 have q3z := hb.size
 try simp at q3z
 have q3t : w.heap.size ≤ w3.heap.size := (by omega)
 obtain ⟨q3s0, q3n0_0, q3n0_1, q3n0_2⟩ := kB w3.heap.size w.heap.size
 obtain ⟨q3c0_0, q3c0_1, q3f0⟩ := kC2 hb w.heap.size
 simp [go_sem, *] at q3c0_0 q3c0_1 q3f0
 obtain ⟨q3s1, q3n1_0, q3n1_1, q3n1_2⟩ := kB w3.heap.size (w.heap.size + 1)
 obtain ⟨q3c1_0, q3c1_1, q3f1⟩ := kC2 hb (w.heap.size + 1)
 simp [go_sem, *] at q3c1_0 q3c1_1 q3f1
 have q3o := belO q3B
 clear hb q2o q2f2 q2c2_1 q2c2_0 q2s2 q2f1 q2c1_1 q2c1_0 q2s1 q2f0 q2c0_1 q2c0_0 q2s0 q2z q2B
 go_wp2_with fail
 refine bodyPost_ret (by simp [results, Tryz.results147, go_sem, *] <;> rfl) rfl ⟨?_, ?_⟩
 ·rfl
 (repeat (first | (with_reducible first | exact Below.refl _ _ | assumption | refine Below.drew ?_) | ((with_reducible first | refine Below.alloc ?_ ?_ _ | refine Below.setCell ?_ ?_ _); rotate_left; (first | omega | (simp <;> omega)))))
theorem rdiv_neg0 (x : Int) (hx : WIn x) (h0 : x < 0) (h00 : x % 1603080000000 = 0) (w : World) :
  Calls Tryz.prog 147 #[.agg #[.int .i64 (hiW x), .int .u64 (loW x)], .int .i64 1603080000000] w fun e w' => e = .returned (.tuple #[.agg #[.int .i64 (hiW (x / 1603080000000)), .int .u64 (loW (x / 1603080000000))], .int .i64 (x % 1603080000000), .int .i64 0]) ∧ Below w.heap.size w w' := by
 have HA := hide (absI_neg h0)
 have HM := hide (show MIn (-x) from by unfold WIn at hx; unfold MIn; omega)
 have HQ := hide (quo_in HM.out)
 have HR := hide (show wrap128 (sgn true (-x / 1603080000000)) = x / 1603080000000 from by rw [sgn_t, show -(-x / 1603080000000) = x / 1603080000000 by omega]; exact wrap128_of (quo_win hx))
 have h1 : decide (x < 0) = true := decide_eq_true h0
 have h2 : (-x) % 1603080000000 = 0 := by omega
 have h3 := h00
 go_enter Tryz.func147, Tryz.ntmps147
 go_wp2_with fail
 refine (rsplit_any x hx _).mono ?_
 rintro e w1 ⟨rfl, hb⟩
 rw [HA.out, h1]
 have q1B : Below w.heap.size w w1 := qB hb
 have q1z := hb.size
 try simp at q1z
 have q1t : w.heap.size ≤ w1.heap.size := (by omega)
 obtain ⟨q1s0, q1n0_0, q1n0_1, q1n0_2⟩ := kB w1.heap.size w.heap.size
 obtain ⟨q1c0_0, q1c0_1, q1f0⟩ := kC2 hb w.heap.size
 simp [go_sem, *] at q1c0_0 q1c0_1 q1f0
 obtain ⟨q1s1, q1n1_0, q1n1_1, q1n1_2⟩ := kB w1.heap.size (w.heap.size + 1)
 obtain ⟨q1c1_0, q1c1_1, q1f1⟩ := kC2 hb (w.heap.size + 1)
 simp [go_sem, *] at q1c1_0 q1c1_1 q1f1
 have q1o := belO q1B
 clear hb
 go_wp2_with fail
 refine (rquot_any _ 1603080000000 HM.out (by decide) (by decide) _).mono ?_
 rintro e w2 ⟨rfl, hb⟩
 rw [h2]
 have q2B : Below w.heap.size w w2 := qB hb
 have q2z := hb.size
 try simp at q2z
 have q2t : w.heap.size ≤ w2.heap.size := (by omega)
 obtain ⟨q2s0, q2n0_0, q2n0_1, q2n0_2⟩ := kB w2.heap.size w.heap.size
 obtain ⟨q2c0_0, q2c0_1, q2f0⟩ := kC2 hb w.heap.size
 simp [go_sem, *] at q2c0_0 q2c0_1 q2f0
 obtain ⟨q2s1, q2n1_0, q2n1_1, q2n1_2⟩ := kB w2.heap.size (w.heap.size + 1)
 obtain ⟨q2c1_0, q2c1_1, q2f1⟩ := kC2 hb (w.heap.size + 1)
 simp [go_sem, *] at q2c1_0 q2c1_1 q2f1
 obtain ⟨q2s2, q2n2_0, q2n2_1, q2n2_2⟩ := kB w2.heap.size w1.heap.size
 obtain ⟨q2c2_0, q2c2_1, q2f2⟩ := kC2 hb w1.heap.size
 simp [go_sem, *] at q2c2_0 q2c2_1 q2f2
 have q2o := belO q2B
 clear hb q1o q1f1 q1c1_1 q1c1_0 q1s1 q1f0 q1c0_1 q1c0_0 q1s0 q1z q1B
 go_wp2_with fail
 refine (rjoin_any _ _ HQ.out _).mono ?_
 rintro e w3 ⟨rfl, hb⟩
 rw [HR.out]
 have q3B : Below w.heap.size w w3 := qB hb
 have q3z := hb.size
 try simp at q3z
 have q3t : w.heap.size ≤ w3.heap.size := (by omega)
 obtain ⟨q3s0, q3n0_0, q3n0_1, q3n0_2⟩ := kB w3.heap.size w.heap.size
 obtain ⟨q3c0_0, q3c0_1, q3f0⟩ := kC2 hb w.heap.size
 simp [go_sem, *] at q3c0_0 q3c0_1 q3f0
 obtain ⟨q3s1, q3n1_0, q3n1_1, q3n1_2⟩ := kB w3.heap.size (w.heap.size + 1)
 obtain ⟨q3c1_0, q3c1_1, q3f1⟩ := kC2 hb (w.heap.size + 1)
 simp [go_sem, *] at q3c1_0 q3c1_1 q3f1
 have q3o := belO q3B
 clear hb q2o q2f2 q2c2_1 q2c2_0 q2s2 q2f1 q2c1_1 q2c1_0 q2s1 q2f0 q2c0_1 q2c0_0 q2s0 q2z q2B
 go_wp2_with fail
 refine bodyPost_ret (by simp [results, Tryz.results147, go_sem, *] <;> rfl) rfl ⟨?_, ?_⟩
 ·first | rfl | rw [h3]
 (repeat (first | (with_reducible first | exact Below.refl _ _ | assumption | refine Below.drew ?_) | ((with_reducible first | refine Below.alloc ?_ ?_ _ | refine Below.setCell ?_ ?_ _); rotate_left; (first | omega | (simp <;> omega)))))
theorem rdiv_neg1 (x : Int) (hx : WIn x) (h0 : x < 0) (h00 : ¬ x % 1603080000000 = 0) (w : World) :
  Calls Tryz.prog 147 #[.agg #[.int .i64 (hiW x), .int .u64 (loW x)], .int .i64 1603080000000] w fun e w' => e = .returned (.tuple #[.agg #[.int .i64 (hiW (x / 1603080000000)), .int .u64 (loW (x / 1603080000000))], .int .i64 (x % 1603080000000), .int .i64 0]) ∧ Below w.heap.size w w' := by
 have HA := hide (absI_neg h0)
 have HM := hide (show MIn (-x) from by unfold WIn at hx; unfold MIn; omega)
 have HQ0 := hide (quo_in HM.out)
 have HMM := hide (show mod128 (-x / 1603080000000 + 1) = -(x / 1603080000000) from by unfold WIn at hx; unfold mod128; omega)
 have HQ := hide (show MIn (-(x / 1603080000000)) from by unfold WIn at hx; unfold MIn; omega)
 have HR := hide (show wrap128 (sgn true (-(x / 1603080000000))) = x / 1603080000000 from by rw [sgn_t, Int.neg_neg]; exact wrap128_of (quo_win hx))
 have h1 : decide (x < 0) = true := decide_eq_true h0
 obtain ⟨r, hr⟩ : ∃ r, r = (-x) % 1603080000000 := ⟨_, rfl⟩
 have r0 : 0 < r := by omega
 have r1 : r < 1603080000000 := by omega
 have h3 : IntKind.u64.wrap (1603080000000 - r) = 1603080000000 - r := by rw [wrapU]; omega
 have h4 : IntKind.i64.wrap (1603080000000 - r) = 1603080000000 - r := by rw [IntKind.wrap_i64]; omega
 have H5 := hide (show x % 1603080000000 = 1603080000000 - r by omega)
 go_enter Tryz.func147, Tryz.ntmps147
 go_wp2_with fail
 refine (rsplit_any x hx _).mono ?_
 rintro e w1 ⟨rfl, hb⟩
 rw [HA.out, h1]
 have q1B : Below w.heap.size w w1 := qB hb
 have q1z := hb.size
 try simp at q1z
 have q1t : w.heap.size ≤ w1.heap.size := (by omega)
 obtain ⟨q1s0, q1n0_0, q1n0_1, q1n0_2⟩ := kB w1.heap.size w.heap.size
 obtain ⟨q1c0_0, q1c0_1, q1f0⟩ := kC2 hb w.heap.size
 simp [go_sem, *] at q1c0_0 q1c0_1 q1f0
 obtain ⟨q1s1, q1n1_0, q1n1_1, q1n1_2⟩ := kB w1.heap.size (w.heap.size + 1)
 obtain ⟨q1c1_0, q1c1_1, q1f1⟩ := kC2 hb (w.heap.size + 1)
 simp [go_sem, *] at q1c1_0 q1c1_1 q1f1
 have q1o := belO q1B
 clear hb
 go_wp2_with fail
 refine (rquot_any _ 1603080000000 HM.out (by decide) (by decide) _).mono ?_
 rintro e w2 ⟨rfl, hb⟩
 rw [← hr]
 clear hr
 have q2B : Below w.heap.size w w2 := qB hb
 have q2z := hb.size
 try simp at q2z
 have q2t : w.heap.size ≤ w2.heap.size := (by omega)
 obtain ⟨q2s0, q2n0_0, q2n0_1, q2n0_2⟩ := kB w2.heap.size w.heap.size
 obtain ⟨q2c0_0, q2c0_1, q2f0⟩ := kC2 hb w.heap.size
 simp [go_sem, *] at q2c0_0 q2c0_1 q2f0
 obtain ⟨q2s1, q2n1_0, q2n1_1, q2n1_2⟩ := kB w2.heap.size (w.heap.size + 1)
 obtain ⟨q2c1_0, q2c1_1, q2f1⟩ := kC2 hb (w.heap.size + 1)
 simp [go_sem, *] at q2c1_0 q2c1_1 q2f1
 obtain ⟨q2s2, q2n2_0, q2n2_1, q2n2_2⟩ := kB w2.heap.size w1.heap.size
 obtain ⟨q2c2_0, q2c2_1, q2f2⟩ := kC2 hb w1.heap.size
 simp [go_sem, *] at q2c2_0 q2c2_1 q2f2
 have q2o := belO q2B
 clear hb q1o q1f1 q1c1_1 q1c1_0 q1s1 q1f0 q1c0_1 q1c0_0 q1s0 q1z q1B
 go_wp2_with fail
 refine (rplus_any _ 1 HQ0.out (by unfold MIn; omega) _).mono ?_
 rintro e w3 ⟨rfl, hb⟩
 rw [HMM.out]
 have q3B : Below w.heap.size w w3 := qB hb
 have q3z := hb.size
 try simp at q3z
 have q3t : w.heap.size ≤ w3.heap.size := (by omega)
 obtain ⟨q3s0, q3n0_0, q3n0_1, q3n0_2⟩ := kB w3.heap.size w.heap.size
 obtain ⟨q3c0_0, q3c0_1, q3f0⟩ := kC2 hb w.heap.size
 simp [go_sem, *] at q3c0_0 q3c0_1 q3f0
 obtain ⟨q3s1, q3n1_0, q3n1_1, q3n1_2⟩ := kB w3.heap.size (w.heap.size + 1)
 obtain ⟨q3c1_0, q3c1_1, q3f1⟩ := kC2 hb (w.heap.size + 1)
 simp [go_sem, *] at q3c1_0 q3c1_1 q3f1
 obtain ⟨q3s2, q3n2_0, q3n2_1, q3n2_2⟩ := kB w3.heap.size w2.heap.size
 obtain ⟨q3c2_0, q3c2_1, q3f2⟩ := kC2 hb w2.heap.size
 simp [go_sem, *] at q3c2_0 q3c2_1 q3f2
 have q3o := belO q3B
 clear hb q2o q2f2 q2c2_1 q2c2_0 q2s2 q2f1 q2c1_1 q2c1_0 q2s1 q2f0 q2c0_1 q2c0_0 q2s0 q2z q2B
 go_wp2_with fail
 refine (rjoin_any _ _ HQ.out _).mono ?_
 rintro e w4 ⟨rfl, hb⟩
 rw [HR.out]
 have q4B : Below w.heap.size w w4 := qB hb
 have q4z := hb.size
 try simp at q4z
 have q4t : w.heap.size ≤ w4.heap.size := (by omega)
 obtain ⟨q4s0, q4n0_0, q4n0_1, q4n0_2⟩ := kB w4.heap.size w.heap.size
 obtain ⟨q4c0_0, q4c0_1, q4f0⟩ := kC2 hb w.heap.size
 simp [go_sem, *] at q4c0_0 q4c0_1 q4f0
 obtain ⟨q4s1, q4n1_0, q4n1_1, q4n1_2⟩ := kB w4.heap.size (w.heap.size + 1)
 obtain ⟨q4c1_0, q4c1_1, q4f1⟩ := kC2 hb (w.heap.size + 1)
 simp [go_sem, *] at q4c1_0 q4c1_1 q4f1
 have q4o := belO q4B
 clear hb q3o q3f2 q3c2_1 q3c2_0 q3s2 q3f1 q3c1_1 q3c1_0 q3s1 q3f0 q3c0_1 q3c0_0 q3s0 q3z q3B
 go_wp2_with fail
 refine bodyPost_ret (by simp [results, Tryz.results147, go_sem, *] <;> rfl) rfl ⟨?_, ?_⟩
 ·rw [H5.out]
 (repeat (first | (with_reducible first | exact Below.refl _ _ | assumption | refine Below.drew ?_) | ((with_reducible first | refine Below.alloc ?_ ?_ _ | refine Below.setCell ?_ ?_ _); rotate_left; (first | omega | (simp <;> omega)))))
theorem rdiv_any (x : Int) (hx : WIn x) (w : World) :
  Calls Tryz.prog 147 #[.agg #[.int .i64 (hiW x), .int .u64 (loW x)], .int .i64 1603080000000] w fun e w' => e = .returned (.tuple #[.agg #[.int .i64 (hiW (x / 1603080000000)), .int .u64 (loW (x / 1603080000000))], .int .i64 (x % 1603080000000), .int .i64 0]) ∧ Below w.heap.size w w' := by
 by_cases h : x < 0
 ·by_cases h2 : x % 1603080000000 = 0
  ·exact rdiv_neg0 x hx h h2 w
  ·exact rdiv_neg1 x hx h h2 w
 ·exact rdiv_pos x hx (by omega) w
/-! ### Int -/
theorem rint_yes (x : Int) (h1 : -9223372036854775808 ≤ x) (h2 : x ≤ 9223372036854775807) (w : World) :
  Calls Tryz.prog 149 #[.agg #[.int .i64 (hiW x), .int .u64 (loW x)]] w fun e w' => e = .returned (.tuple #[.int .i64 x, .bool true]) ∧ Below w.heap.size w w' := by
 have h3 : IntKind.i64.wrap (loW x) = x := by rw [IntKind.wrap_i64]; unfold loW; omega
 go_enter Tryz.func149, Tryz.ntmps149
 go_wp2_with fail
 refine ord_start (SB (w.heap.size + 1) [] _) 6 (preB 0 6) (by kernel_rfl) (by kernel_rfl) (by kernel_rfl) SB.refl.drew (fun hHeld => ?_)
 refine oS (i := 0) (preB 1 5) rfl hHeld ?_
 (try simp only [Act.put, putS])
 refine oS (i := 1) (preB 2 4) rfl hHeld ?_
 (try simp only [Act.put, putS])
 refine oS (i := 2) (preB 3 3) rfl hHeld ?_
 (try simp only [Act.put, putS])
 refine oS (i := 4) #[true, true, true, false, true, false] rfl hHeld ?_
 (try simp only [Act.put, putS])
 refine wpAnyH_ready (rs := [3]) (by kernel_rfl) (by simp) ?_
 refine ord_run (i := 3) (preB 5 1) rfl (by kernel_rfl) (by rfl) (fun K hK => ?_) AllReadyH.nil
 go_simp
 go_wp2_with (go_at_call 63; refine (rof_any x h1 h2 _).mono ?_; rintro e w1 ⟨rfl, hb⟩; have q1B : Below w.heap.size w w1 := qB hb; have q1z := hb.size; (try simp at q1z); have q1t : w.heap.size ≤ w1.heap.size := (by omega); have q1s0 : w.heap.size < w1.heap.size := (by omega); obtain ⟨q1n0_0, q1n0_1, q1n0_2⟩ := kN q1s0; obtain ⟨q1c0_0, q1c0_1, q1f0⟩ := kC2 hb w.heap.size; simp [go_sem, *] at q1c0_0 q1c0_1 q1f0; have q1o := belO q1B; have hbS := hb; have hbS1 := hb; clear hb)
 refine hK.out _ _ ?_ (fun hHeld => ?_)
 ·exact sbT
 clear hK K
 (try simp only [Act.put, putS])
 refine oS (i := 5) (preB 6 0) rfl hHeld ?_
 (try simp only [Act.put, putS])
 refine wpAnyH_done (by kernel_rfl) ?_ _
 go_wp2_with fail
 refine bodyPost_ret (by simp [results, Tryz.results149, go_sem, *] <;> rfl) rfl ⟨?_, ?_⟩
 ·rfl
 (repeat (first | (with_reducible first | exact Below.refl _ _ | assumption | refine Below.drew ?_) | ((with_reducible first | refine Below.alloc ?_ ?_ _ | refine Below.setCell ?_ ?_ _); rotate_left; (first | omega | (simp <;> omega)))))
theorem rint_no (x : Int) (hx : WIn x) (h : ¬ (-9223372036854775808 ≤ x ∧ x ≤ 9223372036854775807)) (w : World) :
  Calls Tryz.prog 149 #[.agg #[.int .i64 (hiW x), .int .u64 (loW x)]] w fun e w' => e = .returned (.tuple #[.int .i64 0, .bool false]) ∧ Below w.heap.size w w' := by
 obtain ⟨y, hy⟩ : ∃ y, y = IntKind.i64.wrap (loW x) := ⟨_, rfl⟩
 have h3 := hy.symm
 have hyb : -9223372036854775808 ≤ y ∧ y ≤ 9223372036854775807 := by rw [hy, IntKind.wrap_i64]; omega
 have HN := hide (show hiW y = hiW x → ¬ loW y = loW x from by rw [hy, IntKind.wrap_i64]; unfold WIn at hx; unfold hiW loW; omega)
 obtain ⟨y1, y2⟩ := hyb
 clear hy hx h
 go_enter Tryz.func149, Tryz.ntmps149
 go_wp2_with fail
 refine ord_start (SB (w.heap.size + 1) [] _) 6 (preB 0 6) (by kernel_rfl) (by kernel_rfl) (by kernel_rfl) SB.refl.drew (fun hHeld => ?_)
 refine oS (i := 0) (preB 1 5) rfl hHeld ?_
 (try simp only [Act.put, putS])
 refine oS (i := 1) (preB 2 4) rfl hHeld ?_
 (try simp only [Act.put, putS])
 refine oS (i := 2) (preB 3 3) rfl hHeld ?_
 (try simp only [Act.put, putS])
 refine oS (i := 4) #[true, true, true, false, true, false] rfl hHeld ?_
 (try simp only [Act.put, putS])
 refine wpAnyH_ready (rs := [3]) (by kernel_rfl) (by simp) ?_
 refine ord_run (i := 3) (preB 5 1) rfl (by kernel_rfl) (by rfl) (fun K hK => ?_) AllReadyH.nil
 go_simp
 go_wp2_with (go_at_call 63; refine (rof_any y y1 y2 _).mono ?_; rintro e w1 ⟨rfl, hb⟩; have q1B : Below w.heap.size w w1 := qB hb; have q1z := hb.size; (try simp at q1z); have q1t : w.heap.size ≤ w1.heap.size := (by omega); have q1s0 : w.heap.size < w1.heap.size := (by omega); obtain ⟨q1n0_0, q1n0_1, q1n0_2⟩ := kN q1s0; obtain ⟨q1c0_0, q1c0_1, q1f0⟩ := kC2 hb w.heap.size; simp [go_sem, *] at q1c0_0 q1c0_1 q1f0; have q1o := belO q1B; have hbS := hb; have hbS1 := hb; clear hb)
 refine hK.out _ _ ?_ (fun hHeld => ?_)
 ·exact sbT
 clear hK K
 (try simp only [Act.put, putS])
 refine oT (i := 5) (preB 6 0) (.bool false) rfl hHeld (fun wx hSx => ?_) ?_
 ·(unfold SB at hSx; go_simp; (rcases Decidable.em (hiW y = hiW x) with q1 | q1); (have q2 := HN.out q1; simp [q1, q2]); (simp [q1]))
 (try simp only [Act.put, putS])
 refine wpAnyH_done (by kernel_rfl) ?_ _
 go_wp2_with fail
 refine bodyPost_ret (by simp [results, Tryz.results149, go_sem, *] <;> rfl) rfl ⟨?_, ?_⟩
 ·rfl
 (repeat (first | (with_reducible first | exact Below.refl _ _ | assumption | refine Below.drew ?_) | ((with_reducible first | refine Below.alloc ?_ ?_ _ | refine Below.setCell ?_ ?_ _); rotate_left; (first | omega | (simp <;> omega)))))
theorem rwint_any (x : Int) (hx : WIn x) (w : World) :
  Calls Tryz.prog 149 #[.agg #[.int .i64 (hiW x), .int .u64 (loW x)]] w fun e w' => e = .returned (.tuple #[.int .i64 (iV x), .bool (iB x)]) ∧ Below w.heap.size w w' := by
 unfold iV iB
 by_cases h : -9223372036854775808 ≤ x ∧ x ≤ 9223372036854775807
 ·rw [if_pos h, decide_eq_true h]
  exact rint_yes x h.1 h.2 w
 ·rw [if_neg h, decide_eq_false h]
  exact rint_no x hx h w
end Go.Proofs.YtdjlaiilngechaaGreatDoor
