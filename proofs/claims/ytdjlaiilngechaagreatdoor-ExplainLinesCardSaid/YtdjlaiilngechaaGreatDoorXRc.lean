/- Texts laid together: Rc Rd Re. -/
import Derived.Test.YtdjlaiilngechaaGreatDoorXRa
import Derived.Test.YtdjlaiilngechaaGreatDoorXWc
import Derived.Deep.DeepCutAuto
import Derived.Test.YtdjlaiilngechaaGreatDoorXK0
namespace Go.Proofs.YtdjlaiilngechaaGreatDoor
set_option maxRecDepth 4000
set_option linter.unusedSimpArgs false
set_option linter.unusedVariables false
open Go.RowKit
theorem and_top_hi (n : Int) (h : 9223372036854775808 ≤ n) (h' : n < 18446744073709551616) : bits .and .u64 n 9223372036854775808 = 9223372036854775808 := by
 obtain ⟨n, rfl⟩ := Int.eq_ofNat_of_zero_le (show 0 ≤ n by omega)
 rw [show (9223372036854775808 : Int) = ((9223372036854775808 : Nat) : Int) from rfl, bits_and_u64_nat n _ (by omega) (by omega)]
 have : n &&& 2 ^ 63 = n / 2 ^ 63 % 2 * 2 ^ 63 := nat_bit 63 n
 rw [show (9223372036854775808 : Nat) = 2 ^ 63 from by decide, this, show n / 2 ^ 63 = 1 from by omega]
theorem and_top_lo (n : Int) (h : 0 ≤ n) (h' : n < 9223372036854775808) : bits .and .u64 n 9223372036854775808 = 0 := by
 obtain ⟨n, rfl⟩ := Int.eq_ofNat_of_zero_le h
 rw [show (9223372036854775808 : Int) = ((9223372036854775808 : Nat) : Int) from rfl, bits_and_u64_nat n _ (by omega) (by omega)]
 have : n &&& 2 ^ 63 = n / 2 ^ 63 % 2 * 2 ^ 63 := nat_bit 63 n
 rw [show (9223372036854775808 : Nat) = 2 ^ 63 from by decide, this, show n / 2 ^ 63 = 0 from by omega]
 rfl

/-- The products of a round of times: their values and whether they fit. -/
theorem times_math {m q : Int} (hm : MIn m) (q1 : 0 ≤ q) :
  mod128 (mod128 (m * q) + mod128 (m * q)) = mod128 (m * (2 * q)) ∧ mod128 (mod128 (m * (2 * q)) + m) = mod128 (m * (2 * q + 1)) ∧
  (m * q < 340282366920938463463374607431768211456 → (mod128 (m * q) + mod128 (m * q) < 340282366920938463463374607431768211456 ↔ m * (2 * q) < 340282366920938463463374607431768211456)) ∧
  (m * (2 * q) < 340282366920938463463374607431768211456 → (mod128 (m * (2 * q)) + m < 340282366920938463463374607431768211456 ↔ m * (2 * q + 1) < 340282366920938463463374607431768211456)) ∧
  (m * (2 * q + 1) < 340282366920938463463374607431768211456 → m * (2 * q) < 340282366920938463463374607431768211456) ∧
  (m * (2 * q) < 340282366920938463463374607431768211456 → m * q < 340282366920938463463374607431768211456) := by
 have e : m * (2 * q + 1) = 2 * (m * q) + m := by rw [Int.mul_add, Int.mul_one, Int.mul_left_comm]
 have e2 : m * (2 * q) = 2 * (m * q) := Int.mul_left_comm _ _ _
 have h0 : 0 ≤ m * q := Int.mul_nonneg hm.1 q1
 rw [e, e2]
 have := hm.1
 have := hm.2
 unfold mod128
 generalize m * q = p at *
 refine ⟨by omega, by omega, by omega, by omega, by omega, by omega⟩
/-- After k rounds of times: the world w at the call, the magnitude m, the factor n. -/
def TimesInv (m n : Int) (w : World) (v1 v7 v8 : Value) (wr : World) : Prop :=
 ∃ (k : Nat) (q nk : Int), k ≤ 64 ∧ v8 = .int .i64 k ∧ v1 = .int .u64 nk ∧ 0 ≤ nk ∧ nk < 18446744073709551616 ∧ 0 ≤ q ∧ n * 2 ^ k = q * 18446744073709551616 + nk ∧ v7 = .bool (fitM (m * q)) ∧
  Below w.heap.size w wr ∧ w.heap.size + 2 < wr.heap.size ∧
  (wr.cell? ⟨w.heap.size, 0, none⟩ = some (.int .u64 (hiW m)) ∧ wr.cell? ⟨w.heap.size, 1, none⟩ = some (.int .u64 (loW m)) ∧ ∀ o, wr.frozen? ⟨w.heap.size, o, none⟩ = false) ∧
  (wr.cell? ⟨w.heap.size + 1, 0, none⟩ = some (.int .u64 0) ∧ wr.cell? ⟨w.heap.size + 1, 1, none⟩ = some (.int .u64 0) ∧ ∀ o, wr.frozen? ⟨w.heap.size + 1, o, none⟩ = false) ∧
  (wr.cell? ⟨w.heap.size + 2, 0, none⟩ = some (.int .u64 (hiW (mod128 (m * q)))) ∧ wr.cell? ⟨w.heap.size + 2, 1, none⟩ = some (.int .u64 (loW (mod128 (m * q)))) ∧ ∀ o, wr.frozen? ⟨w.heap.size + 2, o, none⟩ = false)
set_option maxHeartbeats 1000000 in
theorem rtimes_any (m n : Int) (hm : MIn m) (n1 : 0 ≤ n) (n2 : n < 18446744073709551616) (w : World) :
  Calls Tryz.prog 100 #[.agg #[.int .u64 (hiW m), .int .u64 (loW m)], .int .u64 n] w fun e w' =>
   e = .returned (.tuple #[.agg #[.int .u64 (hiW (mod128 (m * n))), .int .u64 (loW (mod128 (m * n)))], .bool (fitM (m * n))]) ∧ Below w.heap.size w w' := by
 obtain ⟨a1, a2⟩ := hi_mbd hm; obtain ⟨c1, c2⟩ := lo_bd m
 go_enter Tryz.func100, Tryz.ntmps100
 go_wp2_with fail
 go_loopw [1, 7, 8] (fun v1 v7 v8 wr => TimesInv m n w v1 v7 v8 wr) (fun _ _ v8 _ => 64 - (intOf v8).toNat)
 case atStart =>
  refine ⟨0, 0, n, by omega, rfl, rfl, n1, n2, by omega, by omega, ?_, ?_, ?_, ?_, ?_, ?_⟩
  ·rw [Int.mul_zero]; rfl
  ·(repeat (first | (with_reducible first | exact Below.refl _ _ | assumption | refine Below.drew ?_) | ((with_reducible first | refine Below.alloc ?_ ?_ _ | refine Below.setCell ?_ ?_ _); rotate_left; (first | omega | (simp <;> omega)))))
  ·simp
  ·exact ⟨by simp [go_sem], by simp [go_sem], by simp [go_sem]⟩
  ·exact ⟨by simp [go_sem], by simp [go_sem], by simp [go_sem]⟩
  ·rw [Int.mul_zero]
   exact ⟨by simp [go_sem, mod128, hiW], by simp [go_sem, mod128, loW], by simp [go_sem]⟩
 case round =>
  obtain ⟨k, q, nk, hk, rfl, rfl, k1, k2, q1, HE, rfl, hB, hz, ⟨ca0, ca1, caf⟩, ⟨cb0, cb1, cbf⟩, ⟨cc0, cc1, ccf⟩⟩ := hrel
  have HE := hide HE
  have hz0 : w.heap.size < wr.heap.size := by omega
  have hz1 : w.heap.size + 1 < wr.heap.size := by omega
  have MM := mod128_in (m * q)
  have HT := hide (times_math hm q1)
  by_cases hlt : k < 64
  ·by_cases hbit : 9223372036854775808 ≤ nk
   ·have et := and_top_hi nk hbit k2
    by_cases hq : m * q < 340282366920938463463374607431768211456
    ·by_cases h2 : m * (2 * q) < 340282366920938463463374607431768211456
     ·by_cases h3 : m * (2 * q + 1) < 340282366920938463463374607431768211456
      ·skip
       have HF := hide (fitM_t hq)
       have HF1 := hide (fitM_t ((HT.out.2.2.1 hq).2 h2))
       have HF2 := hide (fitM_t ((HT.out.2.2.2.1 h2).2 h3))
       have HN := hide (fitM_t h3)
       clear hq h2 h3
       rw [HF.out]
       go_wp2_with fail
       refine (rplus_any _ _ MM MM _).mono ?_
       rintro e w1 ⟨rfl, hb⟩
       rw [HF1.out, HT.out.1]
       have q1B : Below w.heap.size w w1 := qB hb
       have q1z := hb.size
       try simp at q1z
       have q1t : w.heap.size ≤ w1.heap.size := (by omega)
       obtain ⟨q1s0, q1n0_0, q1n0_1, q1n0_2⟩ := kB w1.heap.size w.heap.size
       obtain ⟨q1c0_0, q1c0_1, q1f0⟩ := kC2 hb w.heap.size
       simp [go_sem, *] at q1c0_0 q1c0_1 q1f0
       obtain ⟨q1s1, q1n1_0, q1n1_1, q1n1_2⟩ := kB w1.heap.size (w.heap.size + 1)
       obtain ⟨q1c1_0, q1c1_1, q1f1⟩ := kC2 hb (w.heap.size + 1)
       simp [go_sem, *] at q1c1_0 q1c1_1 q1f1
       obtain ⟨q1s2, q1n2_0, q1n2_1, q1n2_2⟩ := kB w1.heap.size (w.heap.size + 2)
       obtain ⟨q1c2_0, q1c2_1, q1f2⟩ := kC2 hb (w.heap.size + 2)
       simp [go_sem, *] at q1c2_0 q1c2_1 q1f2
       have q1o := belO q1B
       clear hb
       go_wp2_with fail
       refine (rplus_any _ _ (mod128_in _) hm _).mono ?_
       rintro e w2 ⟨rfl, hb⟩
       rw [HF2.out, HT.out.2.1]
       have q2B : Below w.heap.size w w2 := qB hb
       have q2z := hb.size
       try simp at q2z
       have q2t : w.heap.size ≤ w2.heap.size := (by omega)
       obtain ⟨q2s0, q2n0_0, q2n0_1, q2n0_2⟩ := kB w2.heap.size w.heap.size
       obtain ⟨q2c0_0, q2c0_1, q2f0⟩ := kC2 hb w.heap.size
       simp [go_sem, *] at q2c0_0 q2c0_1 q2f0
       obtain ⟨q2s1, q2n1_0, q2n1_1, q2n1_2⟩ := kB w2.heap.size (w.heap.size + 1)
       obtain ⟨q2c1_0, q2c1_1, q2f1⟩ := kC2 hb (w.heap.size + 1)
       simp [go_sem, *] at q2c1_0 q2c1_1 q2f1
       obtain ⟨q2s2, q2n2_0, q2n2_1, q2n2_2⟩ := kB w2.heap.size (w.heap.size + 2)
       obtain ⟨q2c2_0, q2c2_1, q2f2⟩ := kC2 hb (w.heap.size + 2)
       simp [go_sem, *] at q2c2_0 q2c2_1 q2f2
       obtain ⟨q2s3, q2n3_0, q2n3_1, q2n3_2⟩ := kB w2.heap.size w1.heap.size
       obtain ⟨q2c3_0, q2c3_1, q2f3⟩ := kC2 hb w1.heap.size
       simp [go_sem, *] at q2c3_0 q2c3_1 q2f3
       have q2o := belO q2B
       clear hb q1o q1f2 q1c2_1 q1c2_0 q1s2 q1f1 q1c1_1 q1c1_0 q1s1 q1f0 q1c0_1 q1c0_0 q1s0 q1z q1B
       go_wp2_with fail
       go_roundw
       case rel =>
        refine ⟨k + 1, 2 * q + 1, 2 * nk - 18446744073709551616, by omega, by go_num, congrArg (Value.int .u64) (by (try rw [wrapU]); omega), by omega, by omega, by omega, by rw [Int.pow_succ, ← Int.mul_assoc, HE.out]; omega, by rw [HN.out], ?_, ?_, ?_, ?_, ?_⟩
        ·(repeat (first | (with_reducible first | exact Below.refl _ _ | assumption | refine Below.drew ?_) | ((with_reducible first | refine Below.alloc ?_ ?_ _ | refine Below.setCell ?_ ?_ _); rotate_left; (first | omega | (simp <;> omega)))))
        ·simp; omega
        ·exact ⟨by simp [go_sem, *], by simp [go_sem, *], by simp [go_sem, *]⟩
        ·exact ⟨by simp [go_sem, *], by simp [go_sem, *], by simp [go_sem, *]⟩
        ·exact ⟨by simp [go_sem, *], by simp [go_sem, *], by simp [go_sem, *]⟩
       case measure => simp [intOf]; omega
      ·skip
       have HF := hide (fitM_t hq)
       have HF1 := hide (fitM_t ((HT.out.2.2.1 hq).2 h2))
       have HF2 := hide (fitM_f (fun hx => h3 ((HT.out.2.2.2.1 h2).1 hx)))
       have HN := hide (fitM_f h3)
       clear hq h2 h3
       rw [HF.out]
       go_wp2_with fail
       refine (rplus_any _ _ MM MM _).mono ?_
       rintro e w1 ⟨rfl, hb⟩
       rw [HF1.out, HT.out.1]
       have q1B : Below w.heap.size w w1 := qB hb
       have q1z := hb.size
       try simp at q1z
       have q1t : w.heap.size ≤ w1.heap.size := (by omega)
       obtain ⟨q1s0, q1n0_0, q1n0_1, q1n0_2⟩ := kB w1.heap.size w.heap.size
       obtain ⟨q1c0_0, q1c0_1, q1f0⟩ := kC2 hb w.heap.size
       simp [go_sem, *] at q1c0_0 q1c0_1 q1f0
       obtain ⟨q1s1, q1n1_0, q1n1_1, q1n1_2⟩ := kB w1.heap.size (w.heap.size + 1)
       obtain ⟨q1c1_0, q1c1_1, q1f1⟩ := kC2 hb (w.heap.size + 1)
       simp [go_sem, *] at q1c1_0 q1c1_1 q1f1
       obtain ⟨q1s2, q1n2_0, q1n2_1, q1n2_2⟩ := kB w1.heap.size (w.heap.size + 2)
       obtain ⟨q1c2_0, q1c2_1, q1f2⟩ := kC2 hb (w.heap.size + 2)
       simp [go_sem, *] at q1c2_0 q1c2_1 q1f2
       have q1o := belO q1B
       clear hb
       go_wp2_with fail
       refine (rplus_any _ _ (mod128_in _) hm _).mono ?_
       rintro e w2 ⟨rfl, hb⟩
       rw [HF2.out, HT.out.2.1]
       have q2B : Below w.heap.size w w2 := qB hb
       have q2z := hb.size
       try simp at q2z
       have q2t : w.heap.size ≤ w2.heap.size := (by omega)
       obtain ⟨q2s0, q2n0_0, q2n0_1, q2n0_2⟩ := kB w2.heap.size w.heap.size
       obtain ⟨q2c0_0, q2c0_1, q2f0⟩ := kC2 hb w.heap.size
       simp [go_sem, *] at q2c0_0 q2c0_1 q2f0
       obtain ⟨q2s1, q2n1_0, q2n1_1, q2n1_2⟩ := kB w2.heap.size (w.heap.size + 1)
       obtain ⟨q2c1_0, q2c1_1, q2f1⟩ := kC2 hb (w.heap.size + 1)
       simp [go_sem, *] at q2c1_0 q2c1_1 q2f1
       obtain ⟨q2s2, q2n2_0, q2n2_1, q2n2_2⟩ := kB w2.heap.size (w.heap.size + 2)
       obtain ⟨q2c2_0, q2c2_1, q2f2⟩ := kC2 hb (w.heap.size + 2)
       simp [go_sem, *] at q2c2_0 q2c2_1 q2f2
       obtain ⟨q2s3, q2n3_0, q2n3_1, q2n3_2⟩ := kB w2.heap.size w1.heap.size
       obtain ⟨q2c3_0, q2c3_1, q2f3⟩ := kC2 hb w1.heap.size
       simp [go_sem, *] at q2c3_0 q2c3_1 q2f3
       have q2o := belO q2B
       clear hb q1o q1f2 q1c2_1 q1c2_0 q1s2 q1f1 q1c1_1 q1c1_0 q1s1 q1f0 q1c0_1 q1c0_0 q1s0 q1z q1B
       go_wp2_with fail
       go_roundw
       case rel =>
        refine ⟨k + 1, 2 * q + 1, 2 * nk - 18446744073709551616, by omega, by go_num, congrArg (Value.int .u64) (by (try rw [wrapU]); omega), by omega, by omega, by omega, by rw [Int.pow_succ, ← Int.mul_assoc, HE.out]; omega, by rw [HN.out], ?_, ?_, ?_, ?_, ?_⟩
        ·(repeat (first | (with_reducible first | exact Below.refl _ _ | assumption | refine Below.drew ?_) | ((with_reducible first | refine Below.alloc ?_ ?_ _ | refine Below.setCell ?_ ?_ _); rotate_left; (first | omega | (simp <;> omega)))))
        ·simp; omega
        ·exact ⟨by simp [go_sem, *], by simp [go_sem, *], by simp [go_sem, *]⟩
        ·exact ⟨by simp [go_sem, *], by simp [go_sem, *], by simp [go_sem, *]⟩
        ·exact ⟨by simp [go_sem, *], by simp [go_sem, *], by simp [go_sem, *]⟩
       case measure => simp [intOf]; omega
     ·have h3 : ¬ m * (2 * q + 1) < 340282366920938463463374607431768211456 := fun hx => h2 (HT.out.2.2.2.2.1 hx)
      have HF := hide (fitM_t hq)
      have HF1 := hide (fitM_f (fun hx => h2 ((HT.out.2.2.1 hq).1 hx)))
      have HN := hide (fitM_f h3)
      clear hq h2 h3
      rw [HF.out]
      go_wp2_with fail
      refine (rplus_any _ _ MM MM _).mono ?_
      rintro e w1 ⟨rfl, hb⟩
      rw [HF1.out, HT.out.1]
      have q1B : Below w.heap.size w w1 := qB hb
      have q1z := hb.size
      try simp at q1z
      have q1t : w.heap.size ≤ w1.heap.size := (by omega)
      obtain ⟨q1s0, q1n0_0, q1n0_1, q1n0_2⟩ := kB w1.heap.size w.heap.size
      obtain ⟨q1c0_0, q1c0_1, q1f0⟩ := kC2 hb w.heap.size
      simp [go_sem, *] at q1c0_0 q1c0_1 q1f0
      obtain ⟨q1s1, q1n1_0, q1n1_1, q1n1_2⟩ := kB w1.heap.size (w.heap.size + 1)
      obtain ⟨q1c1_0, q1c1_1, q1f1⟩ := kC2 hb (w.heap.size + 1)
      simp [go_sem, *] at q1c1_0 q1c1_1 q1f1
      obtain ⟨q1s2, q1n2_0, q1n2_1, q1n2_2⟩ := kB w1.heap.size (w.heap.size + 2)
      obtain ⟨q1c2_0, q1c2_1, q1f2⟩ := kC2 hb (w.heap.size + 2)
      simp [go_sem, *] at q1c2_0 q1c2_1 q1f2
      have q1o := belO q1B
      clear hb
      go_wp2_with fail
      refine (rplus_any _ _ (mod128_in _) hm _).mono ?_
      rintro e w2 ⟨rfl, hb⟩
      rw [HT.out.2.1]
      have q2B : Below w.heap.size w w2 := qB hb
      have q2z := hb.size
      try simp at q2z
      have q2t : w.heap.size ≤ w2.heap.size := (by omega)
      obtain ⟨q2s0, q2n0_0, q2n0_1, q2n0_2⟩ := kB w2.heap.size w.heap.size
      obtain ⟨q2c0_0, q2c0_1, q2f0⟩ := kC2 hb w.heap.size
      simp [go_sem, *] at q2c0_0 q2c0_1 q2f0
      obtain ⟨q2s1, q2n1_0, q2n1_1, q2n1_2⟩ := kB w2.heap.size (w.heap.size + 1)
      obtain ⟨q2c1_0, q2c1_1, q2f1⟩ := kC2 hb (w.heap.size + 1)
      simp [go_sem, *] at q2c1_0 q2c1_1 q2f1
      obtain ⟨q2s2, q2n2_0, q2n2_1, q2n2_2⟩ := kB w2.heap.size (w.heap.size + 2)
      obtain ⟨q2c2_0, q2c2_1, q2f2⟩ := kC2 hb (w.heap.size + 2)
      simp [go_sem, *] at q2c2_0 q2c2_1 q2f2
      obtain ⟨q2s3, q2n3_0, q2n3_1, q2n3_2⟩ := kB w2.heap.size w1.heap.size
      obtain ⟨q2c3_0, q2c3_1, q2f3⟩ := kC2 hb w1.heap.size
      simp [go_sem, *] at q2c3_0 q2c3_1 q2f3
      have q2o := belO q2B
      clear hb q1o q1f2 q1c2_1 q1c2_0 q1s2 q1f1 q1c1_1 q1c1_0 q1s1 q1f0 q1c0_1 q1c0_0 q1s0 q1z q1B
      go_wp2_with fail
      go_roundw
      case rel =>
       refine ⟨k + 1, 2 * q + 1, 2 * nk - 18446744073709551616, by omega, by go_num, congrArg (Value.int .u64) (by (try rw [wrapU]); omega), by omega, by omega, by omega, by rw [Int.pow_succ, ← Int.mul_assoc, HE.out]; omega, by rw [HN.out], ?_, ?_, ?_, ?_, ?_⟩
       ·(repeat (first | (with_reducible first | exact Below.refl _ _ | assumption | refine Below.drew ?_) | ((with_reducible first | refine Below.alloc ?_ ?_ _ | refine Below.setCell ?_ ?_ _); rotate_left; (first | omega | (simp <;> omega)))))
       ·simp; omega
       ·exact ⟨by simp [go_sem, *], by simp [go_sem, *], by simp [go_sem, *]⟩
       ·exact ⟨by simp [go_sem, *], by simp [go_sem, *], by simp [go_sem, *]⟩
       ·exact ⟨by simp [go_sem, *], by simp [go_sem, *], by simp [go_sem, *]⟩
      case measure => simp [intOf]; omega
    ·have h2 : ¬ m * (2 * q) < 340282366920938463463374607431768211456 := fun hx => hq (HT.out.2.2.2.2.2 hx)
     have h3 : ¬ m * (2 * q + 1) < 340282366920938463463374607431768211456 := fun hx => h2 (HT.out.2.2.2.2.1 hx)
     have HF := hide (fitM_f hq)
     have HN := hide (fitM_f h3)
     clear hq h2 h3
     rw [HF.out]
     go_wp2_with fail
     refine (rplus_any _ _ MM MM _).mono ?_
     rintro e w1 ⟨rfl, hb⟩
     rw [HT.out.1]
     have q1B : Below w.heap.size w w1 := qB hb
     have q1z := hb.size
     try simp at q1z
     have q1t : w.heap.size ≤ w1.heap.size := (by omega)
     obtain ⟨q1s0, q1n0_0, q1n0_1, q1n0_2⟩ := kB w1.heap.size w.heap.size
     obtain ⟨q1c0_0, q1c0_1, q1f0⟩ := kC2 hb w.heap.size
     simp [go_sem, *] at q1c0_0 q1c0_1 q1f0
     obtain ⟨q1s1, q1n1_0, q1n1_1, q1n1_2⟩ := kB w1.heap.size (w.heap.size + 1)
     obtain ⟨q1c1_0, q1c1_1, q1f1⟩ := kC2 hb (w.heap.size + 1)
     simp [go_sem, *] at q1c1_0 q1c1_1 q1f1
     obtain ⟨q1s2, q1n2_0, q1n2_1, q1n2_2⟩ := kB w1.heap.size (w.heap.size + 2)
     obtain ⟨q1c2_0, q1c2_1, q1f2⟩ := kC2 hb (w.heap.size + 2)
     simp [go_sem, *] at q1c2_0 q1c2_1 q1f2
     have q1o := belO q1B
     clear hb
     go_wp2_with fail
     refine (rplus_any _ _ (mod128_in _) hm _).mono ?_
     rintro e w2 ⟨rfl, hb⟩
     rw [HT.out.2.1]
     have q2B : Below w.heap.size w w2 := qB hb
     have q2z := hb.size
     try simp at q2z
     have q2t : w.heap.size ≤ w2.heap.size := (by omega)
     obtain ⟨q2s0, q2n0_0, q2n0_1, q2n0_2⟩ := kB w2.heap.size w.heap.size
     obtain ⟨q2c0_0, q2c0_1, q2f0⟩ := kC2 hb w.heap.size
     simp [go_sem, *] at q2c0_0 q2c0_1 q2f0
     obtain ⟨q2s1, q2n1_0, q2n1_1, q2n1_2⟩ := kB w2.heap.size (w.heap.size + 1)
     obtain ⟨q2c1_0, q2c1_1, q2f1⟩ := kC2 hb (w.heap.size + 1)
     simp [go_sem, *] at q2c1_0 q2c1_1 q2f1
     obtain ⟨q2s2, q2n2_0, q2n2_1, q2n2_2⟩ := kB w2.heap.size (w.heap.size + 2)
     obtain ⟨q2c2_0, q2c2_1, q2f2⟩ := kC2 hb (w.heap.size + 2)
     simp [go_sem, *] at q2c2_0 q2c2_1 q2f2
     obtain ⟨q2s3, q2n3_0, q2n3_1, q2n3_2⟩ := kB w2.heap.size w1.heap.size
     obtain ⟨q2c3_0, q2c3_1, q2f3⟩ := kC2 hb w1.heap.size
     simp [go_sem, *] at q2c3_0 q2c3_1 q2f3
     have q2o := belO q2B
     clear hb q1o q1f2 q1c2_1 q1c2_0 q1s2 q1f1 q1c1_1 q1c1_0 q1s1 q1f0 q1c0_1 q1c0_0 q1s0 q1z q1B
     go_wp2_with fail
     go_roundw
     case rel =>
      refine ⟨k + 1, 2 * q + 1, 2 * nk - 18446744073709551616, by omega, by go_num, congrArg (Value.int .u64) (by (try rw [wrapU]); omega), by omega, by omega, by omega, by rw [Int.pow_succ, ← Int.mul_assoc, HE.out]; omega, by rw [HN.out], ?_, ?_, ?_, ?_, ?_⟩
      ·(repeat (first | (with_reducible first | exact Below.refl _ _ | assumption | refine Below.drew ?_) | ((with_reducible first | refine Below.alloc ?_ ?_ _ | refine Below.setCell ?_ ?_ _); rotate_left; (first | omega | (simp <;> omega)))))
      ·simp; omega
      ·exact ⟨by simp [go_sem, *], by simp [go_sem, *], by simp [go_sem, *]⟩
      ·exact ⟨by simp [go_sem, *], by simp [go_sem, *], by simp [go_sem, *]⟩
      ·exact ⟨by simp [go_sem, *], by simp [go_sem, *], by simp [go_sem, *]⟩
     case measure => simp [intOf]; omega
   ·have hbit' : nk < 9223372036854775808 := by omega
    have et := and_top_lo nk k1 hbit'
    clear hbit
    by_cases hq : m * q < 340282366920938463463374607431768211456
    ·by_cases h2 : m * (2 * q) < 340282366920938463463374607431768211456
     ·skip
      have HF := hide (fitM_t hq)
      have HF1 := hide (fitM_t ((HT.out.2.2.1 hq).2 h2))
      have HN := hide (fitM_t h2)
      clear hq h2
      rw [HF.out]
      go_wp2_with fail
      refine (rplus_any _ _ MM MM _).mono ?_
      rintro e w1 ⟨rfl, hb⟩
      rw [HF1.out, HT.out.1]
      have q1B : Below w.heap.size w w1 := qB hb
      have q1z := hb.size
      try simp at q1z
      have q1t : w.heap.size ≤ w1.heap.size := (by omega)
      obtain ⟨q1s0, q1n0_0, q1n0_1, q1n0_2⟩ := kB w1.heap.size w.heap.size
      obtain ⟨q1c0_0, q1c0_1, q1f0⟩ := kC2 hb w.heap.size
      simp [go_sem, *] at q1c0_0 q1c0_1 q1f0
      obtain ⟨q1s1, q1n1_0, q1n1_1, q1n1_2⟩ := kB w1.heap.size (w.heap.size + 1)
      obtain ⟨q1c1_0, q1c1_1, q1f1⟩ := kC2 hb (w.heap.size + 1)
      simp [go_sem, *] at q1c1_0 q1c1_1 q1f1
      obtain ⟨q1s2, q1n2_0, q1n2_1, q1n2_2⟩ := kB w1.heap.size (w.heap.size + 2)
      obtain ⟨q1c2_0, q1c2_1, q1f2⟩ := kC2 hb (w.heap.size + 2)
      simp [go_sem, *] at q1c2_0 q1c2_1 q1f2
      have q1o := belO q1B
      clear hb
      go_wp2_with fail
      go_roundw
      case rel =>
       refine ⟨k + 1, 2 * q, 2 * nk, by omega, by go_num, congrArg (Value.int .u64) (by (try rw [wrapU]); omega), by omega, by omega, by omega, by rw [Int.pow_succ, ← Int.mul_assoc, HE.out]; omega, by rw [HN.out], ?_, ?_, ?_, ?_, ?_⟩
       ·(repeat (first | (with_reducible first | exact Below.refl _ _ | assumption | refine Below.drew ?_) | ((with_reducible first | refine Below.alloc ?_ ?_ _ | refine Below.setCell ?_ ?_ _); rotate_left; (first | omega | (simp <;> omega)))))
       ·simp; omega
       ·exact ⟨by simp [go_sem, *], by simp [go_sem, *], by simp [go_sem, *]⟩
       ·exact ⟨by simp [go_sem, *], by simp [go_sem, *], by simp [go_sem, *]⟩
       ·exact ⟨by simp [go_sem, *], by simp [go_sem, *], by simp [go_sem, *]⟩
      case measure => simp [intOf]; omega
     ·skip
      have HF := hide (fitM_t hq)
      have HF1 := hide (fitM_f (fun hx => h2 ((HT.out.2.2.1 hq).1 hx)))
      have HN := hide (fitM_f h2)
      clear hq h2
      rw [HF.out]
      go_wp2_with fail
      refine (rplus_any _ _ MM MM _).mono ?_
      rintro e w1 ⟨rfl, hb⟩
      rw [HF1.out, HT.out.1]
      have q1B : Below w.heap.size w w1 := qB hb
      have q1z := hb.size
      try simp at q1z
      have q1t : w.heap.size ≤ w1.heap.size := (by omega)
      obtain ⟨q1s0, q1n0_0, q1n0_1, q1n0_2⟩ := kB w1.heap.size w.heap.size
      obtain ⟨q1c0_0, q1c0_1, q1f0⟩ := kC2 hb w.heap.size
      simp [go_sem, *] at q1c0_0 q1c0_1 q1f0
      obtain ⟨q1s1, q1n1_0, q1n1_1, q1n1_2⟩ := kB w1.heap.size (w.heap.size + 1)
      obtain ⟨q1c1_0, q1c1_1, q1f1⟩ := kC2 hb (w.heap.size + 1)
      simp [go_sem, *] at q1c1_0 q1c1_1 q1f1
      obtain ⟨q1s2, q1n2_0, q1n2_1, q1n2_2⟩ := kB w1.heap.size (w.heap.size + 2)
      obtain ⟨q1c2_0, q1c2_1, q1f2⟩ := kC2 hb (w.heap.size + 2)
      simp [go_sem, *] at q1c2_0 q1c2_1 q1f2
      have q1o := belO q1B
      clear hb
      go_wp2_with fail
      go_roundw
      case rel =>
       refine ⟨k + 1, 2 * q, 2 * nk, by omega, by go_num, congrArg (Value.int .u64) (by (try rw [wrapU]); omega), by omega, by omega, by omega, by rw [Int.pow_succ, ← Int.mul_assoc, HE.out]; omega, by rw [HN.out], ?_, ?_, ?_, ?_, ?_⟩
       ·(repeat (first | (with_reducible first | exact Below.refl _ _ | assumption | refine Below.drew ?_) | ((with_reducible first | refine Below.alloc ?_ ?_ _ | refine Below.setCell ?_ ?_ _); rotate_left; (first | omega | (simp <;> omega)))))
       ·simp; omega
       ·exact ⟨by simp [go_sem, *], by simp [go_sem, *], by simp [go_sem, *]⟩
       ·exact ⟨by simp [go_sem, *], by simp [go_sem, *], by simp [go_sem, *]⟩
       ·exact ⟨by simp [go_sem, *], by simp [go_sem, *], by simp [go_sem, *]⟩
      case measure => simp [intOf]; omega
    ·have h2 : ¬ m * (2 * q) < 340282366920938463463374607431768211456 := fun hx => hq (HT.out.2.2.2.2.2 hx)
     have HF := hide (fitM_f hq)
     have HN := hide (fitM_f h2)
     clear hq h2
     rw [HF.out]
     go_wp2_with fail
     refine (rplus_any _ _ MM MM _).mono ?_
     rintro e w1 ⟨rfl, hb⟩
     rw [HT.out.1]
     have q1B : Below w.heap.size w w1 := qB hb
     have q1z := hb.size
     try simp at q1z
     have q1t : w.heap.size ≤ w1.heap.size := (by omega)
     obtain ⟨q1s0, q1n0_0, q1n0_1, q1n0_2⟩ := kB w1.heap.size w.heap.size
     obtain ⟨q1c0_0, q1c0_1, q1f0⟩ := kC2 hb w.heap.size
     simp [go_sem, *] at q1c0_0 q1c0_1 q1f0
     obtain ⟨q1s1, q1n1_0, q1n1_1, q1n1_2⟩ := kB w1.heap.size (w.heap.size + 1)
     obtain ⟨q1c1_0, q1c1_1, q1f1⟩ := kC2 hb (w.heap.size + 1)
     simp [go_sem, *] at q1c1_0 q1c1_1 q1f1
     obtain ⟨q1s2, q1n2_0, q1n2_1, q1n2_2⟩ := kB w1.heap.size (w.heap.size + 2)
     obtain ⟨q1c2_0, q1c2_1, q1f2⟩ := kC2 hb (w.heap.size + 2)
     simp [go_sem, *] at q1c2_0 q1c2_1 q1f2
     have q1o := belO q1B
     clear hb
     go_wp2_with fail
     go_roundw
     case rel =>
      refine ⟨k + 1, 2 * q, 2 * nk, by omega, by go_num, congrArg (Value.int .u64) (by (try rw [wrapU]); omega), by omega, by omega, by omega, by rw [Int.pow_succ, ← Int.mul_assoc, HE.out]; omega, by rw [HN.out], ?_, ?_, ?_, ?_, ?_⟩
      ·(repeat (first | (with_reducible first | exact Below.refl _ _ | assumption | refine Below.drew ?_) | ((with_reducible first | refine Below.alloc ?_ ?_ _ | refine Below.setCell ?_ ?_ _); rotate_left; (first | omega | (simp <;> omega)))))
      ·simp; omega
      ·exact ⟨by simp [go_sem, *], by simp [go_sem, *], by simp [go_sem, *]⟩
      ·exact ⟨by simp [go_sem, *], by simp [go_sem, *], by simp [go_sem, *]⟩
      ·exact ⟨by simp [go_sem, *], by simp [go_sem, *], by simp [go_sem, *]⟩
     case measure => simp [intOf]; omega
  ·obtain rfl : k = 64 := by omega
   have hqn : q = n := by have := HE.out; omega
   subst hqn
   go_wp2_with fail
   refine bodyPost_ret (by simp [results, Tryz.results100, go_sem, *] <;> rfl) rfl ⟨?_, ?_⟩
   ·rfl
   (repeat (first | (with_reducible first | exact Below.refl _ _ | assumption | refine Below.drew ?_) | ((with_reducible first | refine Below.alloc ?_ ?_ _ | refine Below.setCell ?_ ?_ _); rotate_left; (first | omega | (simp <;> omega)))))
end Go.Proofs.YtdjlaiilngechaaGreatDoor
namespace Go.Proofs.YtdjlaiilngechaaGreatDoor
set_option maxRecDepth 4000
set_option linter.unusedSimpArgs false
set_option linter.unusedVariables false
open Go.RowKit
theorem sgn_add_same {an bn : Bool} (h : (an == bn) = true) (a b : Int) : sgn an a + sgn bn b = sgn an (a + b) := by
 have : an = bn := by simpa using h
 subst this
 cases an <;> simp [sgn] <;> omega
theorem sgn_add_less {an bn : Bool} (h : (an == bn) = false) (a b : Int) : sgn an a + sgn bn b = sgn bn (b - a) := by
 cases an <;> cases bn <;> simp at h <;> simp [sgn] <;> omega
theorem sgn_add_more {an bn : Bool} (h : (an == bn) = false) (a b : Int) : sgn an a + sgn bn b = sgn an (a - b) := by
 cases an <;> cases bn <;> simp at h <;> simp [sgn] <;> omega
theorem sgn_big (s : Bool) {m : Int} (h : ¬ m < 340282366920938463463374607431768211456) : ¬ WIn (sgn s m) := by
 cases s <;> simp [sgn, WIn] <;> omega
theorem min_sub {a b : Int} (ha : MIn a) (hb : MIn b) (h : b ≤ a) : MIn (a - b) := by unfold MIn at *; omega
theorem min_add {a b : Int} (ha : MIn a) (hb : MIn b) (h : a + b < 340282366920938463463374607431768211456) : MIn (a + b) := by unfold MIn at *; omega

set_option maxHeartbeats 400000 in
theorem rsumE1 (an bn : Bool) (a b : Int) (ha : MIn a) (hb0 : MIn b) (he : (an == bn) = true) (hf : a + b < 340282366920938463463374607431768211456) (hz : WIn (sgn an (a + b))) (w : World) :
  Calls Tryz.prog 60 #[.bool an, .agg #[.int .u64 (hiW a), .int .u64 (loW a)], .bool bn, .agg #[.int .u64 (hiW b), .int .u64 (loW b)]] w fun e w' =>
   e = .returned (.tuple #[.agg #[.int .i64 (hiW (fitR (sgn an a + sgn bn b))), .int .u64 (loW (fitR (sgn an a + sgn bn b)))], .int .i64 (fitE (sgn an a + sgn bn b))]) ∧ Below w.heap.size w w' := by
 have HZ := hide (sgn_add_same he a b)
 rw [HZ.out]
 have HD := hide (decide_eq_true hz)
 have HV := hide (wrap128_of hz)
 rw [fitR_of hz, fitE_of hz]
 clear hz
 have HM := min_add ha hb0 hf
 have HF := hide (fitM_t hf)
 have HE := hide (mod128_of HM)
 clear hf
 go_enter Tryz.func60, Tryz.ntmps60
 go_wp2_with fail
 refine wp_region_seq (SB (w.heap.size + 3) [] _) [true, true, false, true, false, true] (by kernel_rfl) (by kernel_rfl) rfl (by kernel_rfl) (fun _ _ d _ _ h => by cases d <;> exact h) SB.refl.drew (fun hHeld => ?_)
 refine seq_take ?_ (by rfl) (fun wx hSx => ?_) ?_
 rotate_left
 ·(unfold SB at hSx; go_simp; (try with_reducible rfl))
 (try simp only [Act.put, putS])
 refine seq_take ?_ (by rfl) (fun wx hSx => ?_) ?_
 rotate_left
 ·(unfold SB at hSx; go_simp; (try with_reducible rfl))
 (try simp only [Act.put, putS])
 refine seq_run (by rfl) (fun K hK => ?_)
 go_simp
 refine hK.out _ _ ?_ (fun hHeld => ?_)
 ·exact sbT
 clear hK K
 (try simp only [Act.put, putS])
 refine seq_take ?_ (by rfl) (fun wx hSx => ?_) ?_
 rotate_left
 ·(unfold SB at hSx; go_simp; (try with_reducible rfl))
 (try simp only [Act.put, putS])
 refine seq_run (by rfl) (fun K hK => ?_)
 go_simp
 refine hK.out _ _ ?_ (fun hHeld => ?_)
 ·exact sbT
 clear hK K
 (try simp only [Act.put, putS])
 refine seq_take ?_ (by rfl) (fun wx hSx => ?_) ?_
 rotate_left
 ·(unfold SB at hSx; go_simp; (try with_reducible rfl))
 (try simp only [Act.put, putS])
 refine seq_end ?_
 go_wp2_with fail
 refine (rplus_any a b ha hb0 _).mono ?_
 rintro e w1 ⟨rfl, hb⟩
 rw [HF.out, HE.out]
 have q1B : Below w.heap.size w w1 := qB hb
 have q1z := hb.size
 try simp at q1z
 have q1t : w.heap.size ≤ w1.heap.size := (by omega)
 obtain ⟨q1s0, q1n0_0, q1n0_1, q1n0_2⟩ := kB w1.heap.size w.heap.size
 obtain ⟨q1c0_0, q1c0_1, q1f0⟩ := kC2 hb w.heap.size
 simp [go_sem, *] at q1c0_0 q1c0_1 q1f0
 obtain ⟨q1s1, q1n1_0, q1n1_1, q1n1_2⟩ := kB w1.heap.size (w.heap.size + 1)
 obtain ⟨q1c1_0, q1c1_1, q1f1⟩ := kC2 hb (w.heap.size + 1)
 simp [go_sem, *] at q1c1_0 q1c1_1 q1f1
 obtain ⟨q1s2, q1n2_0, q1n2_1, q1n2_2⟩ := kB w1.heap.size (w.heap.size + 2)
 obtain ⟨q1c2_0, q1c2_1, q1f2⟩ := kC2 hb (w.heap.size + 2)
 simp [go_sem, *] at q1c2_0 q1c2_1 q1f2
 obtain ⟨q1s3, q1n3_0, q1n3_1, q1n3_2⟩ := kB w1.heap.size (w.heap.size + 3)
 obtain ⟨q1c3_0, q1c3_1, q1f3⟩ := kC2 hb (w.heap.size + 3)
 simp [go_sem, *] at q1c3_0 q1c3_1 q1f3
 have q1o := belO q1B
 clear hb
 go_wp2_with fail
 refine (rjoin_any an (a + b) HM _).mono ?_
 rintro e w2 ⟨rfl, hb⟩
 rw [HD.out]
 rw [HV.out]
 have q2B : Below w.heap.size w w2 := qB hb
 have q2z := hb.size
 try simp at q2z
 have q2t : w.heap.size ≤ w2.heap.size := (by omega)
 obtain ⟨q2s0, q2n0_0, q2n0_1, q2n0_2⟩ := kB w2.heap.size w.heap.size
 obtain ⟨q2c0_0, q2c0_1, q2f0⟩ := kC2 hb w.heap.size
 simp [go_sem, *] at q2c0_0 q2c0_1 q2f0
 obtain ⟨q2s1, q2n1_0, q2n1_1, q2n1_2⟩ := kB w2.heap.size (w.heap.size + 1)
 obtain ⟨q2c1_0, q2c1_1, q2f1⟩ := kC2 hb (w.heap.size + 1)
 simp [go_sem, *] at q2c1_0 q2c1_1 q2f1
 obtain ⟨q2s2, q2n2_0, q2n2_1, q2n2_2⟩ := kB w2.heap.size (w.heap.size + 2)
 obtain ⟨q2c2_0, q2c2_1, q2f2⟩ := kC2 hb (w.heap.size + 2)
 simp [go_sem, *] at q2c2_0 q2c2_1 q2f2
 obtain ⟨q2s3, q2n3_0, q2n3_1, q2n3_2⟩ := kB w2.heap.size (w.heap.size + 3)
 obtain ⟨q2c3_0, q2c3_1, q2f3⟩ := kC2 hb (w.heap.size + 3)
 simp [go_sem, *] at q2c3_0 q2c3_1 q2f3
 have q2o := belO q2B
 clear hb q1o q1f3 q1c3_1 q1c3_0 q1s3 q1f2 q1c2_1 q1c2_0 q1s2 q1f1 q1c1_1 q1c1_0 q1s1 q1f0 q1c0_1 q1c0_0 q1s0 q1z q1B
 go_wp2_with fail
 refine bodyPost_ret (by simp [results, Tryz.results60, go_sem, *] <;> rfl) rfl ⟨?_, ?_⟩
 ·rfl
 (repeat (first | (with_reducible first | exact Below.refl _ _ | assumption | refine Below.drew ?_) | ((with_reducible first | refine Below.alloc ?_ ?_ _ | refine Below.setCell ?_ ?_ _); rotate_left; (first | omega | (simp <;> omega)))))
set_option maxHeartbeats 400000 in
theorem rsumL1 (an bn : Bool) (a b : Int) (ha : MIn a) (hb0 : MIn b) (he : (an == bn) = false) (hf : a < b) (hz : WIn (sgn bn (b - a))) (w : World) :
  Calls Tryz.prog 60 #[.bool an, .agg #[.int .u64 (hiW a), .int .u64 (loW a)], .bool bn, .agg #[.int .u64 (hiW b), .int .u64 (loW b)]] w fun e w' =>
   e = .returned (.tuple #[.agg #[.int .i64 (hiW (fitR (sgn an a + sgn bn b))), .int .u64 (loW (fitR (sgn an a + sgn bn b)))], .int .i64 (fitE (sgn an a + sgn bn b))]) ∧ Below w.heap.size w w' := by
 have HZ := hide (sgn_add_less he a b)
 rw [HZ.out]
 have HD := hide (decide_eq_true hz)
 have HV := hide (wrap128_of hz)
 rw [fitR_of hz, fitE_of hz]
 clear hz
 have HM := min_sub hb0 ha (Int.le_of_lt hf)
 have HF := hide (decide_eq_true hf)
 have hle := Int.le_of_lt hf
 clear hf
 go_enter Tryz.func60, Tryz.ntmps60
 go_wp2_with fail
 refine wp_region_seq (SB (w.heap.size + 3) [] _) [true, true, false, true, false, true] (by kernel_rfl) (by kernel_rfl) rfl (by kernel_rfl) (fun _ _ d _ _ h => by cases d <;> exact h) SB.refl.drew (fun hHeld => ?_)
 refine seq_take ?_ (by rfl) (fun wx hSx => ?_) ?_
 rotate_left
 ·(unfold SB at hSx; go_simp; (try with_reducible rfl))
 (try simp only [Act.put, putS])
 refine seq_take ?_ (by rfl) (fun wx hSx => ?_) ?_
 rotate_left
 ·(unfold SB at hSx; go_simp; (try with_reducible rfl))
 (try simp only [Act.put, putS])
 refine seq_run (by rfl) (fun K hK => ?_)
 go_simp
 refine hK.out _ _ ?_ (fun hHeld => ?_)
 ·exact sbT
 clear hK K
 (try simp only [Act.put, putS])
 refine seq_take ?_ (by rfl) (fun wx hSx => ?_) ?_
 rotate_left
 ·(unfold SB at hSx; go_simp; (try with_reducible rfl))
 (try simp only [Act.put, putS])
 refine seq_run (by rfl) (fun K hK => ?_)
 go_simp
 refine hK.out _ _ ?_ (fun hHeld => ?_)
 ·exact sbT
 clear hK K
 (try simp only [Act.put, putS])
 refine seq_take ?_ (by rfl) (fun wx hSx => ?_) ?_
 rotate_left
 ·(unfold SB at hSx; go_simp; (try with_reducible rfl))
 (try simp only [Act.put, putS])
 refine seq_end ?_
 go_wp2_with fail
 refine (rless_any a b _).mono ?_
 rintro e w1 ⟨rfl, hb⟩
 rw [HF.out]
 have q1B : Below w.heap.size w w1 := qB hb
 have q1z := hb.size
 try simp at q1z
 have q1t : w.heap.size ≤ w1.heap.size := (by omega)
 obtain ⟨q1s0, q1n0_0, q1n0_1, q1n0_2⟩ := kB w1.heap.size w.heap.size
 obtain ⟨q1c0_0, q1c0_1, q1f0⟩ := kC2 hb w.heap.size
 simp [go_sem, *] at q1c0_0 q1c0_1 q1f0
 obtain ⟨q1s1, q1n1_0, q1n1_1, q1n1_2⟩ := kB w1.heap.size (w.heap.size + 1)
 obtain ⟨q1c1_0, q1c1_1, q1f1⟩ := kC2 hb (w.heap.size + 1)
 simp [go_sem, *] at q1c1_0 q1c1_1 q1f1
 obtain ⟨q1s2, q1n2_0, q1n2_1, q1n2_2⟩ := kB w1.heap.size (w.heap.size + 2)
 obtain ⟨q1c2_0, q1c2_1, q1f2⟩ := kC2 hb (w.heap.size + 2)
 simp [go_sem, *] at q1c2_0 q1c2_1 q1f2
 obtain ⟨q1s3, q1n3_0, q1n3_1, q1n3_2⟩ := kB w1.heap.size (w.heap.size + 3)
 obtain ⟨q1c3_0, q1c3_1, q1f3⟩ := kC2 hb (w.heap.size + 3)
 simp [go_sem, *] at q1c3_0 q1c3_1 q1f3
 have q1o := belO q1B
 clear hb
 go_wp2_with fail
 refine (rminus_any b a hb0 ha hle _).mono ?_
 rintro e w2 ⟨rfl, hb⟩
 have q2B : Below w.heap.size w w2 := qB hb
 have q2z := hb.size
 try simp at q2z
 have q2t : w.heap.size ≤ w2.heap.size := (by omega)
 obtain ⟨q2s0, q2n0_0, q2n0_1, q2n0_2⟩ := kB w2.heap.size w.heap.size
 obtain ⟨q2c0_0, q2c0_1, q2f0⟩ := kC2 hb w.heap.size
 simp [go_sem, *] at q2c0_0 q2c0_1 q2f0
 obtain ⟨q2s1, q2n1_0, q2n1_1, q2n1_2⟩ := kB w2.heap.size (w.heap.size + 1)
 obtain ⟨q2c1_0, q2c1_1, q2f1⟩ := kC2 hb (w.heap.size + 1)
 simp [go_sem, *] at q2c1_0 q2c1_1 q2f1
 obtain ⟨q2s2, q2n2_0, q2n2_1, q2n2_2⟩ := kB w2.heap.size (w.heap.size + 2)
 obtain ⟨q2c2_0, q2c2_1, q2f2⟩ := kC2 hb (w.heap.size + 2)
 simp [go_sem, *] at q2c2_0 q2c2_1 q2f2
 obtain ⟨q2s3, q2n3_0, q2n3_1, q2n3_2⟩ := kB w2.heap.size (w.heap.size + 3)
 obtain ⟨q2c3_0, q2c3_1, q2f3⟩ := kC2 hb (w.heap.size + 3)
 simp [go_sem, *] at q2c3_0 q2c3_1 q2f3
 have q2o := belO q2B
 clear hb q1o q1f3 q1c3_1 q1c3_0 q1s3 q1f2 q1c2_1 q1c2_0 q1s2 q1f1 q1c1_1 q1c1_0 q1s1 q1f0 q1c0_1 q1c0_0 q1s0 q1z q1B
 go_wp2_with fail
 refine (rjoin_any bn (b - a) HM _).mono ?_
 rintro e w3 ⟨rfl, hb⟩
 rw [HD.out]
 rw [HV.out]
 have q3B : Below w.heap.size w w3 := qB hb
 have q3z := hb.size
 try simp at q3z
 have q3t : w.heap.size ≤ w3.heap.size := (by omega)
 obtain ⟨q3s0, q3n0_0, q3n0_1, q3n0_2⟩ := kB w3.heap.size w.heap.size
 obtain ⟨q3c0_0, q3c0_1, q3f0⟩ := kC2 hb w.heap.size
 simp [go_sem, *] at q3c0_0 q3c0_1 q3f0
 obtain ⟨q3s1, q3n1_0, q3n1_1, q3n1_2⟩ := kB w3.heap.size (w.heap.size + 1)
 obtain ⟨q3c1_0, q3c1_1, q3f1⟩ := kC2 hb (w.heap.size + 1)
 simp [go_sem, *] at q3c1_0 q3c1_1 q3f1
 obtain ⟨q3s2, q3n2_0, q3n2_1, q3n2_2⟩ := kB w3.heap.size (w.heap.size + 2)
 obtain ⟨q3c2_0, q3c2_1, q3f2⟩ := kC2 hb (w.heap.size + 2)
 simp [go_sem, *] at q3c2_0 q3c2_1 q3f2
 obtain ⟨q3s3, q3n3_0, q3n3_1, q3n3_2⟩ := kB w3.heap.size (w.heap.size + 3)
 obtain ⟨q3c3_0, q3c3_1, q3f3⟩ := kC2 hb (w.heap.size + 3)
 simp [go_sem, *] at q3c3_0 q3c3_1 q3f3
 have q3o := belO q3B
 clear hb q2o q2f3 q2c3_1 q2c3_0 q2s3 q2f2 q2c2_1 q2c2_0 q2s2 q2f1 q2c1_1 q2c1_0 q2s1 q2f0 q2c0_1 q2c0_0 q2s0 q2z q2B
 go_wp2_with fail
 refine bodyPost_ret (by simp [results, Tryz.results60, go_sem, *] <;> rfl) rfl ⟨?_, ?_⟩
 ·rfl
 (repeat (first | (with_reducible first | exact Below.refl _ _ | assumption | refine Below.drew ?_) | ((with_reducible first | refine Below.alloc ?_ ?_ _ | refine Below.setCell ?_ ?_ _); rotate_left; (first | omega | (simp <;> omega)))))
set_option maxHeartbeats 400000 in
theorem rsumG1 (an bn : Bool) (a b : Int) (ha : MIn a) (hb0 : MIn b) (he : (an == bn) = false) (hf : ¬ a < b) (hz : WIn (sgn an (a - b))) (w : World) :
  Calls Tryz.prog 60 #[.bool an, .agg #[.int .u64 (hiW a), .int .u64 (loW a)], .bool bn, .agg #[.int .u64 (hiW b), .int .u64 (loW b)]] w fun e w' =>
   e = .returned (.tuple #[.agg #[.int .i64 (hiW (fitR (sgn an a + sgn bn b))), .int .u64 (loW (fitR (sgn an a + sgn bn b)))], .int .i64 (fitE (sgn an a + sgn bn b))]) ∧ Below w.heap.size w w' := by
 have HZ := hide (sgn_add_more he a b)
 rw [HZ.out]
 have HD := hide (decide_eq_true hz)
 have HV := hide (wrap128_of hz)
 rw [fitR_of hz, fitE_of hz]
 clear hz
 have HM := min_sub ha hb0 (Int.not_lt.1 hf)
 have HF := hide (decide_eq_false hf)
 have hle := Int.not_lt.1 hf
 clear hf
 go_enter Tryz.func60, Tryz.ntmps60
 go_wp2_with fail
 refine wp_region_seq (SB (w.heap.size + 3) [] _) [true, true, false, true, false, true] (by kernel_rfl) (by kernel_rfl) rfl (by kernel_rfl) (fun _ _ d _ _ h => by cases d <;> exact h) SB.refl.drew (fun hHeld => ?_)
 refine seq_take ?_ (by rfl) (fun wx hSx => ?_) ?_
 rotate_left
 ·(unfold SB at hSx; go_simp; (try with_reducible rfl))
 (try simp only [Act.put, putS])
 refine seq_take ?_ (by rfl) (fun wx hSx => ?_) ?_
 rotate_left
 ·(unfold SB at hSx; go_simp; (try with_reducible rfl))
 (try simp only [Act.put, putS])
 refine seq_run (by rfl) (fun K hK => ?_)
 go_simp
 refine hK.out _ _ ?_ (fun hHeld => ?_)
 ·exact sbT
 clear hK K
 (try simp only [Act.put, putS])
 refine seq_take ?_ (by rfl) (fun wx hSx => ?_) ?_
 rotate_left
 ·(unfold SB at hSx; go_simp; (try with_reducible rfl))
 (try simp only [Act.put, putS])
 refine seq_run (by rfl) (fun K hK => ?_)
 go_simp
 refine hK.out _ _ ?_ (fun hHeld => ?_)
 ·exact sbT
 clear hK K
 (try simp only [Act.put, putS])
 refine seq_take ?_ (by rfl) (fun wx hSx => ?_) ?_
 rotate_left
 ·(unfold SB at hSx; go_simp; (try with_reducible rfl))
 (try simp only [Act.put, putS])
 refine seq_end ?_
 go_wp2_with fail
 refine (rless_any a b _).mono ?_
 rintro e w1 ⟨rfl, hb⟩
 rw [HF.out]
 have q1B : Below w.heap.size w w1 := qB hb
 have q1z := hb.size
 try simp at q1z
 have q1t : w.heap.size ≤ w1.heap.size := (by omega)
 obtain ⟨q1s0, q1n0_0, q1n0_1, q1n0_2⟩ := kB w1.heap.size w.heap.size
 obtain ⟨q1c0_0, q1c0_1, q1f0⟩ := kC2 hb w.heap.size
 simp [go_sem, *] at q1c0_0 q1c0_1 q1f0
 obtain ⟨q1s1, q1n1_0, q1n1_1, q1n1_2⟩ := kB w1.heap.size (w.heap.size + 1)
 obtain ⟨q1c1_0, q1c1_1, q1f1⟩ := kC2 hb (w.heap.size + 1)
 simp [go_sem, *] at q1c1_0 q1c1_1 q1f1
 obtain ⟨q1s2, q1n2_0, q1n2_1, q1n2_2⟩ := kB w1.heap.size (w.heap.size + 2)
 obtain ⟨q1c2_0, q1c2_1, q1f2⟩ := kC2 hb (w.heap.size + 2)
 simp [go_sem, *] at q1c2_0 q1c2_1 q1f2
 obtain ⟨q1s3, q1n3_0, q1n3_1, q1n3_2⟩ := kB w1.heap.size (w.heap.size + 3)
 obtain ⟨q1c3_0, q1c3_1, q1f3⟩ := kC2 hb (w.heap.size + 3)
 simp [go_sem, *] at q1c3_0 q1c3_1 q1f3
 have q1o := belO q1B
 clear hb
 go_wp2_with fail
 refine (rminus_any a b ha hb0 hle _).mono ?_
 rintro e w2 ⟨rfl, hb⟩
 have q2B : Below w.heap.size w w2 := qB hb
 have q2z := hb.size
 try simp at q2z
 have q2t : w.heap.size ≤ w2.heap.size := (by omega)
 obtain ⟨q2s0, q2n0_0, q2n0_1, q2n0_2⟩ := kB w2.heap.size w.heap.size
 obtain ⟨q2c0_0, q2c0_1, q2f0⟩ := kC2 hb w.heap.size
 simp [go_sem, *] at q2c0_0 q2c0_1 q2f0
 obtain ⟨q2s1, q2n1_0, q2n1_1, q2n1_2⟩ := kB w2.heap.size (w.heap.size + 1)
 obtain ⟨q2c1_0, q2c1_1, q2f1⟩ := kC2 hb (w.heap.size + 1)
 simp [go_sem, *] at q2c1_0 q2c1_1 q2f1
 obtain ⟨q2s2, q2n2_0, q2n2_1, q2n2_2⟩ := kB w2.heap.size (w.heap.size + 2)
 obtain ⟨q2c2_0, q2c2_1, q2f2⟩ := kC2 hb (w.heap.size + 2)
 simp [go_sem, *] at q2c2_0 q2c2_1 q2f2
 obtain ⟨q2s3, q2n3_0, q2n3_1, q2n3_2⟩ := kB w2.heap.size (w.heap.size + 3)
 obtain ⟨q2c3_0, q2c3_1, q2f3⟩ := kC2 hb (w.heap.size + 3)
 simp [go_sem, *] at q2c3_0 q2c3_1 q2f3
 have q2o := belO q2B
 clear hb q1o q1f3 q1c3_1 q1c3_0 q1s3 q1f2 q1c2_1 q1c2_0 q1s2 q1f1 q1c1_1 q1c1_0 q1s1 q1f0 q1c0_1 q1c0_0 q1s0 q1z q1B
 go_wp2_with fail
 refine (rjoin_any an (a - b) HM _).mono ?_
 rintro e w3 ⟨rfl, hb⟩
 rw [HD.out]
 rw [HV.out]
 have q3B : Below w.heap.size w w3 := qB hb
 have q3z := hb.size
 try simp at q3z
 have q3t : w.heap.size ≤ w3.heap.size := (by omega)
 obtain ⟨q3s0, q3n0_0, q3n0_1, q3n0_2⟩ := kB w3.heap.size w.heap.size
 obtain ⟨q3c0_0, q3c0_1, q3f0⟩ := kC2 hb w.heap.size
 simp [go_sem, *] at q3c0_0 q3c0_1 q3f0
 obtain ⟨q3s1, q3n1_0, q3n1_1, q3n1_2⟩ := kB w3.heap.size (w.heap.size + 1)
 obtain ⟨q3c1_0, q3c1_1, q3f1⟩ := kC2 hb (w.heap.size + 1)
 simp [go_sem, *] at q3c1_0 q3c1_1 q3f1
 obtain ⟨q3s2, q3n2_0, q3n2_1, q3n2_2⟩ := kB w3.heap.size (w.heap.size + 2)
 obtain ⟨q3c2_0, q3c2_1, q3f2⟩ := kC2 hb (w.heap.size + 2)
 simp [go_sem, *] at q3c2_0 q3c2_1 q3f2
 obtain ⟨q3s3, q3n3_0, q3n3_1, q3n3_2⟩ := kB w3.heap.size (w.heap.size + 3)
 obtain ⟨q3c3_0, q3c3_1, q3f3⟩ := kC2 hb (w.heap.size + 3)
 simp [go_sem, *] at q3c3_0 q3c3_1 q3f3
 have q3o := belO q3B
 clear hb q2o q2f3 q2c3_1 q2c3_0 q2s3 q2f2 q2c2_1 q2c2_0 q2s2 q2f1 q2c1_1 q2c1_0 q2s1 q2f0 q2c0_1 q2c0_0 q2s0 q2z q2B
 go_wp2_with fail
 refine bodyPost_ret (by simp [results, Tryz.results60, go_sem, *] <;> rfl) rfl ⟨?_, ?_⟩
 ·rfl
 (repeat (first | (with_reducible first | exact Below.refl _ _ | assumption | refine Below.drew ?_) | ((with_reducible first | refine Below.alloc ?_ ?_ _ | refine Below.setCell ?_ ?_ _); rotate_left; (first | omega | (simp <;> omega)))))
set_option maxHeartbeats 400000 in
theorem rsumE2 (an bn : Bool) (a b : Int) (ha : MIn a) (hb0 : MIn b) (he : (an == bn) = true) (hf : a + b < 340282366920938463463374607431768211456) (hz : ¬ WIn (sgn an (a + b))) (w : World) :
  Calls Tryz.prog 60 #[.bool an, .agg #[.int .u64 (hiW a), .int .u64 (loW a)], .bool bn, .agg #[.int .u64 (hiW b), .int .u64 (loW b)]] w fun e w' =>
   e = .returned (.tuple #[.agg #[.int .i64 (hiW (fitR (sgn an a + sgn bn b))), .int .u64 (loW (fitR (sgn an a + sgn bn b)))], .int .i64 (fitE (sgn an a + sgn bn b))]) ∧ Below w.heap.size w w' := by
 have HZ := hide (sgn_add_same he a b)
 rw [HZ.out]
 have HD := hide (decide_eq_false hz)
 rw [fitR_not hz, fitE_not hz, hi_zero, lo_zero]
 clear hz
 have HM := min_add ha hb0 hf
 have HF := hide (fitM_t hf)
 have HE := hide (mod128_of HM)
 clear hf
 go_enter Tryz.func60, Tryz.ntmps60
 go_wp2_with fail
 refine wp_region_seq (SB (w.heap.size + 3) [] _) [true, true, false, true, false, true] (by kernel_rfl) (by kernel_rfl) rfl (by kernel_rfl) (fun _ _ d _ _ h => by cases d <;> exact h) SB.refl.drew (fun hHeld => ?_)
 refine seq_take ?_ (by rfl) (fun wx hSx => ?_) ?_
 rotate_left
 ·(unfold SB at hSx; go_simp; (try with_reducible rfl))
 (try simp only [Act.put, putS])
 refine seq_take ?_ (by rfl) (fun wx hSx => ?_) ?_
 rotate_left
 ·(unfold SB at hSx; go_simp; (try with_reducible rfl))
 (try simp only [Act.put, putS])
 refine seq_run (by rfl) (fun K hK => ?_)
 go_simp
 refine hK.out _ _ ?_ (fun hHeld => ?_)
 ·exact sbT
 clear hK K
 (try simp only [Act.put, putS])
 refine seq_take ?_ (by rfl) (fun wx hSx => ?_) ?_
 rotate_left
 ·(unfold SB at hSx; go_simp; (try with_reducible rfl))
 (try simp only [Act.put, putS])
 refine seq_run (by rfl) (fun K hK => ?_)
 go_simp
 refine hK.out _ _ ?_ (fun hHeld => ?_)
 ·exact sbT
 clear hK K
 (try simp only [Act.put, putS])
 refine seq_take ?_ (by rfl) (fun wx hSx => ?_) ?_
 rotate_left
 ·(unfold SB at hSx; go_simp; (try with_reducible rfl))
 (try simp only [Act.put, putS])
 refine seq_end ?_
 go_wp2_with fail
 refine (rplus_any a b ha hb0 _).mono ?_
 rintro e w1 ⟨rfl, hb⟩
 rw [HF.out, HE.out]
 have q1B : Below w.heap.size w w1 := qB hb
 have q1z := hb.size
 try simp at q1z
 have q1t : w.heap.size ≤ w1.heap.size := (by omega)
 obtain ⟨q1s0, q1n0_0, q1n0_1, q1n0_2⟩ := kB w1.heap.size w.heap.size
 obtain ⟨q1c0_0, q1c0_1, q1f0⟩ := kC2 hb w.heap.size
 simp [go_sem, *] at q1c0_0 q1c0_1 q1f0
 obtain ⟨q1s1, q1n1_0, q1n1_1, q1n1_2⟩ := kB w1.heap.size (w.heap.size + 1)
 obtain ⟨q1c1_0, q1c1_1, q1f1⟩ := kC2 hb (w.heap.size + 1)
 simp [go_sem, *] at q1c1_0 q1c1_1 q1f1
 obtain ⟨q1s2, q1n2_0, q1n2_1, q1n2_2⟩ := kB w1.heap.size (w.heap.size + 2)
 obtain ⟨q1c2_0, q1c2_1, q1f2⟩ := kC2 hb (w.heap.size + 2)
 simp [go_sem, *] at q1c2_0 q1c2_1 q1f2
 obtain ⟨q1s3, q1n3_0, q1n3_1, q1n3_2⟩ := kB w1.heap.size (w.heap.size + 3)
 obtain ⟨q1c3_0, q1c3_1, q1f3⟩ := kC2 hb (w.heap.size + 3)
 simp [go_sem, *] at q1c3_0 q1c3_1 q1f3
 have q1o := belO q1B
 clear hb
 go_wp2_with fail
 refine (rjoin_any an (a + b) HM _).mono ?_
 rintro e w2 ⟨rfl, hb⟩
 rw [HD.out]
 have q2B : Below w.heap.size w w2 := qB hb
 have q2z := hb.size
 try simp at q2z
 have q2t : w.heap.size ≤ w2.heap.size := (by omega)
 obtain ⟨q2s0, q2n0_0, q2n0_1, q2n0_2⟩ := kB w2.heap.size w.heap.size
 obtain ⟨q2c0_0, q2c0_1, q2f0⟩ := kC2 hb w.heap.size
 simp [go_sem, *] at q2c0_0 q2c0_1 q2f0
 obtain ⟨q2s1, q2n1_0, q2n1_1, q2n1_2⟩ := kB w2.heap.size (w.heap.size + 1)
 obtain ⟨q2c1_0, q2c1_1, q2f1⟩ := kC2 hb (w.heap.size + 1)
 simp [go_sem, *] at q2c1_0 q2c1_1 q2f1
 obtain ⟨q2s2, q2n2_0, q2n2_1, q2n2_2⟩ := kB w2.heap.size (w.heap.size + 2)
 obtain ⟨q2c2_0, q2c2_1, q2f2⟩ := kC2 hb (w.heap.size + 2)
 simp [go_sem, *] at q2c2_0 q2c2_1 q2f2
 obtain ⟨q2s3, q2n3_0, q2n3_1, q2n3_2⟩ := kB w2.heap.size (w.heap.size + 3)
 obtain ⟨q2c3_0, q2c3_1, q2f3⟩ := kC2 hb (w.heap.size + 3)
 simp [go_sem, *] at q2c3_0 q2c3_1 q2f3
 have q2o := belO q2B
 clear hb q1o q1f3 q1c3_1 q1c3_0 q1s3 q1f2 q1c2_1 q1c2_0 q1s2 q1f1 q1c1_1 q1c1_0 q1s1 q1f0 q1c0_1 q1c0_0 q1s0 q1z q1B
 go_wp2_with fail
 refine bodyPost_ret (by simp [results, Tryz.results60, go_sem, *] <;> rfl) rfl ⟨?_, ?_⟩
 ·rfl
 (repeat (first | (with_reducible first | exact Below.refl _ _ | assumption | refine Below.drew ?_) | ((with_reducible first | refine Below.alloc ?_ ?_ _ | refine Below.setCell ?_ ?_ _); rotate_left; (first | omega | (simp <;> omega)))))
set_option maxHeartbeats 400000 in
theorem rsumL2 (an bn : Bool) (a b : Int) (ha : MIn a) (hb0 : MIn b) (he : (an == bn) = false) (hf : a < b) (hz : ¬ WIn (sgn bn (b - a))) (w : World) :
  Calls Tryz.prog 60 #[.bool an, .agg #[.int .u64 (hiW a), .int .u64 (loW a)], .bool bn, .agg #[.int .u64 (hiW b), .int .u64 (loW b)]] w fun e w' =>
   e = .returned (.tuple #[.agg #[.int .i64 (hiW (fitR (sgn an a + sgn bn b))), .int .u64 (loW (fitR (sgn an a + sgn bn b)))], .int .i64 (fitE (sgn an a + sgn bn b))]) ∧ Below w.heap.size w w' := by
 have HZ := hide (sgn_add_less he a b)
 rw [HZ.out]
 have HD := hide (decide_eq_false hz)
 rw [fitR_not hz, fitE_not hz, hi_zero, lo_zero]
 clear hz
 have HM := min_sub hb0 ha (Int.le_of_lt hf)
 have HF := hide (decide_eq_true hf)
 have hle := Int.le_of_lt hf
 clear hf
 go_enter Tryz.func60, Tryz.ntmps60
 go_wp2_with fail
 refine wp_region_seq (SB (w.heap.size + 3) [] _) [true, true, false, true, false, true] (by kernel_rfl) (by kernel_rfl) rfl (by kernel_rfl) (fun _ _ d _ _ h => by cases d <;> exact h) SB.refl.drew (fun hHeld => ?_)
 refine seq_take ?_ (by rfl) (fun wx hSx => ?_) ?_
 rotate_left
 ·(unfold SB at hSx; go_simp; (try with_reducible rfl))
 (try simp only [Act.put, putS])
 refine seq_take ?_ (by rfl) (fun wx hSx => ?_) ?_
 rotate_left
 ·(unfold SB at hSx; go_simp; (try with_reducible rfl))
 (try simp only [Act.put, putS])
 refine seq_run (by rfl) (fun K hK => ?_)
 go_simp
 refine hK.out _ _ ?_ (fun hHeld => ?_)
 ·exact sbT
 clear hK K
 (try simp only [Act.put, putS])
 refine seq_take ?_ (by rfl) (fun wx hSx => ?_) ?_
 rotate_left
 ·(unfold SB at hSx; go_simp; (try with_reducible rfl))
 (try simp only [Act.put, putS])
 refine seq_run (by rfl) (fun K hK => ?_)
 go_simp
 refine hK.out _ _ ?_ (fun hHeld => ?_)
 ·exact sbT
 clear hK K
 (try simp only [Act.put, putS])
 refine seq_take ?_ (by rfl) (fun wx hSx => ?_) ?_
 rotate_left
 ·(unfold SB at hSx; go_simp; (try with_reducible rfl))
 (try simp only [Act.put, putS])
 refine seq_end ?_
 go_wp2_with fail
 refine (rless_any a b _).mono ?_
 rintro e w1 ⟨rfl, hb⟩
 rw [HF.out]
 have q1B : Below w.heap.size w w1 := qB hb
 have q1z := hb.size
 try simp at q1z
 have q1t : w.heap.size ≤ w1.heap.size := (by omega)
 obtain ⟨q1s0, q1n0_0, q1n0_1, q1n0_2⟩ := kB w1.heap.size w.heap.size
 obtain ⟨q1c0_0, q1c0_1, q1f0⟩ := kC2 hb w.heap.size
 simp [go_sem, *] at q1c0_0 q1c0_1 q1f0
 obtain ⟨q1s1, q1n1_0, q1n1_1, q1n1_2⟩ := kB w1.heap.size (w.heap.size + 1)
 obtain ⟨q1c1_0, q1c1_1, q1f1⟩ := kC2 hb (w.heap.size + 1)
 simp [go_sem, *] at q1c1_0 q1c1_1 q1f1
 obtain ⟨q1s2, q1n2_0, q1n2_1, q1n2_2⟩ := kB w1.heap.size (w.heap.size + 2)
 obtain ⟨q1c2_0, q1c2_1, q1f2⟩ := kC2 hb (w.heap.size + 2)
 simp [go_sem, *] at q1c2_0 q1c2_1 q1f2
 obtain ⟨q1s3, q1n3_0, q1n3_1, q1n3_2⟩ := kB w1.heap.size (w.heap.size + 3)
 obtain ⟨q1c3_0, q1c3_1, q1f3⟩ := kC2 hb (w.heap.size + 3)
 simp [go_sem, *] at q1c3_0 q1c3_1 q1f3
 have q1o := belO q1B
 clear hb
 go_wp2_with fail
 refine (rminus_any b a hb0 ha hle _).mono ?_
 rintro e w2 ⟨rfl, hb⟩
 have q2B : Below w.heap.size w w2 := qB hb
 have q2z := hb.size
 try simp at q2z
 have q2t : w.heap.size ≤ w2.heap.size := (by omega)
 obtain ⟨q2s0, q2n0_0, q2n0_1, q2n0_2⟩ := kB w2.heap.size w.heap.size
 obtain ⟨q2c0_0, q2c0_1, q2f0⟩ := kC2 hb w.heap.size
 simp [go_sem, *] at q2c0_0 q2c0_1 q2f0
 obtain ⟨q2s1, q2n1_0, q2n1_1, q2n1_2⟩ := kB w2.heap.size (w.heap.size + 1)
 obtain ⟨q2c1_0, q2c1_1, q2f1⟩ := kC2 hb (w.heap.size + 1)
 simp [go_sem, *] at q2c1_0 q2c1_1 q2f1
 obtain ⟨q2s2, q2n2_0, q2n2_1, q2n2_2⟩ := kB w2.heap.size (w.heap.size + 2)
 obtain ⟨q2c2_0, q2c2_1, q2f2⟩ := kC2 hb (w.heap.size + 2)
 simp [go_sem, *] at q2c2_0 q2c2_1 q2f2
 obtain ⟨q2s3, q2n3_0, q2n3_1, q2n3_2⟩ := kB w2.heap.size (w.heap.size + 3)
 obtain ⟨q2c3_0, q2c3_1, q2f3⟩ := kC2 hb (w.heap.size + 3)
 simp [go_sem, *] at q2c3_0 q2c3_1 q2f3
 have q2o := belO q2B
 clear hb q1o q1f3 q1c3_1 q1c3_0 q1s3 q1f2 q1c2_1 q1c2_0 q1s2 q1f1 q1c1_1 q1c1_0 q1s1 q1f0 q1c0_1 q1c0_0 q1s0 q1z q1B
 go_wp2_with fail
 refine (rjoin_any bn (b - a) HM _).mono ?_
 rintro e w3 ⟨rfl, hb⟩
 rw [HD.out]
 have q3B : Below w.heap.size w w3 := qB hb
 have q3z := hb.size
 try simp at q3z
 have q3t : w.heap.size ≤ w3.heap.size := (by omega)
 obtain ⟨q3s0, q3n0_0, q3n0_1, q3n0_2⟩ := kB w3.heap.size w.heap.size
 obtain ⟨q3c0_0, q3c0_1, q3f0⟩ := kC2 hb w.heap.size
 simp [go_sem, *] at q3c0_0 q3c0_1 q3f0
 obtain ⟨q3s1, q3n1_0, q3n1_1, q3n1_2⟩ := kB w3.heap.size (w.heap.size + 1)
 obtain ⟨q3c1_0, q3c1_1, q3f1⟩ := kC2 hb (w.heap.size + 1)
 simp [go_sem, *] at q3c1_0 q3c1_1 q3f1
 obtain ⟨q3s2, q3n2_0, q3n2_1, q3n2_2⟩ := kB w3.heap.size (w.heap.size + 2)
 obtain ⟨q3c2_0, q3c2_1, q3f2⟩ := kC2 hb (w.heap.size + 2)
 simp [go_sem, *] at q3c2_0 q3c2_1 q3f2
 obtain ⟨q3s3, q3n3_0, q3n3_1, q3n3_2⟩ := kB w3.heap.size (w.heap.size + 3)
 obtain ⟨q3c3_0, q3c3_1, q3f3⟩ := kC2 hb (w.heap.size + 3)
 simp [go_sem, *] at q3c3_0 q3c3_1 q3f3
 have q3o := belO q3B
 clear hb q2o q2f3 q2c3_1 q2c3_0 q2s3 q2f2 q2c2_1 q2c2_0 q2s2 q2f1 q2c1_1 q2c1_0 q2s1 q2f0 q2c0_1 q2c0_0 q2s0 q2z q2B
 go_wp2_with fail
 refine bodyPost_ret (by simp [results, Tryz.results60, go_sem, *] <;> rfl) rfl ⟨?_, ?_⟩
 ·rfl
 (repeat (first | (with_reducible first | exact Below.refl _ _ | assumption | refine Below.drew ?_) | ((with_reducible first | refine Below.alloc ?_ ?_ _ | refine Below.setCell ?_ ?_ _); rotate_left; (first | omega | (simp <;> omega)))))
set_option maxHeartbeats 400000 in
theorem rsumG2 (an bn : Bool) (a b : Int) (ha : MIn a) (hb0 : MIn b) (he : (an == bn) = false) (hf : ¬ a < b) (hz : ¬ WIn (sgn an (a - b))) (w : World) :
  Calls Tryz.prog 60 #[.bool an, .agg #[.int .u64 (hiW a), .int .u64 (loW a)], .bool bn, .agg #[.int .u64 (hiW b), .int .u64 (loW b)]] w fun e w' =>
   e = .returned (.tuple #[.agg #[.int .i64 (hiW (fitR (sgn an a + sgn bn b))), .int .u64 (loW (fitR (sgn an a + sgn bn b)))], .int .i64 (fitE (sgn an a + sgn bn b))]) ∧ Below w.heap.size w w' := by
 have HZ := hide (sgn_add_more he a b)
 rw [HZ.out]
 have HD := hide (decide_eq_false hz)
 rw [fitR_not hz, fitE_not hz, hi_zero, lo_zero]
 clear hz
 have HM := min_sub ha hb0 (Int.not_lt.1 hf)
 have HF := hide (decide_eq_false hf)
 have hle := Int.not_lt.1 hf
 clear hf
 go_enter Tryz.func60, Tryz.ntmps60
 go_wp2_with fail
 refine wp_region_seq (SB (w.heap.size + 3) [] _) [true, true, false, true, false, true] (by kernel_rfl) (by kernel_rfl) rfl (by kernel_rfl) (fun _ _ d _ _ h => by cases d <;> exact h) SB.refl.drew (fun hHeld => ?_)
 refine seq_take ?_ (by rfl) (fun wx hSx => ?_) ?_
 rotate_left
 ·(unfold SB at hSx; go_simp; (try with_reducible rfl))
 (try simp only [Act.put, putS])
 refine seq_take ?_ (by rfl) (fun wx hSx => ?_) ?_
 rotate_left
 ·(unfold SB at hSx; go_simp; (try with_reducible rfl))
 (try simp only [Act.put, putS])
 refine seq_run (by rfl) (fun K hK => ?_)
 go_simp
 refine hK.out _ _ ?_ (fun hHeld => ?_)
 ·exact sbT
 clear hK K
 (try simp only [Act.put, putS])
 refine seq_take ?_ (by rfl) (fun wx hSx => ?_) ?_
 rotate_left
 ·(unfold SB at hSx; go_simp; (try with_reducible rfl))
 (try simp only [Act.put, putS])
 refine seq_run (by rfl) (fun K hK => ?_)
 go_simp
 refine hK.out _ _ ?_ (fun hHeld => ?_)
 ·exact sbT
 clear hK K
 (try simp only [Act.put, putS])
 refine seq_take ?_ (by rfl) (fun wx hSx => ?_) ?_
 rotate_left
 ·(unfold SB at hSx; go_simp; (try with_reducible rfl))
 (try simp only [Act.put, putS])
 refine seq_end ?_
 go_wp2_with fail
 refine (rless_any a b _).mono ?_
 rintro e w1 ⟨rfl, hb⟩
 rw [HF.out]
 have q1B : Below w.heap.size w w1 := qB hb
 have q1z := hb.size
 try simp at q1z
 have q1t : w.heap.size ≤ w1.heap.size := (by omega)
 obtain ⟨q1s0, q1n0_0, q1n0_1, q1n0_2⟩ := kB w1.heap.size w.heap.size
 obtain ⟨q1c0_0, q1c0_1, q1f0⟩ := kC2 hb w.heap.size
 simp [go_sem, *] at q1c0_0 q1c0_1 q1f0
 obtain ⟨q1s1, q1n1_0, q1n1_1, q1n1_2⟩ := kB w1.heap.size (w.heap.size + 1)
 obtain ⟨q1c1_0, q1c1_1, q1f1⟩ := kC2 hb (w.heap.size + 1)
 simp [go_sem, *] at q1c1_0 q1c1_1 q1f1
 obtain ⟨q1s2, q1n2_0, q1n2_1, q1n2_2⟩ := kB w1.heap.size (w.heap.size + 2)
 obtain ⟨q1c2_0, q1c2_1, q1f2⟩ := kC2 hb (w.heap.size + 2)
 simp [go_sem, *] at q1c2_0 q1c2_1 q1f2
 obtain ⟨q1s3, q1n3_0, q1n3_1, q1n3_2⟩ := kB w1.heap.size (w.heap.size + 3)
 obtain ⟨q1c3_0, q1c3_1, q1f3⟩ := kC2 hb (w.heap.size + 3)
 simp [go_sem, *] at q1c3_0 q1c3_1 q1f3
 have q1o := belO q1B
 clear hb
 go_wp2_with fail
 refine (rminus_any a b ha hb0 hle _).mono ?_
 rintro e w2 ⟨rfl, hb⟩
 have q2B : Below w.heap.size w w2 := qB hb
 have q2z := hb.size
 try simp at q2z
 have q2t : w.heap.size ≤ w2.heap.size := (by omega)
 obtain ⟨q2s0, q2n0_0, q2n0_1, q2n0_2⟩ := kB w2.heap.size w.heap.size
 obtain ⟨q2c0_0, q2c0_1, q2f0⟩ := kC2 hb w.heap.size
 simp [go_sem, *] at q2c0_0 q2c0_1 q2f0
 obtain ⟨q2s1, q2n1_0, q2n1_1, q2n1_2⟩ := kB w2.heap.size (w.heap.size + 1)
 obtain ⟨q2c1_0, q2c1_1, q2f1⟩ := kC2 hb (w.heap.size + 1)
 simp [go_sem, *] at q2c1_0 q2c1_1 q2f1
 obtain ⟨q2s2, q2n2_0, q2n2_1, q2n2_2⟩ := kB w2.heap.size (w.heap.size + 2)
 obtain ⟨q2c2_0, q2c2_1, q2f2⟩ := kC2 hb (w.heap.size + 2)
 simp [go_sem, *] at q2c2_0 q2c2_1 q2f2
 obtain ⟨q2s3, q2n3_0, q2n3_1, q2n3_2⟩ := kB w2.heap.size (w.heap.size + 3)
 obtain ⟨q2c3_0, q2c3_1, q2f3⟩ := kC2 hb (w.heap.size + 3)
 simp [go_sem, *] at q2c3_0 q2c3_1 q2f3
 have q2o := belO q2B
 clear hb q1o q1f3 q1c3_1 q1c3_0 q1s3 q1f2 q1c2_1 q1c2_0 q1s2 q1f1 q1c1_1 q1c1_0 q1s1 q1f0 q1c0_1 q1c0_0 q1s0 q1z q1B
 go_wp2_with fail
 refine (rjoin_any an (a - b) HM _).mono ?_
 rintro e w3 ⟨rfl, hb⟩
 rw [HD.out]
 have q3B : Below w.heap.size w w3 := qB hb
 have q3z := hb.size
 try simp at q3z
 have q3t : w.heap.size ≤ w3.heap.size := (by omega)
 obtain ⟨q3s0, q3n0_0, q3n0_1, q3n0_2⟩ := kB w3.heap.size w.heap.size
 obtain ⟨q3c0_0, q3c0_1, q3f0⟩ := kC2 hb w.heap.size
 simp [go_sem, *] at q3c0_0 q3c0_1 q3f0
 obtain ⟨q3s1, q3n1_0, q3n1_1, q3n1_2⟩ := kB w3.heap.size (w.heap.size + 1)
 obtain ⟨q3c1_0, q3c1_1, q3f1⟩ := kC2 hb (w.heap.size + 1)
 simp [go_sem, *] at q3c1_0 q3c1_1 q3f1
 obtain ⟨q3s2, q3n2_0, q3n2_1, q3n2_2⟩ := kB w3.heap.size (w.heap.size + 2)
 obtain ⟨q3c2_0, q3c2_1, q3f2⟩ := kC2 hb (w.heap.size + 2)
 simp [go_sem, *] at q3c2_0 q3c2_1 q3f2
 obtain ⟨q3s3, q3n3_0, q3n3_1, q3n3_2⟩ := kB w3.heap.size (w.heap.size + 3)
 obtain ⟨q3c3_0, q3c3_1, q3f3⟩ := kC2 hb (w.heap.size + 3)
 simp [go_sem, *] at q3c3_0 q3c3_1 q3f3
 have q3o := belO q3B
 clear hb q2o q2f3 q2c3_1 q2c3_0 q2s3 q2f2 q2c2_1 q2c2_0 q2s2 q2f1 q2c1_1 q2c1_0 q2s1 q2f0 q2c0_1 q2c0_0 q2s0 q2z q2B
 go_wp2_with fail
 refine bodyPost_ret (by simp [results, Tryz.results60, go_sem, *] <;> rfl) rfl ⟨?_, ?_⟩
 ·rfl
 (repeat (first | (with_reducible first | exact Below.refl _ _ | assumption | refine Below.drew ?_) | ((with_reducible first | refine Below.alloc ?_ ?_ _ | refine Below.setCell ?_ ?_ _); rotate_left; (first | omega | (simp <;> omega)))))
set_option maxHeartbeats 400000 in
theorem rsumE3 (an bn : Bool) (a b : Int) (ha : MIn a) (hb0 : MIn b) (he : (an == bn) = true) (hf : ¬ a + b < 340282366920938463463374607431768211456) (w : World) :
  Calls Tryz.prog 60 #[.bool an, .agg #[.int .u64 (hiW a), .int .u64 (loW a)], .bool bn, .agg #[.int .u64 (hiW b), .int .u64 (loW b)]] w fun e w' =>
   e = .returned (.tuple #[.agg #[.int .i64 (hiW (fitR (sgn an a + sgn bn b))), .int .u64 (loW (fitR (sgn an a + sgn bn b)))], .int .i64 (fitE (sgn an a + sgn bn b))]) ∧ Below w.heap.size w w' := by
 have HZ := hide (sgn_add_same he a b)
 rw [HZ.out]
 have hz := sgn_big an hf
 rw [fitR_not hz, fitE_not hz, hi_zero, lo_zero]
 clear hz
 have HF := hide (fitM_f hf)
 clear hf
 go_enter Tryz.func60, Tryz.ntmps60
 go_wp2_with fail
 refine wp_region_seq (SB (w.heap.size + 3) [] _) [true, true, false, true, false, true] (by kernel_rfl) (by kernel_rfl) rfl (by kernel_rfl) (fun _ _ d _ _ h => by cases d <;> exact h) SB.refl.drew (fun hHeld => ?_)
 refine seq_take ?_ (by rfl) (fun wx hSx => ?_) ?_
 rotate_left
 ·(unfold SB at hSx; go_simp; (try with_reducible rfl))
 (try simp only [Act.put, putS])
 refine seq_take ?_ (by rfl) (fun wx hSx => ?_) ?_
 rotate_left
 ·(unfold SB at hSx; go_simp; (try with_reducible rfl))
 (try simp only [Act.put, putS])
 refine seq_run (by rfl) (fun K hK => ?_)
 go_simp
 refine hK.out _ _ ?_ (fun hHeld => ?_)
 ·exact sbT
 clear hK K
 (try simp only [Act.put, putS])
 refine seq_take ?_ (by rfl) (fun wx hSx => ?_) ?_
 rotate_left
 ·(unfold SB at hSx; go_simp; (try with_reducible rfl))
 (try simp only [Act.put, putS])
 refine seq_run (by rfl) (fun K hK => ?_)
 go_simp
 refine hK.out _ _ ?_ (fun hHeld => ?_)
 ·exact sbT
 clear hK K
 (try simp only [Act.put, putS])
 refine seq_take ?_ (by rfl) (fun wx hSx => ?_) ?_
 rotate_left
 ·(unfold SB at hSx; go_simp; (try with_reducible rfl))
 (try simp only [Act.put, putS])
 refine seq_end ?_
 go_wp2_with fail
 refine (rplus_any a b ha hb0 _).mono ?_
 rintro e w1 ⟨rfl, hb⟩
 rw [HF.out]
 have q1B : Below w.heap.size w w1 := qB hb
 have q1z := hb.size
 try simp at q1z
 have q1t : w.heap.size ≤ w1.heap.size := (by omega)
 obtain ⟨q1s0, q1n0_0, q1n0_1, q1n0_2⟩ := kB w1.heap.size w.heap.size
 obtain ⟨q1c0_0, q1c0_1, q1f0⟩ := kC2 hb w.heap.size
 simp [go_sem, *] at q1c0_0 q1c0_1 q1f0
 obtain ⟨q1s1, q1n1_0, q1n1_1, q1n1_2⟩ := kB w1.heap.size (w.heap.size + 1)
 obtain ⟨q1c1_0, q1c1_1, q1f1⟩ := kC2 hb (w.heap.size + 1)
 simp [go_sem, *] at q1c1_0 q1c1_1 q1f1
 obtain ⟨q1s2, q1n2_0, q1n2_1, q1n2_2⟩ := kB w1.heap.size (w.heap.size + 2)
 obtain ⟨q1c2_0, q1c2_1, q1f2⟩ := kC2 hb (w.heap.size + 2)
 simp [go_sem, *] at q1c2_0 q1c2_1 q1f2
 obtain ⟨q1s3, q1n3_0, q1n3_1, q1n3_2⟩ := kB w1.heap.size (w.heap.size + 3)
 obtain ⟨q1c3_0, q1c3_1, q1f3⟩ := kC2 hb (w.heap.size + 3)
 simp [go_sem, *] at q1c3_0 q1c3_1 q1f3
 have q1o := belO q1B
 clear hb
 go_wp2_with fail
 refine (rjoin_any an _ (mod128_in _) _).mono ?_
 rintro e w2 ⟨rfl, hb⟩
 have q2B : Below w.heap.size w w2 := qB hb
 have q2z := hb.size
 try simp at q2z
 have q2t : w.heap.size ≤ w2.heap.size := (by omega)
 obtain ⟨q2s0, q2n0_0, q2n0_1, q2n0_2⟩ := kB w2.heap.size w.heap.size
 obtain ⟨q2c0_0, q2c0_1, q2f0⟩ := kC2 hb w.heap.size
 simp [go_sem, *] at q2c0_0 q2c0_1 q2f0
 obtain ⟨q2s1, q2n1_0, q2n1_1, q2n1_2⟩ := kB w2.heap.size (w.heap.size + 1)
 obtain ⟨q2c1_0, q2c1_1, q2f1⟩ := kC2 hb (w.heap.size + 1)
 simp [go_sem, *] at q2c1_0 q2c1_1 q2f1
 obtain ⟨q2s2, q2n2_0, q2n2_1, q2n2_2⟩ := kB w2.heap.size (w.heap.size + 2)
 obtain ⟨q2c2_0, q2c2_1, q2f2⟩ := kC2 hb (w.heap.size + 2)
 simp [go_sem, *] at q2c2_0 q2c2_1 q2f2
 obtain ⟨q2s3, q2n3_0, q2n3_1, q2n3_2⟩ := kB w2.heap.size (w.heap.size + 3)
 obtain ⟨q2c3_0, q2c3_1, q2f3⟩ := kC2 hb (w.heap.size + 3)
 simp [go_sem, *] at q2c3_0 q2c3_1 q2f3
 have q2o := belO q2B
 clear hb q1o q1f3 q1c3_1 q1c3_0 q1s3 q1f2 q1c2_1 q1c2_0 q1s2 q1f1 q1c1_1 q1c1_0 q1s1 q1f0 q1c0_1 q1c0_0 q1s0 q1z q1B
 go_wp2_with fail
 refine bodyPost_ret (by simp [results, Tryz.results60, go_sem, *] <;> rfl) rfl ⟨?_, ?_⟩
 ·rfl
 (repeat (first | (with_reducible first | exact Below.refl _ _ | assumption | refine Below.drew ?_) | ((with_reducible first | refine Below.alloc ?_ ?_ _ | refine Below.setCell ?_ ?_ _); rotate_left; (first | omega | (simp <;> omega)))))
/-- The sum of two numbers given by signs and magnitudes, or ErrOverflow. -/
theorem rsum_any (an bn : Bool) (a b : Int) (ha : MIn a) (hb0 : MIn b) (w : World) :
  Calls Tryz.prog 60 #[.bool an, .agg #[.int .u64 (hiW a), .int .u64 (loW a)], .bool bn, .agg #[.int .u64 (hiW b), .int .u64 (loW b)]] w fun e w' =>
   e = .returned (.tuple #[.agg #[.int .i64 (hiW (fitR (sgn an a + sgn bn b))), .int .u64 (loW (fitR (sgn an a + sgn bn b)))], .int .i64 (fitE (sgn an a + sgn bn b))]) ∧ Below w.heap.size w w' := by
 cases he : (an == bn)
 ·by_cases hf : a < b
  ·by_cases hz : WIn (sgn bn (b - a))
   ·exact rsumL1 an bn a b ha hb0 he hf hz w
   ·exact rsumL2 an bn a b ha hb0 he hf hz w
  ·by_cases hz : WIn (sgn an (a - b))
   ·exact rsumG1 an bn a b ha hb0 he hf hz w
   ·exact rsumG2 an bn a b ha hb0 he hf hz w
 ·by_cases hf : a + b < 340282366920938463463374607431768211456
  ·by_cases hz : WIn (sgn an (a + b))
   ·exact rsumE1 an bn a b ha hb0 he hf hz w
   ·exact rsumE2 an bn a b ha hb0 he hf hz w
  ·exact rsumE3 an bn a b ha hb0 he hf w
end Go.Proofs.YtdjlaiilngechaaGreatDoor
namespace Go.Proofs.YtdjlaiilngechaaGreatDoor
set_option maxRecDepth 4000
set_option linter.unusedSimpArgs false
set_option linter.unusedVariables false
open Go.RowKit
theorem sgn_abs (x : Int) : sgn (decide (x < 0)) (absI x) = x := by
 unfold sgn absI
 by_cases h : x < 0 <;> simp [h]
set_option maxHeartbeats 400000 in
theorem radd_any (x y : Int) (hx : WIn x) (hy : WIn y) (w : World) :
  Calls Tryz.prog 31 #[.agg #[.int .i64 (hiW x), .int .u64 (loW x)], .agg #[.int .i64 (hiW y), .int .u64 (loW y)]] w fun e w' =>
   e = .returned (.tuple #[.agg #[.int .i64 (hiW (fitR (x + y))), .int .u64 (loW (fitR (x + y)))], .int .i64 (fitE (x + y))]) ∧ Below w.heap.size w w' := by
 have HS := hide (sgn_abs x)
 have HT := hide (sgn_abs y)
 go_enter Tryz.func31, Tryz.ntmps31
 go_wp2_with fail
 refine (rsplit_any x hx _).mono ?_
 rintro e w1 ⟨rfl, hb⟩
 have q1B : Below w.heap.size w w1 := qB hb
 have q1z := hb.size
 try simp at q1z
 have q1t : w.heap.size ≤ w1.heap.size := (by omega)
 obtain ⟨q1s0, q1n0_0, q1n0_1, q1n0_2⟩ := kB w1.heap.size w.heap.size
 obtain ⟨q1c0_0, q1c0_1, q1f0⟩ := kC2 hb w.heap.size
 simp [go_sem, *] at q1c0_0 q1c0_1 q1f0
 obtain ⟨q1s1, q1n1_0, q1n1_1, q1n1_2⟩ := kB w1.heap.size (w.heap.size + 1)
 obtain ⟨q1c1_0, q1c1_1, q1f1⟩ := kC2 hb (w.heap.size + 1)
 simp [go_sem, *] at q1c1_0 q1c1_1 q1f1
 obtain ⟨q1s2, q1n2_0, q1n2_1, q1n2_2⟩ := kB w1.heap.size (w.heap.size + 2)
 obtain ⟨q1c2_0, q1c2_1, q1f2⟩ := kC2 hb (w.heap.size + 2)
 simp [go_sem, *] at q1c2_0 q1c2_1 q1f2
 have q1o := belO q1B
 clear hb
 go_wp2_with fail
 refine (rsplit_any y hy _).mono ?_
 rintro e w2 ⟨rfl, hb⟩
 have q2B : Below w.heap.size w w2 := qB hb
 have q2z := hb.size
 try simp at q2z
 have q2t : w.heap.size ≤ w2.heap.size := (by omega)
 obtain ⟨q2s0, q2n0_0, q2n0_1, q2n0_2⟩ := kB w2.heap.size w.heap.size
 obtain ⟨q2c0_0, q2c0_1, q2f0⟩ := kC2 hb w.heap.size
 simp [go_sem, *] at q2c0_0 q2c0_1 q2f0
 obtain ⟨q2s1, q2n1_0, q2n1_1, q2n1_2⟩ := kB w2.heap.size (w.heap.size + 1)
 obtain ⟨q2c1_0, q2c1_1, q2f1⟩ := kC2 hb (w.heap.size + 1)
 simp [go_sem, *] at q2c1_0 q2c1_1 q2f1
 obtain ⟨q2s2, q2n2_0, q2n2_1, q2n2_2⟩ := kB w2.heap.size (w.heap.size + 2)
 obtain ⟨q2c2_0, q2c2_1, q2f2⟩ := kC2 hb (w.heap.size + 2)
 simp [go_sem, *] at q2c2_0 q2c2_1 q2f2
 obtain ⟨q2s3, q2n3_0, q2n3_1, q2n3_2⟩ := kB w2.heap.size w1.heap.size
 obtain ⟨q2c3_0, q2c3_1, q2f3⟩ := kC2 hb w1.heap.size
 simp [go_sem, *] at q2c3_0 q2c3_1 q2f3
 have q2o := belO q2B
 clear hb q1o q1f2 q1c2_1 q1c2_0 q1s2 q1f1 q1c1_1 q1c1_0 q1s1 q1f0 q1c0_1 q1c0_0 q1s0 q1z q1B
 go_wp2_with fail
 refine (rsum_any _ _ _ _ (absI_win hx) (absI_win hy) _).mono ?_
 rintro e w3 ⟨rfl, hb⟩
 rw [HS.out, HT.out]
 have q3B : Below w.heap.size w w3 := qB hb
 have q3z := hb.size
 try simp at q3z
 have q3t : w.heap.size ≤ w3.heap.size := (by omega)
 obtain ⟨q3s0, q3n0_0, q3n0_1, q3n0_2⟩ := kB w3.heap.size (w.heap.size + 2)
 obtain ⟨q3c0_0, q3c0_1, q3f0⟩ := kC2 hb (w.heap.size + 2)
 simp [go_sem, *] at q3c0_0 q3c0_1 q3f0
 have q3o := belO q3B
 clear hb q2o q2f3 q2c3_1 q2c3_0 q2s3 q2f2 q2c2_1 q2c2_0 q2s2 q2f1 q2c1_1 q2c1_0 q2s1 q2f0 q2c0_1 q2c0_0 q2s0 q2z q2B
 go_wp2_with fail
 refine bodyPost_ret (by simp [results, Tryz.results31, go_sem, *] <;> rfl) rfl ⟨?_, ?_⟩
 ·rfl
 (repeat (first | (with_reducible first | exact Below.refl _ _ | assumption | refine Below.drew ?_) | ((with_reducible first | refine Below.alloc ?_ ?_ _ | refine Below.setCell ?_ ?_ _); rotate_left; (first | omega | (simp <;> omega)))))
theorem scale_sgn (x n : Int) : sgn (!(decide (x < 0) == decide (n < 0))) (absI x * absI n) = x * n := by
 have h := mul_sign x n
 by_cases hx : x < 0 <;> by_cases hn : n < 0
 ·rw [h.1 (by omega)]; simp [sgn, hx, hn]
 ·rw [h.2 (by omega)]; simp [sgn, hx, hn]
 ·rw [h.2 (by omega)]; simp [sgn, hx, hn]
 ·rw [h.1 (by omega)]; simp [sgn, hx, hn]
theorem mul_win {a b : Int} (a1 : -9223372036854775808 ≤ a) (a2 : a ≤ 9223372036854775807) (b1 : -9223372036854775808 ≤ b) (b2 : b ≤ 9223372036854775807) : WIn (a * b) := by
 have h := mul_small a1 a2 b1 b2
 have hs := mul_sign a b
 unfold WIn
 by_cases hh : (a < 0 ↔ b < 0)
 ·rw [hs.1 hh]; omega
 ·rw [hs.2 hh]; omega
def ScaleCut (x n : Int) (w : World) (v8 v9 : Value) (wx : World) : Prop :=
 ∃ g, v8 = .pointer (some ⟨g, 0, none⟩) ∧ v9 = .bool (fitM (absI x * absI n)) ∧ Below w.heap.size w wx ∧ w.heap.size + 1 < wx.heap.size ∧
  (wx.cell? ⟨g, 0, none⟩ = some (.int .u64 (hiW (mod128 (absI x * absI n)))) ∧ wx.cell? ⟨g, 1, none⟩ = some (.int .u64 (loW (mod128 (absI x * absI n))))) ∧ g < wx.heap.size ∧
  (wx.cell? ⟨w.heap.size + 1, 0, none⟩ = some (.int .i64 0) ∧ wx.cell? ⟨w.heap.size + 1, 1, none⟩ = some (.int .u64 0) ∧ ∀ o, wx.frozen? ⟨w.heap.size + 1, o, none⟩ = false)
set_option maxHeartbeats 1000000 in
theorem rscale_any (x n : Int) (hx : WIn x) (n1 : -9223372036854775808 ≤ n) (n2 : n ≤ 9223372036854775807) (w : World) :
  Calls Tryz.prog 62 #[.agg #[.int .i64 (hiW x), .int .u64 (loW x)], .int .i64 n] w fun e w' =>
   e = .returned (.tuple #[.agg #[.int .i64 (hiW (fitR (x * n))), .int .u64 (loW (fitR (x * n)))], .int .i64 (fitE (x * n))]) ∧ Below w.heap.size w w' := by
 have ha := absI_mbd n1 n2
 go_enter Tryz.func62, Tryz.ntmps62
 go_wp2_with fail
 refine (rsplit_any x hx _).mono ?_
 rintro e w1 ⟨rfl, hb⟩
 have q1B : Below w.heap.size w w1 := qB hb
 have q1z := hb.size
 try simp at q1z
 have q1t : w.heap.size ≤ w1.heap.size := (by omega)
 obtain ⟨q1s0, q1n0_0, q1n0_1, q1n0_2⟩ := kB w1.heap.size w.heap.size
 obtain ⟨q1c0_0, q1c0_1, q1f0⟩ := kC2 hb w.heap.size
 simp [go_sem, *] at q1c0_0 q1c0_1 q1f0
 obtain ⟨q1s1, q1n1_0, q1n1_1, q1n1_2⟩ := kB w1.heap.size (w.heap.size + 1)
 obtain ⟨q1c1_0, q1c1_1, q1f1⟩ := kC2 hb (w.heap.size + 1)
 simp [go_sem, *] at q1c1_0 q1c1_1 q1f1
 have q1o := belO q1B
 clear hb
 go_upto_region 2 with fail
 go_cut [8, 9] (fun v8 v9 wx => ScaleCut x n w v8 v9 wx)
 case first =>
  refine ord_start (SB (w1.heap.size + 1) [] _) 10 (preB 0 10) (by kernel_rfl) (by kernel_rfl) (by kernel_rfl) SB.refl.drew (fun hHeld => ?_)
  refine oS (i := 0) (preB 1 9) rfl hHeld ?_
  (try simp only [Act.put, putS])
  refine oS (i := 1) (preB 2 8) rfl hHeld ?_
  (try simp only [Act.put, putS])
  refine wpAnyH_ready (rs := [2, 7]) (by kernel_rfl) (by simp) ?_
  refine ord_run (i := 2) (preB 3 7) rfl (by kernel_rfl) (by rfl) (fun K hK => ?_) ?_
  ·go_simp
   go_wp2_with (go_at_call 101; refine (rsize_any n n1 n2 _).mono ?_; rintro e w2 ⟨rfl, rfl⟩)
   refine hK.out _ _ ?_ (fun hHeld => ?_)
   ·exact sbT
   clear hK K
   (try simp only [Act.put, putS])
   refine wpAnyH_ready (rs := [3, 7]) (by kernel_rfl) (by simp) ?_
   refine ord_run (i := 3) (preB 4 6) rfl (by kernel_rfl) (by rfl) (fun K hK => ?_) ?_
   ·go_simp
    go_wp2_with (go_at_call 100; refine (rtimes_any (absI x) (absI n) (absI_win hx) ha.1 ha.2 _).mono ?_; rintro e w2 ⟨rfl, hb⟩; (first | (have q2B : Below w.heap.size w w2 := qB hb; have q2z := hb.size; (try simp at q2z); have q2t : w.heap.size ≤ w2.heap.size := (by omega); have q2s0 : w.heap.size + 1 < w2.heap.size := (by omega); obtain ⟨q2n0_0, q2n0_1, q2n0_2⟩ := kN q2s0; obtain ⟨q2c0_0, q2c0_1, q2f0⟩ := kC2 hb (w.heap.size + 1); simp [go_sem, *] at q2c0_0 q2c0_1 q2f0; have q2s1 : w1.heap.size + 1 < w2.heap.size := (by omega); obtain ⟨q2n1_0, q2n1_1, q2n1_2⟩ := kN q2s1; obtain ⟨q2c1_0, q2c1_1, q2f1⟩ := kC2 hb (w1.heap.size + 1); simp [go_sem, *] at q2c1_0 q2c1_1 q2f1; have q2o := belO q2B; have hbS := hb; have hbS2 := hb; clear hb) | (have q2B : Below w.heap.size w w2 := qB hb; have q2z := hb.size; (try simp at q2z); have q2t : w.heap.size ≤ w2.heap.size := (by omega); have q2s0 : w.heap.size + 1 < w2.heap.size := (by omega); obtain ⟨q2n0_0, q2n0_1, q2n0_2⟩ := kN q2s0; obtain ⟨q2c0_0, q2c0_1, q2f0⟩ := kC2 hb (w.heap.size + 1); simp [go_sem, *] at q2c0_0 q2c0_1 q2f0; have q2o := belO q2B; have hbS := hb; have hbS2 := hb; clear hb)))
    refine hK.out _ _ ?_ (fun hHeld => ?_)
    ·exact sbT
    clear hK K
    (try simp only [Act.put, putS])
    refine oS (i := 4) (preB 5 5) rfl hHeld ?_
    (try simp only [Act.put, putS])
    refine oS (i := 5) (preB 6 4) rfl hHeld ?_
    (try simp only [Act.put, putS])
    refine oS (i := 6) (preB 7 3) rfl hHeld ?_
    (try simp only [Act.put, putS])
    refine wpAnyH_ready (rs := [7]) (by kernel_rfl) (by simp) ?_
    refine ord_run (i := 7) (preB 8 2) rfl (by kernel_rfl) (by rfl) (fun K hK => ?_) AllReadyH.nil
    go_simp
    refine hK.out _ _ ?_ (fun hHeld => ?_)
    ·exact sbT
    clear hK K
    (try simp only [Act.put, putS])
    refine wpAnyH_ready (rs := [8]) (by kernel_rfl) (by simp) ?_
    refine ord_run (i := 8) (preB 9 1) rfl (by kernel_rfl) (by rfl) (fun K hK => ?_) AllReadyH.nil
    go_simp
    refine hK.out _ _ ?_ (fun hHeld => ?_)
    ·exact sbT
    clear hK K
    (try simp only [Act.put, putS])
    refine oS (i := 9) (preB 10 0) rfl hHeld ?_
    (try simp only [Act.put, putS])
    refine wpAnyH_done (by kernel_rfl) ?_ _
    go_wp2_with fail; go_meet; exact ⟨_, rfl, rfl, belT, (by simp; omega), ⟨(by simp [go_sem, *]), (by simp [go_sem, *])⟩, (by first | omega | (simp <;> omega)), ⟨(by simp [go_sem, *]), (by simp [go_sem, *]), (by simp [go_sem, *])⟩⟩
   refine ord_run (i := 7) #[true, true, true, false, false, false, false, true, false, false] rfl (by kernel_rfl) (by rfl) (fun K hK => ?_) ?_
   ·go_simp
    refine hK.out _ _ ?_ (fun hHeld => ?_)
    ·exact sbT
    clear hK K
    (try simp only [Act.put, putS])
    refine wpAnyH_ready (rs := [3]) (by kernel_rfl) (by simp) ?_
    refine ord_run (i := 3) #[true, true, true, true, false, false, false, true, false, false] rfl (by kernel_rfl) (by rfl) (fun K hK => ?_) AllReadyH.nil
    go_simp
    go_wp2_with (go_at_call 100; refine (rtimes_any (absI x) (absI n) (absI_win hx) ha.1 ha.2 _).mono ?_; rintro e w2 ⟨rfl, hb⟩; (first | (have q2B : Below w.heap.size w w2 := qB hb; have q2z := hb.size; (try simp at q2z); have q2t : w.heap.size ≤ w2.heap.size := (by omega); have q2s0 : w.heap.size + 1 < w2.heap.size := (by omega); obtain ⟨q2n0_0, q2n0_1, q2n0_2⟩ := kN q2s0; obtain ⟨q2c0_0, q2c0_1, q2f0⟩ := kC2 hb (w.heap.size + 1); simp [go_sem, *] at q2c0_0 q2c0_1 q2f0; have q2s1 : w1.heap.size + 1 < w2.heap.size := (by omega); obtain ⟨q2n1_0, q2n1_1, q2n1_2⟩ := kN q2s1; obtain ⟨q2c1_0, q2c1_1, q2f1⟩ := kC2 hb (w1.heap.size + 1); simp [go_sem, *] at q2c1_0 q2c1_1 q2f1; have q2o := belO q2B; have hbS := hb; have hbS2 := hb; clear hb) | (have q2B : Below w.heap.size w w2 := qB hb; have q2z := hb.size; (try simp at q2z); have q2t : w.heap.size ≤ w2.heap.size := (by omega); have q2s0 : w.heap.size + 1 < w2.heap.size := (by omega); obtain ⟨q2n0_0, q2n0_1, q2n0_2⟩ := kN q2s0; obtain ⟨q2c0_0, q2c0_1, q2f0⟩ := kC2 hb (w.heap.size + 1); simp [go_sem, *] at q2c0_0 q2c0_1 q2f0; have q2o := belO q2B; have hbS := hb; have hbS2 := hb; clear hb)))
    refine hK.out _ _ ?_ (fun hHeld => ?_)
    ·exact sbT
    clear hK K
    (try simp only [Act.put, putS])
    refine oS (i := 4) #[true, true, true, true, true, false, false, true, false, false] rfl hHeld ?_
    (try simp only [Act.put, putS])
    refine oS (i := 5) #[true, true, true, true, true, true, false, true, false, false] rfl hHeld ?_
    (try simp only [Act.put, putS])
    refine oS (i := 6) (preB 8 2) rfl hHeld ?_
    (try simp only [Act.put, putS])
    refine wpAnyH_ready (rs := [8]) (by kernel_rfl) (by simp) ?_
    refine ord_run (i := 8) (preB 9 1) rfl (by kernel_rfl) (by rfl) (fun K hK => ?_) AllReadyH.nil
    go_simp
    refine hK.out _ _ ?_ (fun hHeld => ?_)
    ·exact sbT
    clear hK K
    (try simp only [Act.put, putS])
    refine oS (i := 9) (preB 10 0) rfl hHeld ?_
    (try simp only [Act.put, putS])
    refine wpAnyH_done (by kernel_rfl) ?_ _
    go_wp2_with fail; go_meet; exact ⟨_, rfl, rfl, belT, (by simp; omega), ⟨(by simp [go_sem, *]), (by simp [go_sem, *])⟩, (by first | omega | (simp <;> omega)), ⟨(by simp [go_sem, *]), (by simp [go_sem, *]), (by simp [go_sem, *])⟩⟩
   exact AllReadyH.nil
  refine ord_run (i := 7) #[true, true, false, false, false, false, false, true, false, false] rfl (by kernel_rfl) (by rfl) (fun K hK => ?_) ?_
  ·go_simp
   refine hK.out _ _ ?_ (fun hHeld => ?_)
   ·exact sbT
   clear hK K
   (try simp only [Act.put, putS])
   refine wpAnyH_ready (rs := [2]) (by kernel_rfl) (by simp) ?_
   refine ord_run (i := 2) #[true, true, true, false, false, false, false, true, false, false] rfl (by kernel_rfl) (by rfl) (fun K hK => ?_) AllReadyH.nil
   go_simp
   go_wp2_with (go_at_call 101; refine (rsize_any n n1 n2 _).mono ?_; rintro e w2 ⟨rfl, rfl⟩)
   refine hK.out _ _ ?_ (fun hHeld => ?_)
   ·exact sbT
   clear hK K
   (try simp only [Act.put, putS])
   refine wpAnyH_ready (rs := [3]) (by kernel_rfl) (by simp) ?_
   refine ord_run (i := 3) #[true, true, true, true, false, false, false, true, false, false] rfl (by kernel_rfl) (by rfl) (fun K hK => ?_) AllReadyH.nil
   go_simp
   go_wp2_with (go_at_call 100; refine (rtimes_any (absI x) (absI n) (absI_win hx) ha.1 ha.2 _).mono ?_; rintro e w2 ⟨rfl, hb⟩; (first | (have q2B : Below w.heap.size w w2 := qB hb; have q2z := hb.size; (try simp at q2z); have q2t : w.heap.size ≤ w2.heap.size := (by omega); have q2s0 : w.heap.size + 1 < w2.heap.size := (by omega); obtain ⟨q2n0_0, q2n0_1, q2n0_2⟩ := kN q2s0; obtain ⟨q2c0_0, q2c0_1, q2f0⟩ := kC2 hb (w.heap.size + 1); simp [go_sem, *] at q2c0_0 q2c0_1 q2f0; have q2s1 : w1.heap.size + 1 < w2.heap.size := (by omega); obtain ⟨q2n1_0, q2n1_1, q2n1_2⟩ := kN q2s1; obtain ⟨q2c1_0, q2c1_1, q2f1⟩ := kC2 hb (w1.heap.size + 1); simp [go_sem, *] at q2c1_0 q2c1_1 q2f1; have q2o := belO q2B; have hbS := hb; have hbS2 := hb; clear hb) | (have q2B : Below w.heap.size w w2 := qB hb; have q2z := hb.size; (try simp at q2z); have q2t : w.heap.size ≤ w2.heap.size := (by omega); have q2s0 : w.heap.size + 1 < w2.heap.size := (by omega); obtain ⟨q2n0_0, q2n0_1, q2n0_2⟩ := kN q2s0; obtain ⟨q2c0_0, q2c0_1, q2f0⟩ := kC2 hb (w.heap.size + 1); simp [go_sem, *] at q2c0_0 q2c0_1 q2f0; have q2o := belO q2B; have hbS := hb; have hbS2 := hb; clear hb)))
   refine hK.out _ _ ?_ (fun hHeld => ?_)
   ·exact sbT
   clear hK K
   (try simp only [Act.put, putS])
   refine oS (i := 4) #[true, true, true, true, true, false, false, true, false, false] rfl hHeld ?_
   (try simp only [Act.put, putS])
   refine oS (i := 5) #[true, true, true, true, true, true, false, true, false, false] rfl hHeld ?_
   (try simp only [Act.put, putS])
   refine oS (i := 6) (preB 8 2) rfl hHeld ?_
   (try simp only [Act.put, putS])
   refine wpAnyH_ready (rs := [8]) (by kernel_rfl) (by simp) ?_
   refine ord_run (i := 8) (preB 9 1) rfl (by kernel_rfl) (by rfl) (fun K hK => ?_) AllReadyH.nil
   go_simp
   refine hK.out _ _ ?_ (fun hHeld => ?_)
   ·exact sbT
   clear hK K
   (try simp only [Act.put, putS])
   refine oS (i := 9) (preB 10 0) rfl hHeld ?_
   (try simp only [Act.put, putS])
   refine wpAnyH_done (by kernel_rfl) ?_ _
   go_wp2_with fail; go_meet; exact ⟨_, rfl, rfl, belT, (by simp; omega), ⟨(by simp [go_sem, *]), (by simp [go_sem, *])⟩, (by first | omega | (simp <;> omega)), ⟨(by simp [go_sem, *]), (by simp [go_sem, *]), (by simp [go_sem, *])⟩⟩
  exact AllReadyH.nil
 case rest =>
  obtain ⟨g, rfl, rfl, hB, hz, ⟨cg0, cg1⟩, hg, ⟨cr0, cr1, crf⟩⟩ := hcut
  by_cases hf : absI x * absI n < 340282366920938463463374607431768211456
  ·have HM := mag_in (m := absI x * absI n) (Int.mul_nonneg (absI_nn x) (absI_nn n)) hf
   rw [fitM_t hf]
   rw [mod128_of HM] at cg0 cg1
   have HG := hide (scale_sgn x n)
   clear hf
   by_cases hw : WIn (x * n)
   ·have HD := hide (decide_eq_true hw)
    have HV := hide (wrap128_of hw)
    have HR := hide (fitR_of hw)
    have HE2 := hide (fitE_of hw)
    clear hw
    go_wp2_with fail
    refine (rjoin_any _ _ HM _).mono ?_
    rintro e w3 ⟨rfl, hb⟩
    rw [HG.out, HD.out, HV.out]
    have q1B : Below w.heap.size w w3 := qB hb
    have q1z := hb.size
    try simp at q1z
    have q1t : w.heap.size ≤ w3.heap.size := (by omega)
    obtain ⟨q1s0, q1n0_0, q1n0_1, q1n0_2⟩ := kB w3.heap.size (w.heap.size + 1)
    obtain ⟨q1c0_0, q1c0_1, q1f0⟩ := kC2 hb (w.heap.size + 1)
    simp [go_sem, *] at q1c0_0 q1c0_1 q1f0
    have q1o := belO q1B
    clear hb
    go_wp2_with fail
    refine bodyPost_ret (by simp [results, Tryz.results62, go_sem, *] <;> rfl) rfl ⟨?_, ?_⟩
    ·rw [HR.out, HE2.out]
    (repeat (first | (with_reducible first | exact Below.refl _ _ | assumption | refine Below.drew ?_) | ((with_reducible first | refine Below.alloc ?_ ?_ _ | refine Below.setCell ?_ ?_ _); rotate_left; (first | omega | (simp <;> omega)))))
   ·have HD := hide (decide_eq_false hw)
    have HR := hide (fitR_not hw)
    have HE2 := hide (fitE_not hw)
    clear hw
    go_wp2_with fail
    refine (rjoin_any _ _ HM _).mono ?_
    rintro e w3 ⟨rfl, hb⟩
    rw [HG.out, HD.out]
    have q1B : Below w.heap.size w w3 := qB hb
    have q1z := hb.size
    try simp at q1z
    have q1t : w.heap.size ≤ w3.heap.size := (by omega)
    obtain ⟨q1s0, q1n0_0, q1n0_1, q1n0_2⟩ := kB w3.heap.size (w.heap.size + 1)
    obtain ⟨q1c0_0, q1c0_1, q1f0⟩ := kC2 hb (w.heap.size + 1)
    simp [go_sem, *] at q1c0_0 q1c0_1 q1f0
    have q1o := belO q1B
    clear hb
    go_wp2_with fail
    refine bodyPost_ret (by simp [results, Tryz.results62, go_sem, *] <;> rfl) rfl ⟨?_, ?_⟩
    ·rw [HR.out, HE2.out]; rfl
    (repeat (first | (with_reducible first | exact Below.refl _ _ | assumption | refine Below.drew ?_) | ((with_reducible first | refine Below.alloc ?_ ?_ _ | refine Below.setCell ?_ ?_ _); rotate_left; (first | omega | (simp <;> omega)))))
  ·rw [fitM_f hf]
   have HR := hide (fitR_not (scale_out hf))
   have HE2 := hide (fitE_not (scale_out hf))
   clear hf
   go_wp2_with fail
   refine (rjoin_any _ _ (mod128_in _) _).mono ?_
   rintro e w3 ⟨rfl, hb⟩
   have q1B : Below w.heap.size w w3 := qB hb
   have q1z := hb.size
   try simp at q1z
   have q1t : w.heap.size ≤ w3.heap.size := (by omega)
   obtain ⟨q1s0, q1n0_0, q1n0_1, q1n0_2⟩ := kB w3.heap.size (w.heap.size + 1)
   obtain ⟨q1c0_0, q1c0_1, q1f0⟩ := kC2 hb (w.heap.size + 1)
   simp [go_sem, *] at q1c0_0 q1c0_1 q1f0
   have q1o := belO q1B
   clear hb
   go_wp2_with fail
   refine bodyPost_ret (by simp [results, Tryz.results62, go_sem, *] <;> rfl) rfl ⟨?_, ?_⟩
   ·rw [HR.out, HE2.out]; rfl
   (repeat (first | (with_reducible first | exact Below.refl _ _ | assumption | refine Below.drew ?_) | ((with_reducible first | refine Below.alloc ?_ ?_ _ | refine Below.setCell ?_ ?_ _); rotate_left; (first | omega | (simp <;> omega)))))
/-- Mul of the reference. -/
theorem rmul_any (a b : Int) (a1 : -9223372036854775808 ≤ a) (a2 : a ≤ 9223372036854775807) (b1 : -9223372036854775808 ≤ b) (b2 : b ≤ 9223372036854775807) (w : World) :
  Calls Tryz.prog 34 #[.int .i64 a, .int .i64 b] w fun e w' =>
   e = .returned (.agg #[.int .i64 (hiW (a * b)), .int .u64 (loW (a * b))]) ∧ Below w.heap.size w w' := by
 have HF := hide (fitR_of (mul_win a1 a2 b1 b2))
 go_enter Tryz.func34, Tryz.ntmps34
 go_wp2_with fail
 refine (rof_any a a1 a2 _).mono ?_
 rintro e w1 ⟨rfl, hb⟩
 have q1B : Below w.heap.size w w1 := qB hb
 have q1z := hb.size
 try simp at q1z
 have q1t : w.heap.size ≤ w1.heap.size := (by omega)
 obtain ⟨q1s0, q1n0_0, q1n0_1, q1n0_2⟩ := kB w1.heap.size w.heap.size
 obtain ⟨q1c0_0, q1c0_1, q1f0⟩ := kC2 hb w.heap.size
 simp [go_sem, *] at q1c0_0 q1c0_1 q1f0
 have q1o := belO q1B
 clear hb
 go_wp2_with fail
 refine (rscale_any a b (int_win a1 a2) b1 b2 _).mono ?_
 rintro e w2 ⟨rfl, hb⟩
 rw [HF.out]
 have q2B : Below w.heap.size w w2 := qB hb
 have q2z := hb.size
 try simp at q2z
 have q2t : w.heap.size ≤ w2.heap.size := (by omega)
 obtain ⟨q2s0, q2n0_0, q2n0_1, q2n0_2⟩ := kB w2.heap.size w.heap.size
 obtain ⟨q2c0_0, q2c0_1, q2f0⟩ := kC2 hb w.heap.size
 simp [go_sem, *] at q2c0_0 q2c0_1 q2f0
 have q2o := belO q2B
 clear hb q1o q1f0 q1c0_1 q1c0_0 q1s0 q1z q1B
 go_wp2_with fail
 refine bodyPost_ret (by simp [results, Tryz.results34, go_sem, *] <;> rfl) rfl ⟨?_, ?_⟩
 ·rfl
 (repeat (first | (with_reducible first | exact Below.refl _ _ | assumption | refine Below.drew ?_) | ((with_reducible first | refine Below.alloc ?_ ?_ _ | refine Below.setCell ?_ ?_ _); rotate_left; (first | omega | (simp <;> omega)))))
end Go.Proofs.YtdjlaiilngechaaGreatDoor
