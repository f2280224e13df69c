/- Texts laid together: Rc Re. -/
import Derived.Test.YtdjlaiilngechaaGreatDoorVRa
import Derived.Test.YtdjlaiilngechaaGreatDoorVWc
import Derived.Deep.DeepCutAuto
import Derived.Test.YtdjlaiilngechaaGreatDoorVK0
namespace Go.Proofs.YtdjlaiilngechaaGreatDoor
set_option maxRecDepth 4000
set_option linter.unusedSimpArgs false
set_option linter.unusedVariables false
open Go.RowKit
theorem and_top_hi (n : Int) (h : 9223372036854775808 ≤ n) (h' : n < 18446744073709551616) : bits .and .u64 n 9223372036854775808 = 9223372036854775808 := by
  obtain ⟨n, rfl⟩ := Int.eq_ofNat_of_zero_le (show 0 ≤ n by omega)
  rw [show (9223372036854775808 : Int) = ((9223372036854775808 : Nat) : Int) from rfl, bits_and_u64_nat n _ (by omega) (by omega)]
  have : n &&& 2 ^ 63 = n / 2 ^ 63 % 2 * 2 ^ 63 := nat_bit 63 n
  rw [show (9223372036854775808 : Nat) = 2 ^ 63 from by decide, this, show n / 2 ^ 63 = 1 from by omega]
theorem and_top_lo (n : Int) (h : 0 ≤ n) (h' : n < 9223372036854775808) : bits .and .u64 n 9223372036854775808 = 0 := by
  obtain ⟨n, rfl⟩ := Int.eq_ofNat_of_zero_le h
  rw [show (9223372036854775808 : Int) = ((9223372036854775808 : Nat) : Int) from rfl, bits_and_u64_nat n _ (by omega) (by omega)]
  have : n &&& 2 ^ 63 = n / 2 ^ 63 % 2 * 2 ^ 63 := nat_bit 63 n
  rw [show (9223372036854775808 : Nat) = 2 ^ 63 from by decide, this, show n / 2 ^ 63 = 0 from by omega]
  rfl

/-- The products of a round of times: their values and whether they fit. -/
theorem times_math {m q : Int} (hm : MIn m) (q1 : 0 ≤ q) :
    mod128 (mod128 (m * q) + mod128 (m * q)) = mod128 (m * (2 * q)) ∧ mod128 (mod128 (m * (2 * q)) + m) = mod128 (m * (2 * q + 1)) ∧
    (m * q < 340282366920938463463374607431768211456 → (mod128 (m * q) + mod128 (m * q) < 340282366920938463463374607431768211456 ↔ m * (2 * q) < 340282366920938463463374607431768211456)) ∧
    (m * (2 * q) < 340282366920938463463374607431768211456 → (mod128 (m * (2 * q)) + m < 340282366920938463463374607431768211456 ↔ m * (2 * q + 1) < 340282366920938463463374607431768211456)) ∧
    (m * (2 * q + 1) < 340282366920938463463374607431768211456 → m * (2 * q) < 340282366920938463463374607431768211456) ∧
    (m * (2 * q) < 340282366920938463463374607431768211456 → m * q < 340282366920938463463374607431768211456) := by
  have e : m * (2 * q + 1) = 2 * (m * q) + m := by rw [Int.mul_add, Int.mul_one, Int.mul_left_comm]
  have e2 : m * (2 * q) = 2 * (m * q) := Int.mul_left_comm _ _ _
  have h0 : 0 ≤ m * q := Int.mul_nonneg hm.1 q1
  rw [e, e2]
  have := hm.1
  have := hm.2
  unfold mod128
  generalize m * q = p at *
  refine ⟨by omega, by omega, by omega, by omega, by omega, by omega⟩
/-- After k rounds of times: the world w at the call, the magnitude m, the factor n. -/
def TimesInv (m n : Int) (w : World) (v1 v7 v8 : Value) (wr : World) : Prop :=
  ∃ (k : Nat) (q nk : Int), k ≤ 64 ∧ v8 = .int .i64 k ∧ v1 = .int .u64 nk ∧ 0 ≤ nk ∧ nk < 18446744073709551616 ∧ 0 ≤ q ∧ n * 2 ^ k = q * 18446744073709551616 + nk ∧ v7 = .bool (fitM (m * q)) ∧
    Below w.heap.size w wr ∧ w.heap.size + 2 < wr.heap.size ∧
    (wr.cell? ⟨w.heap.size, 0, none⟩ = some (.int .u64 (hiW m)) ∧ wr.cell? ⟨w.heap.size, 1, none⟩ = some (.int .u64 (loW m)) ∧ ∀ o, wr.frozen? ⟨w.heap.size, o, none⟩ = false) ∧
    (wr.cell? ⟨w.heap.size + 1, 0, none⟩ = some (.int .u64 0) ∧ wr.cell? ⟨w.heap.size + 1, 1, none⟩ = some (.int .u64 0) ∧ ∀ o, wr.frozen? ⟨w.heap.size + 1, o, none⟩ = false) ∧
    (wr.cell? ⟨w.heap.size + 2, 0, none⟩ = some (.int .u64 (hiW (mod128 (m * q)))) ∧ wr.cell? ⟨w.heap.size + 2, 1, none⟩ = some (.int .u64 (loW (mod128 (m * q)))) ∧ ∀ o, wr.frozen? ⟨w.heap.size + 2, o, none⟩ = false)
set_option maxHeartbeats 1000000 in
theorem rtimes_any (m n : Int) (hm : MIn m) (n1 : 0 ≤ n) (n2 : n < 18446744073709551616) (w : World) :
    Calls Tryz.prog 100 #[.agg #[.int .u64 (hiW m), .int .u64 (loW m)], .int .u64 n] w fun e w' =>
      e = .returned (.tuple #[.agg #[.int .u64 (hiW (mod128 (m * n))), .int .u64 (loW (mod128 (m * n)))], .bool (fitM (m * n))]) ∧ Below w.heap.size w w' := by
  obtain ⟨a1, a2⟩ := hi_mbd hm; obtain ⟨c1, c2⟩ := lo_bd m
  go_enter Tryz.func100, Tryz.ntmps100
  go_wp2_with fail
  go_loopw [1, 7, 8] (fun v1 v7 v8 wr => TimesInv m n w v1 v7 v8 wr) (fun _ _ v8 _ => 64 - (intOf v8).toNat)
  case atStart =>
    refine ⟨0, 0, n, by omega, rfl, rfl, n1, n2, by omega, by omega, ?_, ?_, ?_, ?_, ?_, ?_⟩
    · rw [Int.mul_zero]; rfl
    · (repeat (first | (with_reducible first | exact Below.refl _ _ | assumption | refine Below.drew ?_) | ((with_reducible first | refine Below.alloc ?_ ?_ _ | refine Below.setCell ?_ ?_ _); rotate_left; (first | omega | (simp <;> omega)))))
    · simp
    · exact ⟨by simp [go_sem], by simp [go_sem], by simp [go_sem]⟩
    · exact ⟨by simp [go_sem], by simp [go_sem], by simp [go_sem]⟩
    · rw [Int.mul_zero]
      exact ⟨by simp [go_sem, mod128, hiW], by simp [go_sem, mod128, loW], by simp [go_sem]⟩
  case round =>
    obtain ⟨k, q, nk, hk, rfl, rfl, k1, k2, q1, HE, rfl, hB, hz, ⟨ca0, ca1, caf⟩, ⟨cb0, cb1, cbf⟩, ⟨cc0, cc1, ccf⟩⟩ := hrel
    have HE := hide HE
    have hz0 : w.heap.size < wr.heap.size := by omega
    have hz1 : w.heap.size + 1 < wr.heap.size := by omega
    have MM := mod128_in (m * q)
    have HT := hide (times_math hm q1)
    by_cases hlt : k < 64
    · by_cases hbit : 9223372036854775808 ≤ nk
      · have et := and_top_hi nk hbit k2
        by_cases hq : m * q < 340282366920938463463374607431768211456
        · by_cases h2 : m * (2 * q) < 340282366920938463463374607431768211456
          · by_cases h3 : m * (2 * q + 1) < 340282366920938463463374607431768211456
            · skip
              have HF := hide (fitM_t hq)
              have HF1 := hide (fitM_t ((HT.out.2.2.1 hq).2 h2))
              have HF2 := hide (fitM_t ((HT.out.2.2.2.1 h2).2 h3))
              have HN := hide (fitM_t h3)
              clear hq h2 h3
              rw [HF.out]
              go_wp2_with fail
              refine (rplus_any _ _ MM MM _).mono ?_
              rintro e w1 ⟨rfl, hb⟩
              rw [HF1.out, HT.out.1]
              have q1B : Below w.heap.size w w1 := qB hb
              have q1z := hb.size
              try simp at q1z
              have q1t : w.heap.size ≤ w1.heap.size := (by omega)
              have q1s0 : w.heap.size < w1.heap.size := (by omega)
              have q1n0_0 : ¬ w1.heap.size = w.heap.size := (by omega)
              have q1n0_1 : ¬ w1.heap.size + 1 = w.heap.size := (by omega)
              have q1n0_2 : ¬ w1.heap.size + 2 = w.heap.size := (by omega)
              have q1c0_0 := cel hb w.heap.size 0
              simp [go_sem, *] at q1c0_0
              have q1c0_1 := cel hb w.heap.size 1
              simp [go_sem, *] at q1c0_1
              have q1f0 := fun o => fro hb w.heap.size o
              simp [go_sem, *] at q1f0
              have q1s1 : w.heap.size + 1 < w1.heap.size := (by omega)
              have q1n1_0 : ¬ w1.heap.size = w.heap.size + 1 := (by omega)
              have q1n1_1 : ¬ w1.heap.size + 1 = w.heap.size + 1 := (by omega)
              have q1n1_2 : ¬ w1.heap.size + 2 = w.heap.size + 1 := (by omega)
              have q1c1_0 := cel hb (w.heap.size + 1) 0
              simp [go_sem, *] at q1c1_0
              have q1c1_1 := cel hb (w.heap.size + 1) 1
              simp [go_sem, *] at q1c1_1
              have q1f1 := fun o => fro hb (w.heap.size + 1) o
              simp [go_sem, *] at q1f1
              have q1s2 : w.heap.size + 2 < w1.heap.size := (by omega)
              have q1n2_0 : ¬ w1.heap.size = w.heap.size + 2 := (by omega)
              have q1n2_1 : ¬ w1.heap.size + 1 = w.heap.size + 2 := (by omega)
              have q1n2_2 : ¬ w1.heap.size + 2 = w.heap.size + 2 := (by omega)
              have q1c2_0 := cel hb (w.heap.size + 2) 0
              simp [go_sem, *] at q1c2_0
              have q1c2_1 := cel hb (w.heap.size + 2) 1
              simp [go_sem, *] at q1c2_1
              have q1f2 := fun o => fro hb (w.heap.size + 2) o
              simp [go_sem, *] at q1f2
              have q1o := belO q1B
              clear hb
              go_wp2_with fail
              refine (rplus_any _ _ (mod128_in _) hm _).mono ?_
              rintro e w2 ⟨rfl, hb⟩
              rw [HF2.out, HT.out.2.1]
              have q2B : Below w.heap.size w w2 := qB hb
              have q2z := hb.size
              try simp at q2z
              have q2t : w.heap.size ≤ w2.heap.size := (by omega)
              have q2s0 : w.heap.size < w2.heap.size := (by omega)
              have q2n0_0 : ¬ w2.heap.size = w.heap.size := (by omega)
              have q2n0_1 : ¬ w2.heap.size + 1 = w.heap.size := (by omega)
              have q2n0_2 : ¬ w2.heap.size + 2 = w.heap.size := (by omega)
              have q2c0_0 := cel hb w.heap.size 0
              simp [go_sem, *] at q2c0_0
              have q2c0_1 := cel hb w.heap.size 1
              simp [go_sem, *] at q2c0_1
              have q2f0 := fun o => fro hb w.heap.size o
              simp [go_sem, *] at q2f0
              have q2s1 : w.heap.size + 1 < w2.heap.size := (by omega)
              have q2n1_0 : ¬ w2.heap.size = w.heap.size + 1 := (by omega)
              have q2n1_1 : ¬ w2.heap.size + 1 = w.heap.size + 1 := (by omega)
              have q2n1_2 : ¬ w2.heap.size + 2 = w.heap.size + 1 := (by omega)
              have q2c1_0 := cel hb (w.heap.size + 1) 0
              simp [go_sem, *] at q2c1_0
              have q2c1_1 := cel hb (w.heap.size + 1) 1
              simp [go_sem, *] at q2c1_1
              have q2f1 := fun o => fro hb (w.heap.size + 1) o
              simp [go_sem, *] at q2f1
              have q2s2 : w.heap.size + 2 < w2.heap.size := (by omega)
              have q2n2_0 : ¬ w2.heap.size = w.heap.size + 2 := (by omega)
              have q2n2_1 : ¬ w2.heap.size + 1 = w.heap.size + 2 := (by omega)
              have q2n2_2 : ¬ w2.heap.size + 2 = w.heap.size + 2 := (by omega)
              have q2c2_0 := cel hb (w.heap.size + 2) 0
              simp [go_sem, *] at q2c2_0
              have q2c2_1 := cel hb (w.heap.size + 2) 1
              simp [go_sem, *] at q2c2_1
              have q2f2 := fun o => fro hb (w.heap.size + 2) o
              simp [go_sem, *] at q2f2
              have q2s3 : w1.heap.size < w2.heap.size := (by omega)
              have q2n3_0 : ¬ w2.heap.size = w1.heap.size := (by omega)
              have q2n3_1 : ¬ w2.heap.size + 1 = w1.heap.size := (by omega)
              have q2n3_2 : ¬ w2.heap.size + 2 = w1.heap.size := (by omega)
              have q2c3_0 := cel hb w1.heap.size 0
              simp [go_sem, *] at q2c3_0
              have q2c3_1 := cel hb w1.heap.size 1
              simp [go_sem, *] at q2c3_1
              have q2f3 := fun o => fro hb w1.heap.size o
              simp [go_sem, *] at q2f3
              have q2o := belO q2B
              clear hb q1o q1f2 q1c2_1 q1c2_0 q1s2 q1f1 q1c1_1 q1c1_0 q1s1 q1f0 q1c0_1 q1c0_0 q1s0 q1z q1B
              go_wp2_with fail
              go_roundw
              case rel =>
                refine ⟨k + 1, 2 * q + 1, 2 * nk - 18446744073709551616, by omega, by go_num, congrArg (Value.int .u64) (by (try rw [wrapU]); omega), by omega, by omega, by omega, by rw [Int.pow_succ, ← Int.mul_assoc, HE.out]; omega, by rw [HN.out], ?_, ?_, ?_, ?_, ?_⟩
                · (repeat (first | (with_reducible first | exact Below.refl _ _ | assumption | refine Below.drew ?_) | ((with_reducible first | refine Below.alloc ?_ ?_ _ | refine Below.setCell ?_ ?_ _); rotate_left; (first | omega | (simp <;> omega)))))
                · simp; omega
                · exact ⟨by simp [go_sem, *], by simp [go_sem, *], by simp [go_sem, *]⟩
                · exact ⟨by simp [go_sem, *], by simp [go_sem, *], by simp [go_sem, *]⟩
                · exact ⟨by simp [go_sem, *], by simp [go_sem, *], by simp [go_sem, *]⟩
              case measure => simp [intOf]; omega
            · skip
              have HF := hide (fitM_t hq)
              have HF1 := hide (fitM_t ((HT.out.2.2.1 hq).2 h2))
              have HF2 := hide (fitM_f (fun hx => h3 ((HT.out.2.2.2.1 h2).1 hx)))
              have HN := hide (fitM_f h3)
              clear hq h2 h3
              rw [HF.out]
              go_wp2_with fail
              refine (rplus_any _ _ MM MM _).mono ?_
              rintro e w1 ⟨rfl, hb⟩
              rw [HF1.out, HT.out.1]
              have q1B : Below w.heap.size w w1 := qB hb
              have q1z := hb.size
              try simp at q1z
              have q1t : w.heap.size ≤ w1.heap.size := (by omega)
              have q1s0 : w.heap.size < w1.heap.size := (by omega)
              have q1n0_0 : ¬ w1.heap.size = w.heap.size := (by omega)
              have q1n0_1 : ¬ w1.heap.size + 1 = w.heap.size := (by omega)
              have q1n0_2 : ¬ w1.heap.size + 2 = w.heap.size := (by omega)
              have q1c0_0 := cel hb w.heap.size 0
              simp [go_sem, *] at q1c0_0
              have q1c0_1 := cel hb w.heap.size 1
              simp [go_sem, *] at q1c0_1
              have q1f0 := fun o => fro hb w.heap.size o
              simp [go_sem, *] at q1f0
              have q1s1 : w.heap.size + 1 < w1.heap.size := (by omega)
              have q1n1_0 : ¬ w1.heap.size = w.heap.size + 1 := (by omega)
              have q1n1_1 : ¬ w1.heap.size + 1 = w.heap.size + 1 := (by omega)
              have q1n1_2 : ¬ w1.heap.size + 2 = w.heap.size + 1 := (by omega)
              have q1c1_0 := cel hb (w.heap.size + 1) 0
              simp [go_sem, *] at q1c1_0
              have q1c1_1 := cel hb (w.heap.size + 1) 1
              simp [go_sem, *] at q1c1_1
              have q1f1 := fun o => fro hb (w.heap.size + 1) o
              simp [go_sem, *] at q1f1
              have q1s2 : w.heap.size + 2 < w1.heap.size := (by omega)
              have q1n2_0 : ¬ w1.heap.size = w.heap.size + 2 := (by omega)
              have q1n2_1 : ¬ w1.heap.size + 1 = w.heap.size + 2 := (by omega)
              have q1n2_2 : ¬ w1.heap.size + 2 = w.heap.size + 2 := (by omega)
              have q1c2_0 := cel hb (w.heap.size + 2) 0
              simp [go_sem, *] at q1c2_0
              have q1c2_1 := cel hb (w.heap.size + 2) 1
              simp [go_sem, *] at q1c2_1
              have q1f2 := fun o => fro hb (w.heap.size + 2) o
              simp [go_sem, *] at q1f2
              have q1o := belO q1B
              clear hb
              go_wp2_with fail
              refine (rplus_any _ _ (mod128_in _) hm _).mono ?_
              rintro e w2 ⟨rfl, hb⟩
              rw [HF2.out, HT.out.2.1]
              have q2B : Below w.heap.size w w2 := qB hb
              have q2z := hb.size
              try simp at q2z
              have q2t : w.heap.size ≤ w2.heap.size := (by omega)
              have q2s0 : w.heap.size < w2.heap.size := (by omega)
              have q2n0_0 : ¬ w2.heap.size = w.heap.size := (by omega)
              have q2n0_1 : ¬ w2.heap.size + 1 = w.heap.size := (by omega)
              have q2n0_2 : ¬ w2.heap.size + 2 = w.heap.size := (by omega)
              have q2c0_0 := cel hb w.heap.size 0
              simp [go_sem, *] at q2c0_0
              have q2c0_1 := cel hb w.heap.size 1
              simp [go_sem, *] at q2c0_1
              have q2f0 := fun o => fro hb w.heap.size o
              simp [go_sem, *] at q2f0
              have q2s1 : w.heap.size + 1 < w2.heap.size := (by omega)
              have q2n1_0 : ¬ w2.heap.size = w.heap.size + 1 := (by omega)
              have q2n1_1 : ¬ w2.heap.size + 1 = w.heap.size + 1 := (by omega)
              have q2n1_2 : ¬ w2.heap.size + 2 = w.heap.size + 1 := (by omega)
              have q2c1_0 := cel hb (w.heap.size + 1) 0
              simp [go_sem, *] at q2c1_0
              have q2c1_1 := cel hb (w.heap.size + 1) 1
              simp [go_sem, *] at q2c1_1
              have q2f1 := fun o => fro hb (w.heap.size + 1) o
              simp [go_sem, *] at q2f1
              have q2s2 : w.heap.size + 2 < w2.heap.size := (by omega)
              have q2n2_0 : ¬ w2.heap.size = w.heap.size + 2 := (by omega)
              have q2n2_1 : ¬ w2.heap.size + 1 = w.heap.size + 2 := (by omega)
              have q2n2_2 : ¬ w2.heap.size + 2 = w.heap.size + 2 := (by omega)
              have q2c2_0 := cel hb (w.heap.size + 2) 0
              simp [go_sem, *] at q2c2_0
              have q2c2_1 := cel hb (w.heap.size + 2) 1
              simp [go_sem, *] at q2c2_1
              have q2f2 := fun o => fro hb (w.heap.size + 2) o
              simp [go_sem, *] at q2f2
              have q2s3 : w1.heap.size < w2.heap.size := (by omega)
              have q2n3_0 : ¬ w2.heap.size = w1.heap.size := (by omega)
              have q2n3_1 : ¬ w2.heap.size + 1 = w1.heap.size := (by omega)
              have q2n3_2 : ¬ w2.heap.size + 2 = w1.heap.size := (by omega)
              have q2c3_0 := cel hb w1.heap.size 0
              simp [go_sem, *] at q2c3_0
              have q2c3_1 := cel hb w1.heap.size 1
              simp [go_sem, *] at q2c3_1
              have q2f3 := fun o => fro hb w1.heap.size o
              simp [go_sem, *] at q2f3
              have q2o := belO q2B
              clear hb q1o q1f2 q1c2_1 q1c2_0 q1s2 q1f1 q1c1_1 q1c1_0 q1s1 q1f0 q1c0_1 q1c0_0 q1s0 q1z q1B
              go_wp2_with fail
              go_roundw
              case rel =>
                refine ⟨k + 1, 2 * q + 1, 2 * nk - 18446744073709551616, by omega, by go_num, congrArg (Value.int .u64) (by (try rw [wrapU]); omega), by omega, by omega, by omega, by rw [Int.pow_succ, ← Int.mul_assoc, HE.out]; omega, by rw [HN.out], ?_, ?_, ?_, ?_, ?_⟩
                · (repeat (first | (with_reducible first | exact Below.refl _ _ | assumption | refine Below.drew ?_) | ((with_reducible first | refine Below.alloc ?_ ?_ _ | refine Below.setCell ?_ ?_ _); rotate_left; (first | omega | (simp <;> omega)))))
                · simp; omega
                · exact ⟨by simp [go_sem, *], by simp [go_sem, *], by simp [go_sem, *]⟩
                · exact ⟨by simp [go_sem, *], by simp [go_sem, *], by simp [go_sem, *]⟩
                · exact ⟨by simp [go_sem, *], by simp [go_sem, *], by simp [go_sem, *]⟩
              case measure => simp [intOf]; omega
          · have h3 : ¬ m * (2 * q + 1) < 340282366920938463463374607431768211456 := fun hx => h2 (HT.out.2.2.2.2.1 hx)
            have HF := hide (fitM_t hq)
            have HF1 := hide (fitM_f (fun hx => h2 ((HT.out.2.2.1 hq).1 hx)))
            have HN := hide (fitM_f h3)
            clear hq h2 h3
            rw [HF.out]
            go_wp2_with fail
            refine (rplus_any _ _ MM MM _).mono ?_
            rintro e w1 ⟨rfl, hb⟩
            rw [HF1.out, HT.out.1]
            have q1B : Below w.heap.size w w1 := qB hb
            have q1z := hb.size
            try simp at q1z
            have q1t : w.heap.size ≤ w1.heap.size := (by omega)
            have q1s0 : w.heap.size < w1.heap.size := (by omega)
            have q1n0_0 : ¬ w1.heap.size = w.heap.size := (by omega)
            have q1n0_1 : ¬ w1.heap.size + 1 = w.heap.size := (by omega)
            have q1n0_2 : ¬ w1.heap.size + 2 = w.heap.size := (by omega)
            have q1c0_0 := cel hb w.heap.size 0
            simp [go_sem, *] at q1c0_0
            have q1c0_1 := cel hb w.heap.size 1
            simp [go_sem, *] at q1c0_1
            have q1f0 := fun o => fro hb w.heap.size o
            simp [go_sem, *] at q1f0
            have q1s1 : w.heap.size + 1 < w1.heap.size := (by omega)
            have q1n1_0 : ¬ w1.heap.size = w.heap.size + 1 := (by omega)
            have q1n1_1 : ¬ w1.heap.size + 1 = w.heap.size + 1 := (by omega)
            have q1n1_2 : ¬ w1.heap.size + 2 = w.heap.size + 1 := (by omega)
            have q1c1_0 := cel hb (w.heap.size + 1) 0
            simp [go_sem, *] at q1c1_0
            have q1c1_1 := cel hb (w.heap.size + 1) 1
            simp [go_sem, *] at q1c1_1
            have q1f1 := fun o => fro hb (w.heap.size + 1) o
            simp [go_sem, *] at q1f1
            have q1s2 : w.heap.size + 2 < w1.heap.size := (by omega)
            have q1n2_0 : ¬ w1.heap.size = w.heap.size + 2 := (by omega)
            have q1n2_1 : ¬ w1.heap.size + 1 = w.heap.size + 2 := (by omega)
            have q1n2_2 : ¬ w1.heap.size + 2 = w.heap.size + 2 := (by omega)
            have q1c2_0 := cel hb (w.heap.size + 2) 0
            simp [go_sem, *] at q1c2_0
            have q1c2_1 := cel hb (w.heap.size + 2) 1
            simp [go_sem, *] at q1c2_1
            have q1f2 := fun o => fro hb (w.heap.size + 2) o
            simp [go_sem, *] at q1f2
            have q1o := belO q1B
            clear hb
            go_wp2_with fail
            refine (rplus_any _ _ (mod128_in _) hm _).mono ?_
            rintro e w2 ⟨rfl, hb⟩
            rw [HT.out.2.1]
            have q2B : Below w.heap.size w w2 := qB hb
            have q2z := hb.size
            try simp at q2z
            have q2t : w.heap.size ≤ w2.heap.size := (by omega)
            have q2s0 : w.heap.size < w2.heap.size := (by omega)
            have q2n0_0 : ¬ w2.heap.size = w.heap.size := (by omega)
            have q2n0_1 : ¬ w2.heap.size + 1 = w.heap.size := (by omega)
            have q2n0_2 : ¬ w2.heap.size + 2 = w.heap.size := (by omega)
            have q2c0_0 := cel hb w.heap.size 0
            simp [go_sem, *] at q2c0_0
            have q2c0_1 := cel hb w.heap.size 1
            simp [go_sem, *] at q2c0_1
            have q2f0 := fun o => fro hb w.heap.size o
            simp [go_sem, *] at q2f0
            have q2s1 : w.heap.size + 1 < w2.heap.size := (by omega)
            have q2n1_0 : ¬ w2.heap.size = w.heap.size + 1 := (by omega)
            have q2n1_1 : ¬ w2.heap.size + 1 = w.heap.size + 1 := (by omega)
            have q2n1_2 : ¬ w2.heap.size + 2 = w.heap.size + 1 := (by omega)
            have q2c1_0 := cel hb (w.heap.size + 1) 0
            simp [go_sem, *] at q2c1_0
            have q2c1_1 := cel hb (w.heap.size + 1) 1
            simp [go_sem, *] at q2c1_1
            have q2f1 := fun o => fro hb (w.heap.size + 1) o
            simp [go_sem, *] at q2f1
            have q2s2 : w.heap.size + 2 < w2.heap.size := (by omega)
            have q2n2_0 : ¬ w2.heap.size = w.heap.size + 2 := (by omega)
            have q2n2_1 : ¬ w2.heap.size + 1 = w.heap.size + 2 := (by omega)
            have q2n2_2 : ¬ w2.heap.size + 2 = w.heap.size + 2 := (by omega)
            have q2c2_0 := cel hb (w.heap.size + 2) 0
            simp [go_sem, *] at q2c2_0
            have q2c2_1 := cel hb (w.heap.size + 2) 1
            simp [go_sem, *] at q2c2_1
            have q2f2 := fun o => fro hb (w.heap.size + 2) o
            simp [go_sem, *] at q2f2
            have q2s3 : w1.heap.size < w2.heap.size := (by omega)
            have q2n3_0 : ¬ w2.heap.size = w1.heap.size := (by omega)
            have q2n3_1 : ¬ w2.heap.size + 1 = w1.heap.size := (by omega)
            have q2n3_2 : ¬ w2.heap.size + 2 = w1.heap.size := (by omega)
            have q2c3_0 := cel hb w1.heap.size 0
            simp [go_sem, *] at q2c3_0
            have q2c3_1 := cel hb w1.heap.size 1
            simp [go_sem, *] at q2c3_1
            have q2f3 := fun o => fro hb w1.heap.size o
            simp [go_sem, *] at q2f3
            have q2o := belO q2B
            clear hb q1o q1f2 q1c2_1 q1c2_0 q1s2 q1f1 q1c1_1 q1c1_0 q1s1 q1f0 q1c0_1 q1c0_0 q1s0 q1z q1B
            go_wp2_with fail
            go_roundw
            case rel =>
              refine ⟨k + 1, 2 * q + 1, 2 * nk - 18446744073709551616, by omega, by go_num, congrArg (Value.int .u64) (by (try rw [wrapU]); omega), by omega, by omega, by omega, by rw [Int.pow_succ, ← Int.mul_assoc, HE.out]; omega, by rw [HN.out], ?_, ?_, ?_, ?_, ?_⟩
              · (repeat (first | (with_reducible first | exact Below.refl _ _ | assumption | refine Below.drew ?_) | ((with_reducible first | refine Below.alloc ?_ ?_ _ | refine Below.setCell ?_ ?_ _); rotate_left; (first | omega | (simp <;> omega)))))
              · simp; omega
              · exact ⟨by simp [go_sem, *], by simp [go_sem, *], by simp [go_sem, *]⟩
              · exact ⟨by simp [go_sem, *], by simp [go_sem, *], by simp [go_sem, *]⟩
              · exact ⟨by simp [go_sem, *], by simp [go_sem, *], by simp [go_sem, *]⟩
            case measure => simp [intOf]; omega
        · have h2 : ¬ m * (2 * q) < 340282366920938463463374607431768211456 := fun hx => hq (HT.out.2.2.2.2.2 hx)
          have h3 : ¬ m * (2 * q + 1) < 340282366920938463463374607431768211456 := fun hx => h2 (HT.out.2.2.2.2.1 hx)
          have HF := hide (fitM_f hq)
          have HN := hide (fitM_f h3)
          clear hq h2 h3
          rw [HF.out]
          go_wp2_with fail
          refine (rplus_any _ _ MM MM _).mono ?_
          rintro e w1 ⟨rfl, hb⟩
          rw [HT.out.1]
          have q1B : Below w.heap.size w w1 := qB hb
          have q1z := hb.size
          try simp at q1z
          have q1t : w.heap.size ≤ w1.heap.size := (by omega)
          have q1s0 : w.heap.size < w1.heap.size := (by omega)
          have q1n0_0 : ¬ w1.heap.size = w.heap.size := (by omega)
          have q1n0_1 : ¬ w1.heap.size + 1 = w.heap.size := (by omega)
          have q1n0_2 : ¬ w1.heap.size + 2 = w.heap.size := (by omega)
          have q1c0_0 := cel hb w.heap.size 0
          simp [go_sem, *] at q1c0_0
          have q1c0_1 := cel hb w.heap.size 1
          simp [go_sem, *] at q1c0_1
          have q1f0 := fun o => fro hb w.heap.size o
          simp [go_sem, *] at q1f0
          have q1s1 : w.heap.size + 1 < w1.heap.size := (by omega)
          have q1n1_0 : ¬ w1.heap.size = w.heap.size + 1 := (by omega)
          have q1n1_1 : ¬ w1.heap.size + 1 = w.heap.size + 1 := (by omega)
          have q1n1_2 : ¬ w1.heap.size + 2 = w.heap.size + 1 := (by omega)
          have q1c1_0 := cel hb (w.heap.size + 1) 0
          simp [go_sem, *] at q1c1_0
          have q1c1_1 := cel hb (w.heap.size + 1) 1
          simp [go_sem, *] at q1c1_1
          have q1f1 := fun o => fro hb (w.heap.size + 1) o
          simp [go_sem, *] at q1f1
          have q1s2 : w.heap.size + 2 < w1.heap.size := (by omega)
          have q1n2_0 : ¬ w1.heap.size = w.heap.size + 2 := (by omega)
          have q1n2_1 : ¬ w1.heap.size + 1 = w.heap.size + 2 := (by omega)
          have q1n2_2 : ¬ w1.heap.size + 2 = w.heap.size + 2 := (by omega)
          have q1c2_0 := cel hb (w.heap.size + 2) 0
          simp [go_sem, *] at q1c2_0
          have q1c2_1 := cel hb (w.heap.size + 2) 1
          simp [go_sem, *] at q1c2_1
          have q1f2 := fun o => fro hb (w.heap.size + 2) o
          simp [go_sem, *] at q1f2
          have q1o := belO q1B
          clear hb
          go_wp2_with fail
          refine (rplus_any _ _ (mod128_in _) hm _).mono ?_
          rintro e w2 ⟨rfl, hb⟩
          rw [HT.out.2.1]
          have q2B : Below w.heap.size w w2 := qB hb
          have q2z := hb.size
          try simp at q2z
          have q2t : w.heap.size ≤ w2.heap.size := (by omega)
          have q2s0 : w.heap.size < w2.heap.size := (by omega)
          have q2n0_0 : ¬ w2.heap.size = w.heap.size := (by omega)
          have q2n0_1 : ¬ w2.heap.size + 1 = w.heap.size := (by omega)
          have q2n0_2 : ¬ w2.heap.size + 2 = w.heap.size := (by omega)
          have q2c0_0 := cel hb w.heap.size 0
          simp [go_sem, *] at q2c0_0
          have q2c0_1 := cel hb w.heap.size 1
          simp [go_sem, *] at q2c0_1
          have q2f0 := fun o => fro hb w.heap.size o
          simp [go_sem, *] at q2f0
          have q2s1 : w.heap.size + 1 < w2.heap.size := (by omega)
          have q2n1_0 : ¬ w2.heap.size = w.heap.size + 1 := (by omega)
          have q2n1_1 : ¬ w2.heap.size + 1 = w.heap.size + 1 := (by omega)
          have q2n1_2 : ¬ w2.heap.size + 2 = w.heap.size + 1 := (by omega)
          have q2c1_0 := cel hb (w.heap.size + 1) 0
          simp [go_sem, *] at q2c1_0
          have q2c1_1 := cel hb (w.heap.size + 1) 1
          simp [go_sem, *] at q2c1_1
          have q2f1 := fun o => fro hb (w.heap.size + 1) o
          simp [go_sem, *] at q2f1
          have q2s2 : w.heap.size + 2 < w2.heap.size := (by omega)
          have q2n2_0 : ¬ w2.heap.size = w.heap.size + 2 := (by omega)
          have q2n2_1 : ¬ w2.heap.size + 1 = w.heap.size + 2 := (by omega)
          have q2n2_2 : ¬ w2.heap.size + 2 = w.heap.size + 2 := (by omega)
          have q2c2_0 := cel hb (w.heap.size + 2) 0
          simp [go_sem, *] at q2c2_0
          have q2c2_1 := cel hb (w.heap.size + 2) 1
          simp [go_sem, *] at q2c2_1
          have q2f2 := fun o => fro hb (w.heap.size + 2) o
          simp [go_sem, *] at q2f2
          have q2s3 : w1.heap.size < w2.heap.size := (by omega)
          have q2n3_0 : ¬ w2.heap.size = w1.heap.size := (by omega)
          have q2n3_1 : ¬ w2.heap.size + 1 = w1.heap.size := (by omega)
          have q2n3_2 : ¬ w2.heap.size + 2 = w1.heap.size := (by omega)
          have q2c3_0 := cel hb w1.heap.size 0
          simp [go_sem, *] at q2c3_0
          have q2c3_1 := cel hb w1.heap.size 1
          simp [go_sem, *] at q2c3_1
          have q2f3 := fun o => fro hb w1.heap.size o
          simp [go_sem, *] at q2f3
          have q2o := belO q2B
          clear hb q1o q1f2 q1c2_1 q1c2_0 q1s2 q1f1 q1c1_1 q1c1_0 q1s1 q1f0 q1c0_1 q1c0_0 q1s0 q1z q1B
          go_wp2_with fail
          go_roundw
          case rel =>
            refine ⟨k + 1, 2 * q + 1, 2 * nk - 18446744073709551616, by omega, by go_num, congrArg (Value.int .u64) (by (try rw [wrapU]); omega), by omega, by omega, by omega, by rw [Int.pow_succ, ← Int.mul_assoc, HE.out]; omega, by rw [HN.out], ?_, ?_, ?_, ?_, ?_⟩
            · (repeat (first | (with_reducible first | exact Below.refl _ _ | assumption | refine Below.drew ?_) | ((with_reducible first | refine Below.alloc ?_ ?_ _ | refine Below.setCell ?_ ?_ _); rotate_left; (first | omega | (simp <;> omega)))))
            · simp; omega
            · exact ⟨by simp [go_sem, *], by simp [go_sem, *], by simp [go_sem, *]⟩
            · exact ⟨by simp [go_sem, *], by simp [go_sem, *], by simp [go_sem, *]⟩
            · exact ⟨by simp [go_sem, *], by simp [go_sem, *], by simp [go_sem, *]⟩
          case measure => simp [intOf]; omega
      · have hbit' : nk < 9223372036854775808 := by omega
        have et := and_top_lo nk k1 hbit'
        clear hbit
        by_cases hq : m * q < 340282366920938463463374607431768211456
        · by_cases h2 : m * (2 * q) < 340282366920938463463374607431768211456
          · skip
            have HF := hide (fitM_t hq)
            have HF1 := hide (fitM_t ((HT.out.2.2.1 hq).2 h2))
            have HN := hide (fitM_t h2)
            clear hq h2
            rw [HF.out]
            go_wp2_with fail
            refine (rplus_any _ _ MM MM _).mono ?_
            rintro e w1 ⟨rfl, hb⟩
            rw [HF1.out, HT.out.1]
            have q1B : Below w.heap.size w w1 := qB hb
            have q1z := hb.size
            try simp at q1z
            have q1t : w.heap.size ≤ w1.heap.size := (by omega)
            have q1s0 : w.heap.size < w1.heap.size := (by omega)
            have q1n0_0 : ¬ w1.heap.size = w.heap.size := (by omega)
            have q1n0_1 : ¬ w1.heap.size + 1 = w.heap.size := (by omega)
            have q1n0_2 : ¬ w1.heap.size + 2 = w.heap.size := (by omega)
            have q1c0_0 := cel hb w.heap.size 0
            simp [go_sem, *] at q1c0_0
            have q1c0_1 := cel hb w.heap.size 1
            simp [go_sem, *] at q1c0_1
            have q1f0 := fun o => fro hb w.heap.size o
            simp [go_sem, *] at q1f0
            have q1s1 : w.heap.size + 1 < w1.heap.size := (by omega)
            have q1n1_0 : ¬ w1.heap.size = w.heap.size + 1 := (by omega)
            have q1n1_1 : ¬ w1.heap.size + 1 = w.heap.size + 1 := (by omega)
            have q1n1_2 : ¬ w1.heap.size + 2 = w.heap.size + 1 := (by omega)
            have q1c1_0 := cel hb (w.heap.size + 1) 0
            simp [go_sem, *] at q1c1_0
            have q1c1_1 := cel hb (w.heap.size + 1) 1
            simp [go_sem, *] at q1c1_1
            have q1f1 := fun o => fro hb (w.heap.size + 1) o
            simp [go_sem, *] at q1f1
            have q1s2 : w.heap.size + 2 < w1.heap.size := (by omega)
            have q1n2_0 : ¬ w1.heap.size = w.heap.size + 2 := (by omega)
            have q1n2_1 : ¬ w1.heap.size + 1 = w.heap.size + 2 := (by omega)
            have q1n2_2 : ¬ w1.heap.size + 2 = w.heap.size + 2 := (by omega)
            have q1c2_0 := cel hb (w.heap.size + 2) 0
            simp [go_sem, *] at q1c2_0
            have q1c2_1 := cel hb (w.heap.size + 2) 1
            simp [go_sem, *] at q1c2_1
            have q1f2 := fun o => fro hb (w.heap.size + 2) o
            simp [go_sem, *] at q1f2
            have q1o := belO q1B
            clear hb
            go_wp2_with fail
            go_roundw
            case rel =>
              refine ⟨k + 1, 2 * q, 2 * nk, by omega, by go_num, congrArg (Value.int .u64) (by (try rw [wrapU]); omega), by omega, by omega, by omega, by rw [Int.pow_succ, ← Int.mul_assoc, HE.out]; omega, by rw [HN.out], ?_, ?_, ?_, ?_, ?_⟩
              · (repeat (first | (with_reducible first | exact Below.refl _ _ | assumption | refine Below.drew ?_) | ((with_reducible first | refine Below.alloc ?_ ?_ _ | refine Below.setCell ?_ ?_ _); rotate_left; (first | omega | (simp <;> omega)))))
              · simp; omega
              · exact ⟨by simp [go_sem, *], by simp [go_sem, *], by simp [go_sem, *]⟩
              · exact ⟨by simp [go_sem, *], by simp [go_sem, *], by simp [go_sem, *]⟩
              · exact ⟨by simp [go_sem, *], by simp [go_sem, *], by simp [go_sem, *]⟩
            case measure => simp [intOf]; omega
          · skip
            have HF := hide (fitM_t hq)
            have HF1 := hide (fitM_f (fun hx => h2 ((HT.out.2.2.1 hq).1 hx)))
            have HN := hide (fitM_f h2)
            clear hq h2
            rw [HF.out]
            go_wp2_with fail
            refine (rplus_any _ _ MM MM _).mono ?_
            rintro e w1 ⟨rfl, hb⟩
            rw [HF1.out, HT.out.1]
            have q1B : Below w.heap.size w w1 := qB hb
            have q1z := hb.size
            try simp at q1z
            have q1t : w.heap.size ≤ w1.heap.size := (by omega)
            have q1s0 : w.heap.size < w1.heap.size := (by omega)
            have q1n0_0 : ¬ w1.heap.size = w.heap.size := (by omega)
            have q1n0_1 : ¬ w1.heap.size + 1 = w.heap.size := (by omega)
            have q1n0_2 : ¬ w1.heap.size + 2 = w.heap.size := (by omega)
            have q1c0_0 := cel hb w.heap.size 0
            simp [go_sem, *] at q1c0_0
            have q1c0_1 := cel hb w.heap.size 1
            simp [go_sem, *] at q1c0_1
            have q1f0 := fun o => fro hb w.heap.size o
            simp [go_sem, *] at q1f0
            have q1s1 : w.heap.size + 1 < w1.heap.size := (by omega)
            have q1n1_0 : ¬ w1.heap.size = w.heap.size + 1 := (by omega)
            have q1n1_1 : ¬ w1.heap.size + 1 = w.heap.size + 1 := (by omega)
            have q1n1_2 : ¬ w1.heap.size + 2 = w.heap.size + 1 := (by omega)
            have q1c1_0 := cel hb (w.heap.size + 1) 0
            simp [go_sem, *] at q1c1_0
            have q1c1_1 := cel hb (w.heap.size + 1) 1
            simp [go_sem, *] at q1c1_1
            have q1f1 := fun o => fro hb (w.heap.size + 1) o
            simp [go_sem, *] at q1f1
            have q1s2 : w.heap.size + 2 < w1.heap.size := (by omega)
            have q1n2_0 : ¬ w1.heap.size = w.heap.size + 2 := (by omega)
            have q1n2_1 : ¬ w1.heap.size + 1 = w.heap.size + 2 := (by omega)
            have q1n2_2 : ¬ w1.heap.size + 2 = w.heap.size + 2 := (by omega)
            have q1c2_0 := cel hb (w.heap.size + 2) 0
            simp [go_sem, *] at q1c2_0
            have q1c2_1 := cel hb (w.heap.size + 2) 1
            simp [go_sem, *] at q1c2_1
            have q1f2 := fun o => fro hb (w.heap.size + 2) o
            simp [go_sem, *] at q1f2
            have q1o := belO q1B
            clear hb
            go_wp2_with fail
            go_roundw
            case rel =>
              refine ⟨k + 1, 2 * q, 2 * nk, by omega, by go_num, congrArg (Value.int .u64) (by (try rw [wrapU]); omega), by omega, by omega, by omega, by rw [Int.pow_succ, ← Int.mul_assoc, HE.out]; omega, by rw [HN.out], ?_, ?_, ?_, ?_, ?_⟩
              · (repeat (first | (with_reducible first | exact Below.refl _ _ | assumption | refine Below.drew ?_) | ((with_reducible first | refine Below.alloc ?_ ?_ _ | refine Below.setCell ?_ ?_ _); rotate_left; (first | omega | (simp <;> omega)))))
              · simp; omega
              · exact ⟨by simp [go_sem, *], by simp [go_sem, *], by simp [go_sem, *]⟩
              · exact ⟨by simp [go_sem, *], by simp [go_sem, *], by simp [go_sem, *]⟩
              · exact ⟨by simp [go_sem, *], by simp [go_sem, *], by simp [go_sem, *]⟩
            case measure => simp [intOf]; omega
        · have h2 : ¬ m * (2 * q) < 340282366920938463463374607431768211456 := fun hx => hq (HT.out.2.2.2.2.2 hx)
          have HF := hide (fitM_f hq)
          have HN := hide (fitM_f h2)
          clear hq h2
          rw [HF.out]
          go_wp2_with fail
          refine (rplus_any _ _ MM MM _).mono ?_
          rintro e w1 ⟨rfl, hb⟩
          rw [HT.out.1]
          have q1B : Below w.heap.size w w1 := qB hb
          have q1z := hb.size
          try simp at q1z
          have q1t : w.heap.size ≤ w1.heap.size := (by omega)
          have q1s0 : w.heap.size < w1.heap.size := (by omega)
          have q1n0_0 : ¬ w1.heap.size = w.heap.size := (by omega)
          have q1n0_1 : ¬ w1.heap.size + 1 = w.heap.size := (by omega)
          have q1n0_2 : ¬ w1.heap.size + 2 = w.heap.size := (by omega)
          have q1c0_0 := cel hb w.heap.size 0
          simp [go_sem, *] at q1c0_0
          have q1c0_1 := cel hb w.heap.size 1
          simp [go_sem, *] at q1c0_1
          have q1f0 := fun o => fro hb w.heap.size o
          simp [go_sem, *] at q1f0
          have q1s1 : w.heap.size + 1 < w1.heap.size := (by omega)
          have q1n1_0 : ¬ w1.heap.size = w.heap.size + 1 := (by omega)
          have q1n1_1 : ¬ w1.heap.size + 1 = w.heap.size + 1 := (by omega)
          have q1n1_2 : ¬ w1.heap.size + 2 = w.heap.size + 1 := (by omega)
          have q1c1_0 := cel hb (w.heap.size + 1) 0
          simp [go_sem, *] at q1c1_0
          have q1c1_1 := cel hb (w.heap.size + 1) 1
          simp [go_sem, *] at q1c1_1
          have q1f1 := fun o => fro hb (w.heap.size + 1) o
          simp [go_sem, *] at q1f1
          have q1s2 : w.heap.size + 2 < w1.heap.size := (by omega)
          have q1n2_0 : ¬ w1.heap.size = w.heap.size + 2 := (by omega)
          have q1n2_1 : ¬ w1.heap.size + 1 = w.heap.size + 2 := (by omega)
          have q1n2_2 : ¬ w1.heap.size + 2 = w.heap.size + 2 := (by omega)
          have q1c2_0 := cel hb (w.heap.size + 2) 0
          simp [go_sem, *] at q1c2_0
          have q1c2_1 := cel hb (w.heap.size + 2) 1
          simp [go_sem, *] at q1c2_1
          have q1f2 := fun o => fro hb (w.heap.size + 2) o
          simp [go_sem, *] at q1f2
          have q1o := belO q1B
          clear hb
          go_wp2_with fail
          go_roundw
          case rel =>
            refine ⟨k + 1, 2 * q, 2 * nk, by omega, by go_num, congrArg (Value.int .u64) (by (try rw [wrapU]); omega), by omega, by omega, by omega, by rw [Int.pow_succ, ← Int.mul_assoc, HE.out]; omega, by rw [HN.out], ?_, ?_, ?_, ?_, ?_⟩
            · (repeat (first | (with_reducible first | exact Below.refl _ _ | assumption | refine Below.drew ?_) | ((with_reducible first | refine Below.alloc ?_ ?_ _ | refine Below.setCell ?_ ?_ _); rotate_left; (first | omega | (simp <;> omega)))))
            · simp; omega
            · exact ⟨by simp [go_sem, *], by simp [go_sem, *], by simp [go_sem, *]⟩
            · exact ⟨by simp [go_sem, *], by simp [go_sem, *], by simp [go_sem, *]⟩
            · exact ⟨by simp [go_sem, *], by simp [go_sem, *], by simp [go_sem, *]⟩
          case measure => simp [intOf]; omega
    · obtain rfl : k = 64 := by omega
      have hqn : q = n := by have := HE.out; omega
      subst hqn
      go_wp2_with fail
      refine bodyPost_ret (by simp [results, Tryz.results100, go_sem, *] <;> rfl) rfl ⟨?_, ?_⟩
      · rfl
      (repeat (first | (with_reducible first | exact Below.refl _ _ | assumption | refine Below.drew ?_) | ((with_reducible first | refine Below.alloc ?_ ?_ _ | refine Below.setCell ?_ ?_ _); rotate_left; (first | omega | (simp <;> omega)))))
end Go.Proofs.YtdjlaiilngechaaGreatDoor
namespace Go.Proofs.YtdjlaiilngechaaGreatDoor
set_option maxRecDepth 4000
set_option linter.unusedSimpArgs false
set_option linter.unusedVariables false
open Go.RowKit
theorem scale_sgn (x n : Int) : sgn (!(decide (x < 0) == decide (n < 0))) (absI x * absI n) = x * n := by
  have h := mul_sign x n
  by_cases hx : x < 0 <;> by_cases hn : n < 0
  · rw [h.1 (by omega)]; simp [sgn, hx, hn]
  · rw [h.2 (by omega)]; simp [sgn, hx, hn]
  · rw [h.2 (by omega)]; simp [sgn, hx, hn]
  · rw [h.1 (by omega)]; simp [sgn, hx, hn]
theorem mul_win {a b : Int} (a1 : -9223372036854775808 ≤ a) (a2 : a ≤ 9223372036854775807) (b1 : -9223372036854775808 ≤ b) (b2 : b ≤ 9223372036854775807) : WIn (a * b) := by
  have h := mul_small a1 a2 b1 b2
  have hs := mul_sign a b
  unfold WIn
  by_cases hh : (a < 0 ↔ b < 0)
  · rw [hs.1 hh]; omega
  · rw [hs.2 hh]; omega
def ScaleCut (x n : Int) (w : World) (v8 v9 : Value) (wx : World) : Prop :=
  ∃ g, v8 = .pointer (some ⟨g, 0, none⟩) ∧ v9 = .bool (fitM (absI x * absI n)) ∧ Below w.heap.size w wx ∧ w.heap.size + 1 < wx.heap.size ∧
    (wx.cell? ⟨g, 0, none⟩ = some (.int .u64 (hiW (mod128 (absI x * absI n)))) ∧ wx.cell? ⟨g, 1, none⟩ = some (.int .u64 (loW (mod128 (absI x * absI n))))) ∧ g < wx.heap.size ∧
    (wx.cell? ⟨w.heap.size + 1, 0, none⟩ = some (.int .i64 0) ∧ wx.cell? ⟨w.heap.size + 1, 1, none⟩ = some (.int .u64 0) ∧ ∀ o, wx.frozen? ⟨w.heap.size + 1, o, none⟩ = false)
set_option maxHeartbeats 1000000 in
theorem rscale_any (x n : Int) (hx : WIn x) (n1 : -9223372036854775808 ≤ n) (n2 : n ≤ 9223372036854775807) (w : World) :
    Calls Tryz.prog 62 #[.agg #[.int .i64 (hiW x), .int .u64 (loW x)], .int .i64 n] w fun e w' =>
      e = .returned (.tuple #[.agg #[.int .i64 (hiW (fitR (x * n))), .int .u64 (loW (fitR (x * n)))], .int .i64 (fitE (x * n))]) ∧ Below w.heap.size w w' := by
  have ha := absI_mbd n1 n2
  go_enter Tryz.func62, Tryz.ntmps62
  go_wp2_with fail
  refine (rsplit_any x hx _).mono ?_
  rintro e w1 ⟨rfl, hb⟩
  have q1B : Below w.heap.size w w1 := qB hb
  have q1z := hb.size
  try simp at q1z
  have q1t : w.heap.size ≤ w1.heap.size := (by omega)
  have q1s0 : w.heap.size < w1.heap.size := (by omega)
  have q1n0_0 : ¬ w1.heap.size = w.heap.size := (by omega)
  have q1n0_1 : ¬ w1.heap.size + 1 = w.heap.size := (by omega)
  have q1n0_2 : ¬ w1.heap.size + 2 = w.heap.size := (by omega)
  have q1c0_0 := cel hb w.heap.size 0
  simp [go_sem, *] at q1c0_0
  have q1c0_1 := cel hb w.heap.size 1
  simp [go_sem, *] at q1c0_1
  have q1f0 := fun o => fro hb w.heap.size o
  simp [go_sem, *] at q1f0
  have q1s1 : w.heap.size + 1 < w1.heap.size := (by omega)
  have q1n1_0 : ¬ w1.heap.size = w.heap.size + 1 := (by omega)
  have q1n1_1 : ¬ w1.heap.size + 1 = w.heap.size + 1 := (by omega)
  have q1n1_2 : ¬ w1.heap.size + 2 = w.heap.size + 1 := (by omega)
  have q1c1_0 := cel hb (w.heap.size + 1) 0
  simp [go_sem, *] at q1c1_0
  have q1c1_1 := cel hb (w.heap.size + 1) 1
  simp [go_sem, *] at q1c1_1
  have q1f1 := fun o => fro hb (w.heap.size + 1) o
  simp [go_sem, *] at q1f1
  have q1o := belO q1B
  clear hb
  go_upto_region 2 with fail
  go_cut [8, 9] (fun v8 v9 wx => ScaleCut x n w v8 v9 wx)
  case first =>
    refine ord_start (SB (w1.heap.size + 1) [] _) 10 (preB 0 10) (by kernel_rfl) (by kernel_rfl) (by kernel_rfl) SB.refl.drew (fun hHeld => ?_)
    refine oT (i := 0) (preB 1 9) ?_ rfl hHeld (fun wx hSx => ?_) ?_
    rotate_left
    · (unfold SB at hSx; go_simp; (try with_reducible rfl))
    (try simp only [Act.put, putS])
    refine oT (i := 1) (preB 2 8) ?_ rfl hHeld (fun wx hSx => ?_) ?_
    rotate_left
    · (unfold SB at hSx; go_simp; (try with_reducible rfl))
    (try simp only [Act.put, putS])
    refine wpAnyH_ready (rs := [2, 7]) (by kernel_rfl) (by simp) ?_
    refine ord_run (i := 2) (preB 3 7) rfl (by kernel_rfl) (by rfl) (fun K hK => ?_) ?_
    · go_simp
      go_wp2_with (go_at_call 101; refine (rsize_any n n1 n2 _).mono ?_; rintro e w2 ⟨rfl, rfl⟩)
      refine hK.out _ _ ?_ (fun hHeld => ?_)
      · exact sbT
      clear hK K
      (try simp only [Act.put, putS])
      refine wpAnyH_ready (rs := [3, 7]) (by kernel_rfl) (by simp) ?_
      refine ord_run (i := 3) (preB 4 6) rfl (by kernel_rfl) (by rfl) (fun K hK => ?_) ?_
      · go_simp
        go_wp2_with (go_at_call 100; refine (rtimes_any (absI x) (absI n) (absI_win hx) ha.1 ha.2 _).mono ?_; rintro e w2 ⟨rfl, hb⟩; (first | (have q2B : Below w.heap.size w w2 := qB hb; have q2z := hb.size; (try simp at q2z); have q2t : w.heap.size ≤ w2.heap.size := (by omega); have q2s0 : w.heap.size + 1 < w2.heap.size := (by omega); have q2n0_0 : ¬ w2.heap.size = w.heap.size + 1 := (by omega); have q2n0_1 : ¬ w2.heap.size + 1 = w.heap.size + 1 := (by omega); have q2n0_2 : ¬ w2.heap.size + 2 = w.heap.size + 1 := (by omega); have q2c0_0 := cel hb (w.heap.size + 1) 0; simp [go_sem, *] at q2c0_0; have q2c0_1 := cel hb (w.heap.size + 1) 1; simp [go_sem, *] at q2c0_1; have q2f0 := fun o => fro hb (w.heap.size + 1) o; simp [go_sem, *] at q2f0; have q2s1 : w1.heap.size + 1 < w2.heap.size := (by omega); have q2n1_0 : ¬ w2.heap.size = w1.heap.size + 1 := (by omega); have q2n1_1 : ¬ w2.heap.size + 1 = w1.heap.size + 1 := (by omega); have q2n1_2 : ¬ w2.heap.size + 2 = w1.heap.size + 1 := (by omega); have q2c1_0 := cel hb (w1.heap.size + 1) 0; simp [go_sem, *] at q2c1_0; have q2c1_1 := cel hb (w1.heap.size + 1) 1; simp [go_sem, *] at q2c1_1; have q2f1 := fun o => fro hb (w1.heap.size + 1) o; simp [go_sem, *] at q2f1; have q2o := belO q2B; have hbS := hb; have hbS2 := hb; clear hb) | (have q2B : Below w.heap.size w w2 := qB hb; have q2z := hb.size; (try simp at q2z); have q2t : w.heap.size ≤ w2.heap.size := (by omega); have q2s0 : w.heap.size + 1 < w2.heap.size := (by omega); have q2n0_0 : ¬ w2.heap.size = w.heap.size + 1 := (by omega); have q2n0_1 : ¬ w2.heap.size + 1 = w.heap.size + 1 := (by omega); have q2n0_2 : ¬ w2.heap.size + 2 = w.heap.size + 1 := (by omega); have q2c0_0 := cel hb (w.heap.size + 1) 0; simp [go_sem, *] at q2c0_0; have q2c0_1 := cel hb (w.heap.size + 1) 1; simp [go_sem, *] at q2c0_1; have q2f0 := fun o => fro hb (w.heap.size + 1) o; simp [go_sem, *] at q2f0; have q2o := belO q2B; have hbS := hb; have hbS2 := hb; clear hb)))
        refine hK.out _ _ ?_ (fun hHeld => ?_)
        · exact sbT
        clear hK K
        (try simp only [Act.put, putS])
        refine oT (i := 4) (preB 5 5) ?_ rfl hHeld (fun wx hSx => ?_) ?_
        rotate_left
        · (unfold SB at hSx; go_simp; (try with_reducible rfl))
        (try simp only [Act.put, putS])
        refine oT (i := 5) (preB 6 4) ?_ rfl hHeld (fun wx hSx => ?_) ?_
        rotate_left
        · (unfold SB at hSx; go_simp; (try with_reducible rfl))
        (try simp only [Act.put, putS])
        refine oT (i := 6) (preB 7 3) ?_ rfl hHeld (fun wx hSx => ?_) ?_
        rotate_left
        · (unfold SB at hSx; go_simp; (try with_reducible rfl))
        (try simp only [Act.put, putS])
        refine wpAnyH_ready (rs := [7]) (by kernel_rfl) (by simp) ?_
        refine ord_run (i := 7) (preB 8 2) rfl (by kernel_rfl) (by rfl) (fun K hK => ?_) AllReadyH.nil
        go_simp
        refine hK.out _ _ ?_ (fun hHeld => ?_)
        · exact sbT
        clear hK K
        (try simp only [Act.put, putS])
        refine wpAnyH_ready (rs := [8]) (by kernel_rfl) (by simp) ?_
        refine ord_run (i := 8) (preB 9 1) rfl (by kernel_rfl) (by rfl) (fun K hK => ?_) AllReadyH.nil
        go_simp
        refine hK.out _ _ ?_ (fun hHeld => ?_)
        · exact sbT
        clear hK K
        (try simp only [Act.put, putS])
        refine oT (i := 9) (preB 10 0) ?_ rfl hHeld (fun wx hSx => ?_) ?_
        rotate_left
        · (unfold SB at hSx; go_simp; (try with_reducible rfl))
        (try simp only [Act.put, putS])
        refine wpAnyH_done (by kernel_rfl) ?_ _
        go_wp2_with fail; go_meet; exact ⟨_, rfl, rfl, belT, (by simp; omega), ⟨(by simp [go_sem, *]), (by simp [go_sem, *])⟩, (by first | omega | (simp <;> omega)), ⟨(by simp [go_sem, *]), (by simp [go_sem, *]), (by simp [go_sem, *])⟩⟩
      refine ord_run (i := 7) #[true, true, true, false, false, false, false, true, false, false] rfl (by kernel_rfl) (by rfl) (fun K hK => ?_) ?_
      · go_simp
        refine hK.out _ _ ?_ (fun hHeld => ?_)
        · exact sbT
        clear hK K
        (try simp only [Act.put, putS])
        refine wpAnyH_ready (rs := [3]) (by kernel_rfl) (by simp) ?_
        refine ord_run (i := 3) #[true, true, true, true, false, false, false, true, false, false] rfl (by kernel_rfl) (by rfl) (fun K hK => ?_) AllReadyH.nil
        go_simp
        go_wp2_with (go_at_call 100; refine (rtimes_any (absI x) (absI n) (absI_win hx) ha.1 ha.2 _).mono ?_; rintro e w2 ⟨rfl, hb⟩; (first | (have q2B : Below w.heap.size w w2 := qB hb; have q2z := hb.size; (try simp at q2z); have q2t : w.heap.size ≤ w2.heap.size := (by omega); have q2s0 : w.heap.size + 1 < w2.heap.size := (by omega); have q2n0_0 : ¬ w2.heap.size = w.heap.size + 1 := (by omega); have q2n0_1 : ¬ w2.heap.size + 1 = w.heap.size + 1 := (by omega); have q2n0_2 : ¬ w2.heap.size + 2 = w.heap.size + 1 := (by omega); have q2c0_0 := cel hb (w.heap.size + 1) 0; simp [go_sem, *] at q2c0_0; have q2c0_1 := cel hb (w.heap.size + 1) 1; simp [go_sem, *] at q2c0_1; have q2f0 := fun o => fro hb (w.heap.size + 1) o; simp [go_sem, *] at q2f0; have q2s1 : w1.heap.size + 1 < w2.heap.size := (by omega); have q2n1_0 : ¬ w2.heap.size = w1.heap.size + 1 := (by omega); have q2n1_1 : ¬ w2.heap.size + 1 = w1.heap.size + 1 := (by omega); have q2n1_2 : ¬ w2.heap.size + 2 = w1.heap.size + 1 := (by omega); have q2c1_0 := cel hb (w1.heap.size + 1) 0; simp [go_sem, *] at q2c1_0; have q2c1_1 := cel hb (w1.heap.size + 1) 1; simp [go_sem, *] at q2c1_1; have q2f1 := fun o => fro hb (w1.heap.size + 1) o; simp [go_sem, *] at q2f1; have q2o := belO q2B; have hbS := hb; have hbS2 := hb; clear hb) | (have q2B : Below w.heap.size w w2 := qB hb; have q2z := hb.size; (try simp at q2z); have q2t : w.heap.size ≤ w2.heap.size := (by omega); have q2s0 : w.heap.size + 1 < w2.heap.size := (by omega); have q2n0_0 : ¬ w2.heap.size = w.heap.size + 1 := (by omega); have q2n0_1 : ¬ w2.heap.size + 1 = w.heap.size + 1 := (by omega); have q2n0_2 : ¬ w2.heap.size + 2 = w.heap.size + 1 := (by omega); have q2c0_0 := cel hb (w.heap.size + 1) 0; simp [go_sem, *] at q2c0_0; have q2c0_1 := cel hb (w.heap.size + 1) 1; simp [go_sem, *] at q2c0_1; have q2f0 := fun o => fro hb (w.heap.size + 1) o; simp [go_sem, *] at q2f0; have q2o := belO q2B; have hbS := hb; have hbS2 := hb; clear hb)))
        refine hK.out _ _ ?_ (fun hHeld => ?_)
        · exact sbT
        clear hK K
        (try simp only [Act.put, putS])
        refine oT (i := 4) #[true, true, true, true, true, false, false, true, false, false] ?_ rfl hHeld (fun wx hSx => ?_) ?_
        rotate_left
        · (unfold SB at hSx; go_simp; (try with_reducible rfl))
        (try simp only [Act.put, putS])
        refine oT (i := 5) #[true, true, true, true, true, true, false, true, false, false] ?_ rfl hHeld (fun wx hSx => ?_) ?_
        rotate_left
        · (unfold SB at hSx; go_simp; (try with_reducible rfl))
        (try simp only [Act.put, putS])
        refine oT (i := 6) (preB 8 2) ?_ rfl hHeld (fun wx hSx => ?_) ?_
        rotate_left
        · (unfold SB at hSx; go_simp; (try with_reducible rfl))
        (try simp only [Act.put, putS])
        refine wpAnyH_ready (rs := [8]) (by kernel_rfl) (by simp) ?_
        refine ord_run (i := 8) (preB 9 1) rfl (by kernel_rfl) (by rfl) (fun K hK => ?_) AllReadyH.nil
        go_simp
        refine hK.out _ _ ?_ (fun hHeld => ?_)
        · exact sbT
        clear hK K
        (try simp only [Act.put, putS])
        refine oT (i := 9) (preB 10 0) ?_ rfl hHeld (fun wx hSx => ?_) ?_
        rotate_left
        · (unfold SB at hSx; go_simp; (try with_reducible rfl))
        (try simp only [Act.put, putS])
        refine wpAnyH_done (by kernel_rfl) ?_ _
        go_wp2_with fail; go_meet; exact ⟨_, rfl, rfl, belT, (by simp; omega), ⟨(by simp [go_sem, *]), (by simp [go_sem, *])⟩, (by first | omega | (simp <;> omega)), ⟨(by simp [go_sem, *]), (by simp [go_sem, *]), (by simp [go_sem, *])⟩⟩
      exact AllReadyH.nil
    refine ord_run (i := 7) #[true, true, false, false, false, false, false, true, false, false] rfl (by kernel_rfl) (by rfl) (fun K hK => ?_) ?_
    · go_simp
      refine hK.out _ _ ?_ (fun hHeld => ?_)
      · exact sbT
      clear hK K
      (try simp only [Act.put, putS])
      refine wpAnyH_ready (rs := [2]) (by kernel_rfl) (by simp) ?_
      refine ord_run (i := 2) #[true, true, true, false, false, false, false, true, false, false] rfl (by kernel_rfl) (by rfl) (fun K hK => ?_) AllReadyH.nil
      go_simp
      go_wp2_with (go_at_call 101; refine (rsize_any n n1 n2 _).mono ?_; rintro e w2 ⟨rfl, rfl⟩)
      refine hK.out _ _ ?_ (fun hHeld => ?_)
      · exact sbT
      clear hK K
      (try simp only [Act.put, putS])
      refine wpAnyH_ready (rs := [3]) (by kernel_rfl) (by simp) ?_
      refine ord_run (i := 3) #[true, true, true, true, false, false, false, true, false, false] rfl (by kernel_rfl) (by rfl) (fun K hK => ?_) AllReadyH.nil
      go_simp
      go_wp2_with (go_at_call 100; refine (rtimes_any (absI x) (absI n) (absI_win hx) ha.1 ha.2 _).mono ?_; rintro e w2 ⟨rfl, hb⟩; (first | (have q2B : Below w.heap.size w w2 := qB hb; have q2z := hb.size; (try simp at q2z); have q2t : w.heap.size ≤ w2.heap.size := (by omega); have q2s0 : w.heap.size + 1 < w2.heap.size := (by omega); have q2n0_0 : ¬ w2.heap.size = w.heap.size + 1 := (by omega); have q2n0_1 : ¬ w2.heap.size + 1 = w.heap.size + 1 := (by omega); have q2n0_2 : ¬ w2.heap.size + 2 = w.heap.size + 1 := (by omega); have q2c0_0 := cel hb (w.heap.size + 1) 0; simp [go_sem, *] at q2c0_0; have q2c0_1 := cel hb (w.heap.size + 1) 1; simp [go_sem, *] at q2c0_1; have q2f0 := fun o => fro hb (w.heap.size + 1) o; simp [go_sem, *] at q2f0; have q2s1 : w1.heap.size + 1 < w2.heap.size := (by omega); have q2n1_0 : ¬ w2.heap.size = w1.heap.size + 1 := (by omega); have q2n1_1 : ¬ w2.heap.size + 1 = w1.heap.size + 1 := (by omega); have q2n1_2 : ¬ w2.heap.size + 2 = w1.heap.size + 1 := (by omega); have q2c1_0 := cel hb (w1.heap.size + 1) 0; simp [go_sem, *] at q2c1_0; have q2c1_1 := cel hb (w1.heap.size + 1) 1; simp [go_sem, *] at q2c1_1; have q2f1 := fun o => fro hb (w1.heap.size + 1) o; simp [go_sem, *] at q2f1; have q2o := belO q2B; have hbS := hb; have hbS2 := hb; clear hb) | (have q2B : Below w.heap.size w w2 := qB hb; have q2z := hb.size; (try simp at q2z); have q2t : w.heap.size ≤ w2.heap.size := (by omega); have q2s0 : w.heap.size + 1 < w2.heap.size := (by omega); have q2n0_0 : ¬ w2.heap.size = w.heap.size + 1 := (by omega); have q2n0_1 : ¬ w2.heap.size + 1 = w.heap.size + 1 := (by omega); have q2n0_2 : ¬ w2.heap.size + 2 = w.heap.size + 1 := (by omega); have q2c0_0 := cel hb (w.heap.size + 1) 0; simp [go_sem, *] at q2c0_0; have q2c0_1 := cel hb (w.heap.size + 1) 1; simp [go_sem, *] at q2c0_1; have q2f0 := fun o => fro hb (w.heap.size + 1) o; simp [go_sem, *] at q2f0; have q2o := belO q2B; have hbS := hb; have hbS2 := hb; clear hb)))
      refine hK.out _ _ ?_ (fun hHeld => ?_)
      · exact sbT
      clear hK K
      (try simp only [Act.put, putS])
      refine oT (i := 4) #[true, true, true, true, true, false, false, true, false, false] ?_ rfl hHeld (fun wx hSx => ?_) ?_
      rotate_left
      · (unfold SB at hSx; go_simp; (try with_reducible rfl))
      (try simp only [Act.put, putS])
      refine oT (i := 5) #[true, true, true, true, true, true, false, true, false, false] ?_ rfl hHeld (fun wx hSx => ?_) ?_
      rotate_left
      · (unfold SB at hSx; go_simp; (try with_reducible rfl))
      (try simp only [Act.put, putS])
      refine oT (i := 6) (preB 8 2) ?_ rfl hHeld (fun wx hSx => ?_) ?_
      rotate_left
      · (unfold SB at hSx; go_simp; (try with_reducible rfl))
      (try simp only [Act.put, putS])
      refine wpAnyH_ready (rs := [8]) (by kernel_rfl) (by simp) ?_
      refine ord_run (i := 8) (preB 9 1) rfl (by kernel_rfl) (by rfl) (fun K hK => ?_) AllReadyH.nil
      go_simp
      refine hK.out _ _ ?_ (fun hHeld => ?_)
      · exact sbT
      clear hK K
      (try simp only [Act.put, putS])
      refine oT (i := 9) (preB 10 0) ?_ rfl hHeld (fun wx hSx => ?_) ?_
      rotate_left
      · (unfold SB at hSx; go_simp; (try with_reducible rfl))
      (try simp only [Act.put, putS])
      refine wpAnyH_done (by kernel_rfl) ?_ _
      go_wp2_with fail; go_meet; exact ⟨_, rfl, rfl, belT, (by simp; omega), ⟨(by simp [go_sem, *]), (by simp [go_sem, *])⟩, (by first | omega | (simp <;> omega)), ⟨(by simp [go_sem, *]), (by simp [go_sem, *]), (by simp [go_sem, *])⟩⟩
    exact AllReadyH.nil
  case rest =>
    obtain ⟨g, rfl, rfl, hB, hz, ⟨cg0, cg1⟩, hg, ⟨cr0, cr1, crf⟩⟩ := hcut
    by_cases hf : absI x * absI n < 340282366920938463463374607431768211456
    · have HM := mag_in (m := absI x * absI n) (Int.mul_nonneg (absI_nn x) (absI_nn n)) hf
      rw [fitM_t hf]
      rw [mod128_of HM] at cg0 cg1
      have HG := hide (scale_sgn x n)
      clear hf
      by_cases hw : WIn (x * n)
      · have HD := hide (decide_eq_true hw)
        have HV := hide (wrap128_of hw)
        have HR := hide (fitR_of hw)
        have HE2 := hide (fitE_of hw)
        clear hw
        go_wp2_with fail
        refine (rjoin_any _ _ HM _).mono ?_
        rintro e w3 ⟨rfl, hb⟩
        rw [HG.out, HD.out, HV.out]
        have q1B : Below w.heap.size w w3 := qB hb
        have q1z := hb.size
        try simp at q1z
        have q1t : w.heap.size ≤ w3.heap.size := (by omega)
        have q1s0 : w.heap.size + 1 < w3.heap.size := (by omega)
        have q1n0_0 : ¬ w3.heap.size = w.heap.size + 1 := (by omega)
        have q1n0_1 : ¬ w3.heap.size + 1 = w.heap.size + 1 := (by omega)
        have q1n0_2 : ¬ w3.heap.size + 2 = w.heap.size + 1 := (by omega)
        have q1c0_0 := cel hb (w.heap.size + 1) 0
        simp [go_sem, *] at q1c0_0
        have q1c0_1 := cel hb (w.heap.size + 1) 1
        simp [go_sem, *] at q1c0_1
        have q1f0 := fun o => fro hb (w.heap.size + 1) o
        simp [go_sem, *] at q1f0
        have q1o := belO q1B
        clear hb
        go_wp2_with fail
        refine bodyPost_ret (by simp [results, Tryz.results62, go_sem, *] <;> rfl) rfl ⟨?_, ?_⟩
        · rw [HR.out, HE2.out]
        (repeat (first | (with_reducible first | exact Below.refl _ _ | assumption | refine Below.drew ?_) | ((with_reducible first | refine Below.alloc ?_ ?_ _ | refine Below.setCell ?_ ?_ _); rotate_left; (first | omega | (simp <;> omega)))))
      · have HD := hide (decide_eq_false hw)
        have HR := hide (fitR_not hw)
        have HE2 := hide (fitE_not hw)
        clear hw
        go_wp2_with fail
        refine (rjoin_any _ _ HM _).mono ?_
        rintro e w3 ⟨rfl, hb⟩
        rw [HG.out, HD.out]
        have q1B : Below w.heap.size w w3 := qB hb
        have q1z := hb.size
        try simp at q1z
        have q1t : w.heap.size ≤ w3.heap.size := (by omega)
        have q1s0 : w.heap.size + 1 < w3.heap.size := (by omega)
        have q1n0_0 : ¬ w3.heap.size = w.heap.size + 1 := (by omega)
        have q1n0_1 : ¬ w3.heap.size + 1 = w.heap.size + 1 := (by omega)
        have q1n0_2 : ¬ w3.heap.size + 2 = w.heap.size + 1 := (by omega)
        have q1c0_0 := cel hb (w.heap.size + 1) 0
        simp [go_sem, *] at q1c0_0
        have q1c0_1 := cel hb (w.heap.size + 1) 1
        simp [go_sem, *] at q1c0_1
        have q1f0 := fun o => fro hb (w.heap.size + 1) o
        simp [go_sem, *] at q1f0
        have q1o := belO q1B
        clear hb
        go_wp2_with fail
        refine bodyPost_ret (by simp [results, Tryz.results62, go_sem, *] <;> rfl) rfl ⟨?_, ?_⟩
        · rw [HR.out, HE2.out]; rfl
        (repeat (first | (with_reducible first | exact Below.refl _ _ | assumption | refine Below.drew ?_) | ((with_reducible first | refine Below.alloc ?_ ?_ _ | refine Below.setCell ?_ ?_ _); rotate_left; (first | omega | (simp <;> omega)))))
    · rw [fitM_f hf]
      have HR := hide (fitR_not (scale_out hf))
      have HE2 := hide (fitE_not (scale_out hf))
      clear hf
      go_wp2_with fail
      refine (rjoin_any _ _ (mod128_in _) _).mono ?_
      rintro e w3 ⟨rfl, hb⟩
      have q1B : Below w.heap.size w w3 := qB hb
      have q1z := hb.size
      try simp at q1z
      have q1t : w.heap.size ≤ w3.heap.size := (by omega)
      have q1s0 : w.heap.size + 1 < w3.heap.size := (by omega)
      have q1n0_0 : ¬ w3.heap.size = w.heap.size + 1 := (by omega)
      have q1n0_1 : ¬ w3.heap.size + 1 = w.heap.size + 1 := (by omega)
      have q1n0_2 : ¬ w3.heap.size + 2 = w.heap.size + 1 := (by omega)
      have q1c0_0 := cel hb (w.heap.size + 1) 0
      simp [go_sem, *] at q1c0_0
      have q1c0_1 := cel hb (w.heap.size + 1) 1
      simp [go_sem, *] at q1c0_1
      have q1f0 := fun o => fro hb (w.heap.size + 1) o
      simp [go_sem, *] at q1f0
      have q1o := belO q1B
      clear hb
      go_wp2_with fail
      refine bodyPost_ret (by simp [results, Tryz.results62, go_sem, *] <;> rfl) rfl ⟨?_, ?_⟩
      · rw [HR.out, HE2.out]; rfl
      (repeat (first | (with_reducible first | exact Below.refl _ _ | assumption | refine Below.drew ?_) | ((with_reducible first | refine Below.alloc ?_ ?_ _ | refine Below.setCell ?_ ?_ _); rotate_left; (first | omega | (simp <;> omega)))))
/-- Mul of the reference. -/
theorem rmul_any (a b : Int) (a1 : -9223372036854775808 ≤ a) (a2 : a ≤ 9223372036854775807) (b1 : -9223372036854775808 ≤ b) (b2 : b ≤ 9223372036854775807) (w : World) :
    Calls Tryz.prog 34 #[.int .i64 a, .int .i64 b] w fun e w' =>
      e = .returned (.agg #[.int .i64 (hiW (a * b)), .int .u64 (loW (a * b))]) ∧ Below w.heap.size w w' := by
  have HF := hide (fitR_of (mul_win a1 a2 b1 b2))
  go_enter Tryz.func34, Tryz.ntmps34
  go_wp2_with fail
  refine (rof_any a a1 a2 _).mono ?_
  rintro e w1 ⟨rfl, hb⟩
  have q1B : Below w.heap.size w w1 := qB hb
  have q1z := hb.size
  try simp at q1z
  have q1t : w.heap.size ≤ w1.heap.size := (by omega)
  have q1s0 : w.heap.size < w1.heap.size := (by omega)
  have q1n0_0 : ¬ w1.heap.size = w.heap.size := (by omega)
  have q1n0_1 : ¬ w1.heap.size + 1 = w.heap.size := (by omega)
  have q1n0_2 : ¬ w1.heap.size + 2 = w.heap.size := (by omega)
  have q1c0_0 := cel hb w.heap.size 0
  simp [go_sem, *] at q1c0_0
  have q1c0_1 := cel hb w.heap.size 1
  simp [go_sem, *] at q1c0_1
  have q1f0 := fun o => fro hb w.heap.size o
  simp [go_sem, *] at q1f0
  have q1o := belO q1B
  clear hb
  go_wp2_with fail
  refine (rscale_any a b (int_win a1 a2) b1 b2 _).mono ?_
  rintro e w2 ⟨rfl, hb⟩
  rw [HF.out]
  have q2B : Below w.heap.size w w2 := qB hb
  have q2z := hb.size
  try simp at q2z
  have q2t : w.heap.size ≤ w2.heap.size := (by omega)
  have q2s0 : w.heap.size < w2.heap.size := (by omega)
  have q2n0_0 : ¬ w2.heap.size = w.heap.size := (by omega)
  have q2n0_1 : ¬ w2.heap.size + 1 = w.heap.size := (by omega)
  have q2n0_2 : ¬ w2.heap.size + 2 = w.heap.size := (by omega)
  have q2c0_0 := cel hb w.heap.size 0
  simp [go_sem, *] at q2c0_0
  have q2c0_1 := cel hb w.heap.size 1
  simp [go_sem, *] at q2c0_1
  have q2f0 := fun o => fro hb w.heap.size o
  simp [go_sem, *] at q2f0
  have q2o := belO q2B
  clear hb q1o q1f0 q1c0_1 q1c0_0 q1s0 q1z q1B
  go_wp2_with fail
  refine bodyPost_ret (by simp [results, Tryz.results34, go_sem, *] <;> rfl) rfl ⟨?_, ?_⟩
  · rfl
  (repeat (first | (with_reducible first | exact Below.refl _ _ | assumption | refine Below.drew ?_) | ((with_reducible first | refine Below.alloc ?_ ?_ _ | refine Below.setCell ?_ ?_ _); rotate_left; (first | omega | (simp <;> omega)))))
end Go.Proofs.YtdjlaiilngechaaGreatDoor
