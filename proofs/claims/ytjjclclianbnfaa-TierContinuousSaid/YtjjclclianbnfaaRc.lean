/- Contracts of the reference for numbers of 128 bits, 3: times. -/
import Derived.Test.YtjjclclianbnfaaRb
namespace Go.Proofs.Ytjjclclianbnfaa
open Go.RowKit

theorem and_top_hi (n : Int) (h : 9223372036854775808 ≤ n) (h' : n < 18446744073709551616) : bits .and .u64 n 9223372036854775808 = 9223372036854775808 := by
  obtain ⟨n, rfl⟩ := Int.eq_ofNat_of_zero_le (show 0 ≤ n by omega)
  rw [show (9223372036854775808 : Int) = ((9223372036854775808 : Nat) : Int) from rfl, bits_and_u64_nat n _ (by omega) (by omega)]
  have : n &&& 2 ^ 63 = n / 2 ^ 63 % 2 * 2 ^ 63 := nat_bit 63 n
  rw [show (9223372036854775808 : Nat) = 2 ^ 63 from by decide, this, show n / 2 ^ 63 = 1 from by omega]
theorem and_top_lo (n : Int) (h : 0 ≤ n) (h' : n < 9223372036854775808) : bits .and .u64 n 9223372036854775808 = 0 := by
  obtain ⟨n, rfl⟩ := Int.eq_ofNat_of_zero_le h
  rw [show (9223372036854775808 : Int) = ((9223372036854775808 : Nat) : Int) from rfl, bits_and_u64_nat n _ (by omega) (by omega)]
  have : n &&& 2 ^ 63 = n / 2 ^ 63 % 2 * 2 ^ 63 := nat_bit 63 n
  rw [show (9223372036854775808 : Nat) = 2 ^ 63 from by decide, this, show n / 2 ^ 63 = 0 from by omega]
  rfl

/-- The products of a round of times: their values and whether they fit. -/
theorem times_math {m q : Int} (hm : MIn m) (q1 : 0 ≤ q) :
    mod128 (mod128 (m * q) + mod128 (m * q)) = mod128 (m * (2 * q)) ∧ mod128 (mod128 (m * (2 * q)) + m) = mod128 (m * (2 * q + 1)) ∧
    (m * q < 340282366920938463463374607431768211456 → (mod128 (m * q) + mod128 (m * q) < 340282366920938463463374607431768211456 ↔ m * (2 * q) < 340282366920938463463374607431768211456)) ∧
    (m * (2 * q) < 340282366920938463463374607431768211456 → (mod128 (m * (2 * q)) + m < 340282366920938463463374607431768211456 ↔ m * (2 * q + 1) < 340282366920938463463374607431768211456)) ∧
    (m * (2 * q + 1) < 340282366920938463463374607431768211456 → m * (2 * q) < 340282366920938463463374607431768211456) ∧
    (m * (2 * q) < 340282366920938463463374607431768211456 → m * q < 340282366920938463463374607431768211456) := by
  have e : m * (2 * q + 1) = 2 * (m * q) + m := by rw [Int.mul_add, Int.mul_one, Int.mul_left_comm]
  have e2 : m * (2 * q) = 2 * (m * q) := Int.mul_left_comm _ _ _
  have h0 : 0 ≤ m * q := Int.mul_nonneg hm.1 q1
  rw [e, e2]
  have := hm.1
  have := hm.2
  unfold mod128
  generalize m * q = p at *
  refine ⟨by omega, by omega, by omega, by omega, by omega, by omega⟩
/-- After k rounds of times: the world w at the call, the magnitude m, the factor n. -/
def TimesInv (m n : Int) (w : World) (v1 v7 v8 : Value) (wr : World) : Prop :=
  ∃ (k : Nat) (q nk : Int), k ≤ 64 ∧ v8 = .int .i64 k ∧ v1 = .int .u64 nk ∧ 0 ≤ nk ∧ nk < 18446744073709551616 ∧ 0 ≤ q ∧ n * 2 ^ k = q * 18446744073709551616 + nk ∧ v7 = .bool (fitM (m * q)) ∧
    Below w.heap.size w wr ∧ w.heap.size + 2 < wr.heap.size ∧
    (wr.cell? ⟨w.heap.size, 0, none⟩ = some (.int .u64 (hiW m)) ∧ wr.cell? ⟨w.heap.size, 1, none⟩ = some (.int .u64 (loW m)) ∧ ∀ o, wr.frozen? ⟨w.heap.size, o, none⟩ = false) ∧
    (wr.cell? ⟨w.heap.size + 1, 0, none⟩ = some (.int .u64 0) ∧ wr.cell? ⟨w.heap.size + 1, 1, none⟩ = some (.int .u64 0) ∧ ∀ o, wr.frozen? ⟨w.heap.size + 1, o, none⟩ = false) ∧
    (wr.cell? ⟨w.heap.size + 2, 0, none⟩ = some (.int .u64 (hiW (mod128 (m * q)))) ∧ wr.cell? ⟨w.heap.size + 2, 1, none⟩ = some (.int .u64 (loW (mod128 (m * q)))) ∧ ∀ o, wr.frozen? ⟨w.heap.size + 2, o, none⟩ = false)
set_option maxHeartbeats 1000000 in
theorem rtimes_any (m n : Int) (hm : MIn m) (n1 : 0 ≤ n) (n2 : n < 18446744073709551616) (w : World) :
    Calls Try.prog 41 #[.agg #[.int .u64 (hiW m), .int .u64 (loW m)], .int .u64 n] w fun e w' =>
      e = .returned (.tuple #[.agg #[.int .u64 (hiW (mod128 (m * n))), .int .u64 (loW (mod128 (m * n)))], .bool (fitM (m * n))]) ∧ Below w.heap.size w w' := by
  obtain ⟨a1, a2⟩ := hi_mbd hm; obtain ⟨c1, c2⟩ := lo_bd m
  go_enter Try.func41, Try.ntmps41
  go_wp2_with fail
  go_loopw [1, 7, 8] (fun v1 v7 v8 wr => TimesInv m n w v1 v7 v8 wr) (fun _ _ v8 _ => 64 - (intOf v8).toNat)
  case atStart =>
    refine ⟨0, 0, n, by omega, rfl, rfl, n1, n2, by omega, by omega, ?_, ?_, ?_, ?_, ?_, ?_⟩
    · rw [Int.mul_zero]; rfl
    · (repeat (first | (with_reducible exact Below.refl _ _) | (with_reducible assumption) | ((with_reducible refine Below.alloc ?_ ?_ _); (rotate_left); (first | omega | (simp <;> omega))) | ((with_reducible refine Below.setCell ?_ ?_ _); (rotate_left); (first | omega | (simp <;> omega))) | (with_reducible refine Below.drew ?_) | (with_reducible refine below_drewN ?_ _)))
    · simp
    · exact ⟨by simp [go_sem], by simp [go_sem], by simp [go_sem]⟩
    · exact ⟨by simp [go_sem], by simp [go_sem], by simp [go_sem]⟩
    · rw [Int.mul_zero]
      exact ⟨by simp [go_sem, mod128, hiW], by simp [go_sem, mod128, loW], by simp [go_sem]⟩
  case round =>
    obtain ⟨k, q, nk, hk, rfl, rfl, k1, k2, q1, HE, rfl, hB, hz, ⟨ca0, ca1, caf⟩, ⟨cb0, cb1, cbf⟩, ⟨cc0, cc1, ccf⟩⟩ := hrel
    have HE := hide HE
    have hz0 : w.heap.size < wr.heap.size := by omega
    have hz1 : w.heap.size + 1 < wr.heap.size := by omega
    have MM := mod128_in (m * q)
    have HT := hide (times_math hm q1)
    by_cases hlt : k < 64
    · by_cases hbit : 9223372036854775808 ≤ nk
      · have et := and_top_hi nk hbit k2
        by_cases hq : m * q < 340282366920938463463374607431768211456
        · by_cases h2 : m * (2 * q) < 340282366920938463463374607431768211456
          · by_cases h3 : m * (2 * q + 1) < 340282366920938463463374607431768211456
            · skip
              have HF := hide (fitM_t hq)
              have HF1 := hide (fitM_t ((HT.out.2.2.1 hq).2 h2))
              have HF2 := hide (fitM_t ((HT.out.2.2.2.1 h2).2 h3))
              have HN := hide (fitM_t h3)
              clear hq h2 h3
              rw [HF.out]
              go_wp2_with fail
              refine (rplus_any _ _ MM MM _).mono ?_
              rintro e w1 ⟨rfl, hb⟩
              rw [HF1.out, HT.out.1]
              have q1B : Below w.heap.size w w1 := (by refine Below.trans ?_ (hb.mono (by first | omega | (simp <;> omega))); (repeat (first | (with_reducible exact Below.refl _ _) | (with_reducible assumption) | ((with_reducible refine Below.alloc ?_ ?_ _); (rotate_left); (first | omega | (simp <;> omega))) | ((with_reducible refine Below.setCell ?_ ?_ _); (rotate_left); (first | omega | (simp <;> omega))) | (with_reducible refine Below.drew ?_) | (with_reducible refine below_drewN ?_ _))))
              have q1z := hb.size
              try simp at q1z
              have q1t : w.heap.size ≤ w1.heap.size := (by omega)
              have q1s0 : w.heap.size < w1.heap.size := (by omega)
              have q1n0_0 : ¬ w1.heap.size = w.heap.size := (by omega)
              have q1n0_1 : ¬ w1.heap.size + 1 = w.heap.size := (by omega)
              have q1n0_2 : ¬ w1.heap.size + 2 = w.heap.size := (by omega)
              have q1c0_0 := hb.cell (p := ⟨w.heap.size, 0, none⟩) (by first | omega | (simp <;> omega))
              simp [go_sem, *] at q1c0_0
              have q1c0_1 := hb.cell (p := ⟨w.heap.size, 1, none⟩) (by first | omega | (simp <;> omega))
              simp [go_sem, *] at q1c0_1
              have q1f0 := fun o => hb.frozen (p := ⟨w.heap.size, o, none⟩) (by first | omega | (simp <;> omega))
              simp [go_sem, *] at q1f0
              have q1s1 : w.heap.size + 1 < w1.heap.size := (by omega)
              have q1n1_0 : ¬ w1.heap.size = w.heap.size + 1 := (by omega)
              have q1n1_1 : ¬ w1.heap.size + 1 = w.heap.size + 1 := (by omega)
              have q1n1_2 : ¬ w1.heap.size + 2 = w.heap.size + 1 := (by omega)
              have q1c1_0 := hb.cell (p := ⟨w.heap.size + 1, 0, none⟩) (by first | omega | (simp <;> omega))
              simp [go_sem, *] at q1c1_0
              have q1c1_1 := hb.cell (p := ⟨w.heap.size + 1, 1, none⟩) (by first | omega | (simp <;> omega))
              simp [go_sem, *] at q1c1_1
              have q1f1 := fun o => hb.frozen (p := ⟨w.heap.size + 1, o, none⟩) (by first | omega | (simp <;> omega))
              simp [go_sem, *] at q1f1
              have q1s2 : w.heap.size + 2 < w1.heap.size := (by omega)
              have q1n2_0 : ¬ w1.heap.size = w.heap.size + 2 := (by omega)
              have q1n2_1 : ¬ w1.heap.size + 1 = w.heap.size + 2 := (by omega)
              have q1n2_2 : ¬ w1.heap.size + 2 = w.heap.size + 2 := (by omega)
              have q1c2_0 := hb.cell (p := ⟨w.heap.size + 2, 0, none⟩) (by first | omega | (simp <;> omega))
              simp [go_sem, *] at q1c2_0
              have q1c2_1 := hb.cell (p := ⟨w.heap.size + 2, 1, none⟩) (by first | omega | (simp <;> omega))
              simp [go_sem, *] at q1c2_1
              have q1f2 := fun o => hb.frozen (p := ⟨w.heap.size + 2, o, none⟩) (by first | omega | (simp <;> omega))
              simp [go_sem, *] at q1f2
              have q1o : ∀ b o, b < w.heap.size → w1.cell? ⟨b, o, none⟩ = w.cell? ⟨b, o, none⟩ := fun b o h => q1B.cell (p := ⟨b, o, none⟩) h
              clear hb
              go_wp2_with fail
              refine (rplus_any _ _ (mod128_in _) hm _).mono ?_
              rintro e w2 ⟨rfl, hb⟩
              rw [HF2.out, HT.out.2.1]
              have q2B : Below w.heap.size w w2 := (by refine Below.trans ?_ (hb.mono (by first | omega | (simp <;> omega))); (repeat (first | (with_reducible exact Below.refl _ _) | (with_reducible assumption) | ((with_reducible refine Below.alloc ?_ ?_ _); (rotate_left); (first | omega | (simp <;> omega))) | ((with_reducible refine Below.setCell ?_ ?_ _); (rotate_left); (first | omega | (simp <;> omega))) | (with_reducible refine Below.drew ?_) | (with_reducible refine below_drewN ?_ _))))
              have q2z := hb.size
              try simp at q2z
              have q2t : w.heap.size ≤ w2.heap.size := (by omega)
              have q2s0 : w.heap.size < w2.heap.size := (by omega)
              have q2n0_0 : ¬ w2.heap.size = w.heap.size := (by omega)
              have q2n0_1 : ¬ w2.heap.size + 1 = w.heap.size := (by omega)
              have q2n0_2 : ¬ w2.heap.size + 2 = w.heap.size := (by omega)
              have q2c0_0 := hb.cell (p := ⟨w.heap.size, 0, none⟩) (by first | omega | (simp <;> omega))
              simp [go_sem, *] at q2c0_0
              have q2c0_1 := hb.cell (p := ⟨w.heap.size, 1, none⟩) (by first | omega | (simp <;> omega))
              simp [go_sem, *] at q2c0_1
              have q2f0 := fun o => hb.frozen (p := ⟨w.heap.size, o, none⟩) (by first | omega | (simp <;> omega))
              simp [go_sem, *] at q2f0
              have q2s1 : w.heap.size + 1 < w2.heap.size := (by omega)
              have q2n1_0 : ¬ w2.heap.size = w.heap.size + 1 := (by omega)
              have q2n1_1 : ¬ w2.heap.size + 1 = w.heap.size + 1 := (by omega)
              have q2n1_2 : ¬ w2.heap.size + 2 = w.heap.size + 1 := (by omega)
              have q2c1_0 := hb.cell (p := ⟨w.heap.size + 1, 0, none⟩) (by first | omega | (simp <;> omega))
              simp [go_sem, *] at q2c1_0
              have q2c1_1 := hb.cell (p := ⟨w.heap.size + 1, 1, none⟩) (by first | omega | (simp <;> omega))
              simp [go_sem, *] at q2c1_1
              have q2f1 := fun o => hb.frozen (p := ⟨w.heap.size + 1, o, none⟩) (by first | omega | (simp <;> omega))
              simp [go_sem, *] at q2f1
              have q2s2 : w.heap.size + 2 < w2.heap.size := (by omega)
              have q2n2_0 : ¬ w2.heap.size = w.heap.size + 2 := (by omega)
              have q2n2_1 : ¬ w2.heap.size + 1 = w.heap.size + 2 := (by omega)
              have q2n2_2 : ¬ w2.heap.size + 2 = w.heap.size + 2 := (by omega)
              have q2c2_0 := hb.cell (p := ⟨w.heap.size + 2, 0, none⟩) (by first | omega | (simp <;> omega))
              simp [go_sem, *] at q2c2_0
              have q2c2_1 := hb.cell (p := ⟨w.heap.size + 2, 1, none⟩) (by first | omega | (simp <;> omega))
              simp [go_sem, *] at q2c2_1
              have q2f2 := fun o => hb.frozen (p := ⟨w.heap.size + 2, o, none⟩) (by first | omega | (simp <;> omega))
              simp [go_sem, *] at q2f2
              have q2s3 : w1.heap.size < w2.heap.size := (by omega)
              have q2n3_0 : ¬ w2.heap.size = w1.heap.size := (by omega)
              have q2n3_1 : ¬ w2.heap.size + 1 = w1.heap.size := (by omega)
              have q2n3_2 : ¬ w2.heap.size + 2 = w1.heap.size := (by omega)
              have q2c3_0 := hb.cell (p := ⟨w1.heap.size, 0, none⟩) (by first | omega | (simp <;> omega))
              simp [go_sem, *] at q2c3_0
              have q2c3_1 := hb.cell (p := ⟨w1.heap.size, 1, none⟩) (by first | omega | (simp <;> omega))
              simp [go_sem, *] at q2c3_1
              have q2f3 := fun o => hb.frozen (p := ⟨w1.heap.size, o, none⟩) (by first | omega | (simp <;> omega))
              simp [go_sem, *] at q2f3
              have q2o : ∀ b o, b < w.heap.size → w2.cell? ⟨b, o, none⟩ = w.cell? ⟨b, o, none⟩ := fun b o h => q2B.cell (p := ⟨b, o, none⟩) h
              clear hb q1o q1f2 q1c2_1 q1c2_0 q1s2 q1f1 q1c1_1 q1c1_0 q1s1 q1f0 q1c0_1 q1c0_0 q1s0 q1z q1B
              go_wp2_with fail
              go_roundw
              case rel =>
                refine ⟨k + 1, 2 * q + 1, 2 * nk - 18446744073709551616, by omega, by go_num, congrArg (Value.int .u64) (by (try rw [wrapU]); omega), by omega, by omega, by omega, by rw [Int.pow_succ, ← Int.mul_assoc, HE.out]; omega, by rw [HN.out], ?_, ?_, ?_, ?_, ?_⟩
                · (repeat (first | (with_reducible exact Below.refl _ _) | (with_reducible assumption) | ((with_reducible refine Below.alloc ?_ ?_ _); (rotate_left); (first | omega | (simp <;> omega))) | ((with_reducible refine Below.setCell ?_ ?_ _); (rotate_left); (first | omega | (simp <;> omega))) | (with_reducible refine Below.drew ?_) | (with_reducible refine below_drewN ?_ _)))
                · simp; omega
                · exact ⟨by simp [go_sem, *], by simp [go_sem, *], by simp [go_sem, *]⟩
                · exact ⟨by simp [go_sem, *], by simp [go_sem, *], by simp [go_sem, *]⟩
                · exact ⟨by simp [go_sem, *], by simp [go_sem, *], by simp [go_sem, *]⟩
              case measure => simp [intOf]; omega
            · skip
              have HF := hide (fitM_t hq)
              have HF1 := hide (fitM_t ((HT.out.2.2.1 hq).2 h2))
              have HF2 := hide (fitM_f (fun hx => h3 ((HT.out.2.2.2.1 h2).1 hx)))
              have HN := hide (fitM_f h3)
              clear hq h2 h3
              rw [HF.out]
              go_wp2_with fail
              refine (rplus_any _ _ MM MM _).mono ?_
              rintro e w1 ⟨rfl, hb⟩
              rw [HF1.out, HT.out.1]
              have q1B : Below w.heap.size w w1 := (by refine Below.trans ?_ (hb.mono (by first | omega | (simp <;> omega))); (repeat (first | (with_reducible exact Below.refl _ _) | (with_reducible assumption) | ((with_reducible refine Below.alloc ?_ ?_ _); (rotate_left); (first | omega | (simp <;> omega))) | ((with_reducible refine Below.setCell ?_ ?_ _); (rotate_left); (first | omega | (simp <;> omega))) | (with_reducible refine Below.drew ?_) | (with_reducible refine below_drewN ?_ _))))
              have q1z := hb.size
              try simp at q1z
              have q1t : w.heap.size ≤ w1.heap.size := (by omega)
              have q1s0 : w.heap.size < w1.heap.size := (by omega)
              have q1n0_0 : ¬ w1.heap.size = w.heap.size := (by omega)
              have q1n0_1 : ¬ w1.heap.size + 1 = w.heap.size := (by omega)
              have q1n0_2 : ¬ w1.heap.size + 2 = w.heap.size := (by omega)
              have q1c0_0 := hb.cell (p := ⟨w.heap.size, 0, none⟩) (by first | omega | (simp <;> omega))
              simp [go_sem, *] at q1c0_0
              have q1c0_1 := hb.cell (p := ⟨w.heap.size, 1, none⟩) (by first | omega | (simp <;> omega))
              simp [go_sem, *] at q1c0_1
              have q1f0 := fun o => hb.frozen (p := ⟨w.heap.size, o, none⟩) (by first | omega | (simp <;> omega))
              simp [go_sem, *] at q1f0
              have q1s1 : w.heap.size + 1 < w1.heap.size := (by omega)
              have q1n1_0 : ¬ w1.heap.size = w.heap.size + 1 := (by omega)
              have q1n1_1 : ¬ w1.heap.size + 1 = w.heap.size + 1 := (by omega)
              have q1n1_2 : ¬ w1.heap.size + 2 = w.heap.size + 1 := (by omega)
              have q1c1_0 := hb.cell (p := ⟨w.heap.size + 1, 0, none⟩) (by first | omega | (simp <;> omega))
              simp [go_sem, *] at q1c1_0
              have q1c1_1 := hb.cell (p := ⟨w.heap.size + 1, 1, none⟩) (by first | omega | (simp <;> omega))
              simp [go_sem, *] at q1c1_1
              have q1f1 := fun o => hb.frozen (p := ⟨w.heap.size + 1, o, none⟩) (by first | omega | (simp <;> omega))
              simp [go_sem, *] at q1f1
              have q1s2 : w.heap.size + 2 < w1.heap.size := (by omega)
              have q1n2_0 : ¬ w1.heap.size = w.heap.size + 2 := (by omega)
              have q1n2_1 : ¬ w1.heap.size + 1 = w.heap.size + 2 := (by omega)
              have q1n2_2 : ¬ w1.heap.size + 2 = w.heap.size + 2 := (by omega)
              have q1c2_0 := hb.cell (p := ⟨w.heap.size + 2, 0, none⟩) (by first | omega | (simp <;> omega))
              simp [go_sem, *] at q1c2_0
              have q1c2_1 := hb.cell (p := ⟨w.heap.size + 2, 1, none⟩) (by first | omega | (simp <;> omega))
              simp [go_sem, *] at q1c2_1
              have q1f2 := fun o => hb.frozen (p := ⟨w.heap.size + 2, o, none⟩) (by first | omega | (simp <;> omega))
              simp [go_sem, *] at q1f2
              have q1o : ∀ b o, b < w.heap.size → w1.cell? ⟨b, o, none⟩ = w.cell? ⟨b, o, none⟩ := fun b o h => q1B.cell (p := ⟨b, o, none⟩) h
              clear hb
              go_wp2_with fail
              refine (rplus_any _ _ (mod128_in _) hm _).mono ?_
              rintro e w2 ⟨rfl, hb⟩
              rw [HF2.out, HT.out.2.1]
              have q2B : Below w.heap.size w w2 := (by refine Below.trans ?_ (hb.mono (by first | omega | (simp <;> omega))); (repeat (first | (with_reducible exact Below.refl _ _) | (with_reducible assumption) | ((with_reducible refine Below.alloc ?_ ?_ _); (rotate_left); (first | omega | (simp <;> omega))) | ((with_reducible refine Below.setCell ?_ ?_ _); (rotate_left); (first | omega | (simp <;> omega))) | (with_reducible refine Below.drew ?_) | (with_reducible refine below_drewN ?_ _))))
              have q2z := hb.size
              try simp at q2z
              have q2t : w.heap.size ≤ w2.heap.size := (by omega)
              have q2s0 : w.heap.size < w2.heap.size := (by omega)
              have q2n0_0 : ¬ w2.heap.size = w.heap.size := (by omega)
              have q2n0_1 : ¬ w2.heap.size + 1 = w.heap.size := (by omega)
              have q2n0_2 : ¬ w2.heap.size + 2 = w.heap.size := (by omega)
              have q2c0_0 := hb.cell (p := ⟨w.heap.size, 0, none⟩) (by first | omega | (simp <;> omega))
              simp [go_sem, *] at q2c0_0
              have q2c0_1 := hb.cell (p := ⟨w.heap.size, 1, none⟩) (by first | omega | (simp <;> omega))
              simp [go_sem, *] at q2c0_1
              have q2f0 := fun o => hb.frozen (p := ⟨w.heap.size, o, none⟩) (by first | omega | (simp <;> omega))
              simp [go_sem, *] at q2f0
              have q2s1 : w.heap.size + 1 < w2.heap.size := (by omega)
              have q2n1_0 : ¬ w2.heap.size = w.heap.size + 1 := (by omega)
              have q2n1_1 : ¬ w2.heap.size + 1 = w.heap.size + 1 := (by omega)
              have q2n1_2 : ¬ w2.heap.size + 2 = w.heap.size + 1 := (by omega)
              have q2c1_0 := hb.cell (p := ⟨w.heap.size + 1, 0, none⟩) (by first | omega | (simp <;> omega))
              simp [go_sem, *] at q2c1_0
              have q2c1_1 := hb.cell (p := ⟨w.heap.size + 1, 1, none⟩) (by first | omega | (simp <;> omega))
              simp [go_sem, *] at q2c1_1
              have q2f1 := fun o => hb.frozen (p := ⟨w.heap.size + 1, o, none⟩) (by first | omega | (simp <;> omega))
              simp [go_sem, *] at q2f1
              have q2s2 : w.heap.size + 2 < w2.heap.size := (by omega)
              have q2n2_0 : ¬ w2.heap.size = w.heap.size + 2 := (by omega)
              have q2n2_1 : ¬ w2.heap.size + 1 = w.heap.size + 2 := (by omega)
              have q2n2_2 : ¬ w2.heap.size + 2 = w.heap.size + 2 := (by omega)
              have q2c2_0 := hb.cell (p := ⟨w.heap.size + 2, 0, none⟩) (by first | omega | (simp <;> omega))
              simp [go_sem, *] at q2c2_0
              have q2c2_1 := hb.cell (p := ⟨w.heap.size + 2, 1, none⟩) (by first | omega | (simp <;> omega))
              simp [go_sem, *] at q2c2_1
              have q2f2 := fun o => hb.frozen (p := ⟨w.heap.size + 2, o, none⟩) (by first | omega | (simp <;> omega))
              simp [go_sem, *] at q2f2
              have q2s3 : w1.heap.size < w2.heap.size := (by omega)
              have q2n3_0 : ¬ w2.heap.size = w1.heap.size := (by omega)
              have q2n3_1 : ¬ w2.heap.size + 1 = w1.heap.size := (by omega)
              have q2n3_2 : ¬ w2.heap.size + 2 = w1.heap.size := (by omega)
              have q2c3_0 := hb.cell (p := ⟨w1.heap.size, 0, none⟩) (by first | omega | (simp <;> omega))
              simp [go_sem, *] at q2c3_0
              have q2c3_1 := hb.cell (p := ⟨w1.heap.size, 1, none⟩) (by first | omega | (simp <;> omega))
              simp [go_sem, *] at q2c3_1
              have q2f3 := fun o => hb.frozen (p := ⟨w1.heap.size, o, none⟩) (by first | omega | (simp <;> omega))
              simp [go_sem, *] at q2f3
              have q2o : ∀ b o, b < w.heap.size → w2.cell? ⟨b, o, none⟩ = w.cell? ⟨b, o, none⟩ := fun b o h => q2B.cell (p := ⟨b, o, none⟩) h
              clear hb q1o q1f2 q1c2_1 q1c2_0 q1s2 q1f1 q1c1_1 q1c1_0 q1s1 q1f0 q1c0_1 q1c0_0 q1s0 q1z q1B
              go_wp2_with fail
              go_roundw
              case rel =>
                refine ⟨k + 1, 2 * q + 1, 2 * nk - 18446744073709551616, by omega, by go_num, congrArg (Value.int .u64) (by (try rw [wrapU]); omega), by omega, by omega, by omega, by rw [Int.pow_succ, ← Int.mul_assoc, HE.out]; omega, by rw [HN.out], ?_, ?_, ?_, ?_, ?_⟩
                · (repeat (first | (with_reducible exact Below.refl _ _) | (with_reducible assumption) | ((with_reducible refine Below.alloc ?_ ?_ _); (rotate_left); (first | omega | (simp <;> omega))) | ((with_reducible refine Below.setCell ?_ ?_ _); (rotate_left); (first | omega | (simp <;> omega))) | (with_reducible refine Below.drew ?_) | (with_reducible refine below_drewN ?_ _)))
                · simp; omega
                · exact ⟨by simp [go_sem, *], by simp [go_sem, *], by simp [go_sem, *]⟩
                · exact ⟨by simp [go_sem, *], by simp [go_sem, *], by simp [go_sem, *]⟩
                · exact ⟨by simp [go_sem, *], by simp [go_sem, *], by simp [go_sem, *]⟩
              case measure => simp [intOf]; omega
          · have h3 : ¬ m * (2 * q + 1) < 340282366920938463463374607431768211456 := fun hx => h2 (HT.out.2.2.2.2.1 hx)
            have HF := hide (fitM_t hq)
            have HF1 := hide (fitM_f (fun hx => h2 ((HT.out.2.2.1 hq).1 hx)))
            have HN := hide (fitM_f h3)
            clear hq h2 h3
            rw [HF.out]
            go_wp2_with fail
            refine (rplus_any _ _ MM MM _).mono ?_
            rintro e w1 ⟨rfl, hb⟩
            rw [HF1.out, HT.out.1]
            have q1B : Below w.heap.size w w1 := (by refine Below.trans ?_ (hb.mono (by first | omega | (simp <;> omega))); (repeat (first | (with_reducible exact Below.refl _ _) | (with_reducible assumption) | ((with_reducible refine Below.alloc ?_ ?_ _); (rotate_left); (first | omega | (simp <;> omega))) | ((with_reducible refine Below.setCell ?_ ?_ _); (rotate_left); (first | omega | (simp <;> omega))) | (with_reducible refine Below.drew ?_) | (with_reducible refine below_drewN ?_ _))))
            have q1z := hb.size
            try simp at q1z
            have q1t : w.heap.size ≤ w1.heap.size := (by omega)
            have q1s0 : w.heap.size < w1.heap.size := (by omega)
            have q1n0_0 : ¬ w1.heap.size = w.heap.size := (by omega)
            have q1n0_1 : ¬ w1.heap.size + 1 = w.heap.size := (by omega)
            have q1n0_2 : ¬ w1.heap.size + 2 = w.heap.size := (by omega)
            have q1c0_0 := hb.cell (p := ⟨w.heap.size, 0, none⟩) (by first | omega | (simp <;> omega))
            simp [go_sem, *] at q1c0_0
            have q1c0_1 := hb.cell (p := ⟨w.heap.size, 1, none⟩) (by first | omega | (simp <;> omega))
            simp [go_sem, *] at q1c0_1
            have q1f0 := fun o => hb.frozen (p := ⟨w.heap.size, o, none⟩) (by first | omega | (simp <;> omega))
            simp [go_sem, *] at q1f0
            have q1s1 : w.heap.size + 1 < w1.heap.size := (by omega)
            have q1n1_0 : ¬ w1.heap.size = w.heap.size + 1 := (by omega)
            have q1n1_1 : ¬ w1.heap.size + 1 = w.heap.size + 1 := (by omega)
            have q1n1_2 : ¬ w1.heap.size + 2 = w.heap.size + 1 := (by omega)
            have q1c1_0 := hb.cell (p := ⟨w.heap.size + 1, 0, none⟩) (by first | omega | (simp <;> omega))
            simp [go_sem, *] at q1c1_0
            have q1c1_1 := hb.cell (p := ⟨w.heap.size + 1, 1, none⟩) (by first | omega | (simp <;> omega))
            simp [go_sem, *] at q1c1_1
            have q1f1 := fun o => hb.frozen (p := ⟨w.heap.size + 1, o, none⟩) (by first | omega | (simp <;> omega))
            simp [go_sem, *] at q1f1
            have q1s2 : w.heap.size + 2 < w1.heap.size := (by omega)
            have q1n2_0 : ¬ w1.heap.size = w.heap.size + 2 := (by omega)
            have q1n2_1 : ¬ w1.heap.size + 1 = w.heap.size + 2 := (by omega)
            have q1n2_2 : ¬ w1.heap.size + 2 = w.heap.size + 2 := (by omega)
            have q1c2_0 := hb.cell (p := ⟨w.heap.size + 2, 0, none⟩) (by first | omega | (simp <;> omega))
            simp [go_sem, *] at q1c2_0
            have q1c2_1 := hb.cell (p := ⟨w.heap.size + 2, 1, none⟩) (by first | omega | (simp <;> omega))
            simp [go_sem, *] at q1c2_1
            have q1f2 := fun o => hb.frozen (p := ⟨w.heap.size + 2, o, none⟩) (by first | omega | (simp <;> omega))
            simp [go_sem, *] at q1f2
            have q1o : ∀ b o, b < w.heap.size → w1.cell? ⟨b, o, none⟩ = w.cell? ⟨b, o, none⟩ := fun b o h => q1B.cell (p := ⟨b, o, none⟩) h
            clear hb
            go_wp2_with fail
            refine (rplus_any _ _ (mod128_in _) hm _).mono ?_
            rintro e w2 ⟨rfl, hb⟩
            rw [HT.out.2.1]
            have q2B : Below w.heap.size w w2 := (by refine Below.trans ?_ (hb.mono (by first | omega | (simp <;> omega))); (repeat (first | (with_reducible exact Below.refl _ _) | (with_reducible assumption) | ((with_reducible refine Below.alloc ?_ ?_ _); (rotate_left); (first | omega | (simp <;> omega))) | ((with_reducible refine Below.setCell ?_ ?_ _); (rotate_left); (first | omega | (simp <;> omega))) | (with_reducible refine Below.drew ?_) | (with_reducible refine below_drewN ?_ _))))
            have q2z := hb.size
            try simp at q2z
            have q2t : w.heap.size ≤ w2.heap.size := (by omega)
            have q2s0 : w.heap.size < w2.heap.size := (by omega)
            have q2n0_0 : ¬ w2.heap.size = w.heap.size := (by omega)
            have q2n0_1 : ¬ w2.heap.size + 1 = w.heap.size := (by omega)
            have q2n0_2 : ¬ w2.heap.size + 2 = w.heap.size := (by omega)
            have q2c0_0 := hb.cell (p := ⟨w.heap.size, 0, none⟩) (by first | omega | (simp <;> omega))
            simp [go_sem, *] at q2c0_0
            have q2c0_1 := hb.cell (p := ⟨w.heap.size, 1, none⟩) (by first | omega | (simp <;> omega))
            simp [go_sem, *] at q2c0_1
            have q2f0 := fun o => hb.frozen (p := ⟨w.heap.size, o, none⟩) (by first | omega | (simp <;> omega))
            simp [go_sem, *] at q2f0
            have q2s1 : w.heap.size + 1 < w2.heap.size := (by omega)
            have q2n1_0 : ¬ w2.heap.size = w.heap.size + 1 := (by omega)
            have q2n1_1 : ¬ w2.heap.size + 1 = w.heap.size + 1 := (by omega)
            have q2n1_2 : ¬ w2.heap.size + 2 = w.heap.size + 1 := (by omega)
            have q2c1_0 := hb.cell (p := ⟨w.heap.size + 1, 0, none⟩) (by first | omega | (simp <;> omega))
            simp [go_sem, *] at q2c1_0
            have q2c1_1 := hb.cell (p := ⟨w.heap.size + 1, 1, none⟩) (by first | omega | (simp <;> omega))
            simp [go_sem, *] at q2c1_1
            have q2f1 := fun o => hb.frozen (p := ⟨w.heap.size + 1, o, none⟩) (by first | omega | (simp <;> omega))
            simp [go_sem, *] at q2f1
            have q2s2 : w.heap.size + 2 < w2.heap.size := (by omega)
            have q2n2_0 : ¬ w2.heap.size = w.heap.size + 2 := (by omega)
            have q2n2_1 : ¬ w2.heap.size + 1 = w.heap.size + 2 := (by omega)
            have q2n2_2 : ¬ w2.heap.size + 2 = w.heap.size + 2 := (by omega)
            have q2c2_0 := hb.cell (p := ⟨w.heap.size + 2, 0, none⟩) (by first | omega | (simp <;> omega))
            simp [go_sem, *] at q2c2_0
            have q2c2_1 := hb.cell (p := ⟨w.heap.size + 2, 1, none⟩) (by first | omega | (simp <;> omega))
            simp [go_sem, *] at q2c2_1
            have q2f2 := fun o => hb.frozen (p := ⟨w.heap.size + 2, o, none⟩) (by first | omega | (simp <;> omega))
            simp [go_sem, *] at q2f2
            have q2s3 : w1.heap.size < w2.heap.size := (by omega)
            have q2n3_0 : ¬ w2.heap.size = w1.heap.size := (by omega)
            have q2n3_1 : ¬ w2.heap.size + 1 = w1.heap.size := (by omega)
            have q2n3_2 : ¬ w2.heap.size + 2 = w1.heap.size := (by omega)
            have q2c3_0 := hb.cell (p := ⟨w1.heap.size, 0, none⟩) (by first | omega | (simp <;> omega))
            simp [go_sem, *] at q2c3_0
            have q2c3_1 := hb.cell (p := ⟨w1.heap.size, 1, none⟩) (by first | omega | (simp <;> omega))
            simp [go_sem, *] at q2c3_1
            have q2f3 := fun o => hb.frozen (p := ⟨w1.heap.size, o, none⟩) (by first | omega | (simp <;> omega))
            simp [go_sem, *] at q2f3
            have q2o : ∀ b o, b < w.heap.size → w2.cell? ⟨b, o, none⟩ = w.cell? ⟨b, o, none⟩ := fun b o h => q2B.cell (p := ⟨b, o, none⟩) h
            clear hb q1o q1f2 q1c2_1 q1c2_0 q1s2 q1f1 q1c1_1 q1c1_0 q1s1 q1f0 q1c0_1 q1c0_0 q1s0 q1z q1B
            go_wp2_with fail
            go_roundw
            case rel =>
              refine ⟨k + 1, 2 * q + 1, 2 * nk - 18446744073709551616, by omega, by go_num, congrArg (Value.int .u64) (by (try rw [wrapU]); omega), by omega, by omega, by omega, by rw [Int.pow_succ, ← Int.mul_assoc, HE.out]; omega, by rw [HN.out], ?_, ?_, ?_, ?_, ?_⟩
              · (repeat (first | (with_reducible exact Below.refl _ _) | (with_reducible assumption) | ((with_reducible refine Below.alloc ?_ ?_ _); (rotate_left); (first | omega | (simp <;> omega))) | ((with_reducible refine Below.setCell ?_ ?_ _); (rotate_left); (first | omega | (simp <;> omega))) | (with_reducible refine Below.drew ?_) | (with_reducible refine below_drewN ?_ _)))
              · simp; omega
              · exact ⟨by simp [go_sem, *], by simp [go_sem, *], by simp [go_sem, *]⟩
              · exact ⟨by simp [go_sem, *], by simp [go_sem, *], by simp [go_sem, *]⟩
              · exact ⟨by simp [go_sem, *], by simp [go_sem, *], by simp [go_sem, *]⟩
            case measure => simp [intOf]; omega
        · have h2 : ¬ m * (2 * q) < 340282366920938463463374607431768211456 := fun hx => hq (HT.out.2.2.2.2.2 hx)
          have h3 : ¬ m * (2 * q + 1) < 340282366920938463463374607431768211456 := fun hx => h2 (HT.out.2.2.2.2.1 hx)
          have HF := hide (fitM_f hq)
          have HN := hide (fitM_f h3)
          clear hq h2 h3
          rw [HF.out]
          go_wp2_with fail
          refine (rplus_any _ _ MM MM _).mono ?_
          rintro e w1 ⟨rfl, hb⟩
          rw [HT.out.1]
          have q1B : Below w.heap.size w w1 := (by refine Below.trans ?_ (hb.mono (by first | omega | (simp <;> omega))); (repeat (first | (with_reducible exact Below.refl _ _) | (with_reducible assumption) | ((with_reducible refine Below.alloc ?_ ?_ _); (rotate_left); (first | omega | (simp <;> omega))) | ((with_reducible refine Below.setCell ?_ ?_ _); (rotate_left); (first | omega | (simp <;> omega))) | (with_reducible refine Below.drew ?_) | (with_reducible refine below_drewN ?_ _))))
          have q1z := hb.size
          try simp at q1z
          have q1t : w.heap.size ≤ w1.heap.size := (by omega)
          have q1s0 : w.heap.size < w1.heap.size := (by omega)
          have q1n0_0 : ¬ w1.heap.size = w.heap.size := (by omega)
          have q1n0_1 : ¬ w1.heap.size + 1 = w.heap.size := (by omega)
          have q1n0_2 : ¬ w1.heap.size + 2 = w.heap.size := (by omega)
          have q1c0_0 := hb.cell (p := ⟨w.heap.size, 0, none⟩) (by first | omega | (simp <;> omega))
          simp [go_sem, *] at q1c0_0
          have q1c0_1 := hb.cell (p := ⟨w.heap.size, 1, none⟩) (by first | omega | (simp <;> omega))
          simp [go_sem, *] at q1c0_1
          have q1f0 := fun o => hb.frozen (p := ⟨w.heap.size, o, none⟩) (by first | omega | (simp <;> omega))
          simp [go_sem, *] at q1f0
          have q1s1 : w.heap.size + 1 < w1.heap.size := (by omega)
          have q1n1_0 : ¬ w1.heap.size = w.heap.size + 1 := (by omega)
          have q1n1_1 : ¬ w1.heap.size + 1 = w.heap.size + 1 := (by omega)
          have q1n1_2 : ¬ w1.heap.size + 2 = w.heap.size + 1 := (by omega)
          have q1c1_0 := hb.cell (p := ⟨w.heap.size + 1, 0, none⟩) (by first | omega | (simp <;> omega))
          simp [go_sem, *] at q1c1_0
          have q1c1_1 := hb.cell (p := ⟨w.heap.size + 1, 1, none⟩) (by first | omega | (simp <;> omega))
          simp [go_sem, *] at q1c1_1
          have q1f1 := fun o => hb.frozen (p := ⟨w.heap.size + 1, o, none⟩) (by first | omega | (simp <;> omega))
          simp [go_sem, *] at q1f1
          have q1s2 : w.heap.size + 2 < w1.heap.size := (by omega)
          have q1n2_0 : ¬ w1.heap.size = w.heap.size + 2 := (by omega)
          have q1n2_1 : ¬ w1.heap.size + 1 = w.heap.size + 2 := (by omega)
          have q1n2_2 : ¬ w1.heap.size + 2 = w.heap.size + 2 := (by omega)
          have q1c2_0 := hb.cell (p := ⟨w.heap.size + 2, 0, none⟩) (by first | omega | (simp <;> omega))
          simp [go_sem, *] at q1c2_0
          have q1c2_1 := hb.cell (p := ⟨w.heap.size + 2, 1, none⟩) (by first | omega | (simp <;> omega))
          simp [go_sem, *] at q1c2_1
          have q1f2 := fun o => hb.frozen (p := ⟨w.heap.size + 2, o, none⟩) (by first | omega | (simp <;> omega))
          simp [go_sem, *] at q1f2
          have q1o : ∀ b o, b < w.heap.size → w1.cell? ⟨b, o, none⟩ = w.cell? ⟨b, o, none⟩ := fun b o h => q1B.cell (p := ⟨b, o, none⟩) h
          clear hb
          go_wp2_with fail
          refine (rplus_any _ _ (mod128_in _) hm _).mono ?_
          rintro e w2 ⟨rfl, hb⟩
          rw [HT.out.2.1]
          have q2B : Below w.heap.size w w2 := (by refine Below.trans ?_ (hb.mono (by first | omega | (simp <;> omega))); (repeat (first | (with_reducible exact Below.refl _ _) | (with_reducible assumption) | ((with_reducible refine Below.alloc ?_ ?_ _); (rotate_left); (first | omega | (simp <;> omega))) | ((with_reducible refine Below.setCell ?_ ?_ _); (rotate_left); (first | omega | (simp <;> omega))) | (with_reducible refine Below.drew ?_) | (with_reducible refine below_drewN ?_ _))))
          have q2z := hb.size
          try simp at q2z
          have q2t : w.heap.size ≤ w2.heap.size := (by omega)
          have q2s0 : w.heap.size < w2.heap.size := (by omega)
          have q2n0_0 : ¬ w2.heap.size = w.heap.size := (by omega)
          have q2n0_1 : ¬ w2.heap.size + 1 = w.heap.size := (by omega)
          have q2n0_2 : ¬ w2.heap.size + 2 = w.heap.size := (by omega)
          have q2c0_0 := hb.cell (p := ⟨w.heap.size, 0, none⟩) (by first | omega | (simp <;> omega))
          simp [go_sem, *] at q2c0_0
          have q2c0_1 := hb.cell (p := ⟨w.heap.size, 1, none⟩) (by first | omega | (simp <;> omega))
          simp [go_sem, *] at q2c0_1
          have q2f0 := fun o => hb.frozen (p := ⟨w.heap.size, o, none⟩) (by first | omega | (simp <;> omega))
          simp [go_sem, *] at q2f0
          have q2s1 : w.heap.size + 1 < w2.heap.size := (by omega)
          have q2n1_0 : ¬ w2.heap.size = w.heap.size + 1 := (by omega)
          have q2n1_1 : ¬ w2.heap.size + 1 = w.heap.size + 1 := (by omega)
          have q2n1_2 : ¬ w2.heap.size + 2 = w.heap.size + 1 := (by omega)
          have q2c1_0 := hb.cell (p := ⟨w.heap.size + 1, 0, none⟩) (by first | omega | (simp <;> omega))
          simp [go_sem, *] at q2c1_0
          have q2c1_1 := hb.cell (p := ⟨w.heap.size + 1, 1, none⟩) (by first | omega | (simp <;> omega))
          simp [go_sem, *] at q2c1_1
          have q2f1 := fun o => hb.frozen (p := ⟨w.heap.size + 1, o, none⟩) (by first | omega | (simp <;> omega))
          simp [go_sem, *] at q2f1
          have q2s2 : w.heap.size + 2 < w2.heap.size := (by omega)
          have q2n2_0 : ¬ w2.heap.size = w.heap.size + 2 := (by omega)
          have q2n2_1 : ¬ w2.heap.size + 1 = w.heap.size + 2 := (by omega)
          have q2n2_2 : ¬ w2.heap.size + 2 = w.heap.size + 2 := (by omega)
          have q2c2_0 := hb.cell (p := ⟨w.heap.size + 2, 0, none⟩) (by first | omega | (simp <;> omega))
          simp [go_sem, *] at q2c2_0
          have q2c2_1 := hb.cell (p := ⟨w.heap.size + 2, 1, none⟩) (by first | omega | (simp <;> omega))
          simp [go_sem, *] at q2c2_1
          have q2f2 := fun o => hb.frozen (p := ⟨w.heap.size + 2, o, none⟩) (by first | omega | (simp <;> omega))
          simp [go_sem, *] at q2f2
          have q2s3 : w1.heap.size < w2.heap.size := (by omega)
          have q2n3_0 : ¬ w2.heap.size = w1.heap.size := (by omega)
          have q2n3_1 : ¬ w2.heap.size + 1 = w1.heap.size := (by omega)
          have q2n3_2 : ¬ w2.heap.size + 2 = w1.heap.size := (by omega)
          have q2c3_0 := hb.cell (p := ⟨w1.heap.size, 0, none⟩) (by first | omega | (simp <;> omega))
          simp [go_sem, *] at q2c3_0
          have q2c3_1 := hb.cell (p := ⟨w1.heap.size, 1, none⟩) (by first | omega | (simp <;> omega))
          simp [go_sem, *] at q2c3_1
          have q2f3 := fun o => hb.frozen (p := ⟨w1.heap.size, o, none⟩) (by first | omega | (simp <;> omega))
          simp [go_sem, *] at q2f3
          have q2o : ∀ b o, b < w.heap.size → w2.cell? ⟨b, o, none⟩ = w.cell? ⟨b, o, none⟩ := fun b o h => q2B.cell (p := ⟨b, o, none⟩) h
          clear hb q1o q1f2 q1c2_1 q1c2_0 q1s2 q1f1 q1c1_1 q1c1_0 q1s1 q1f0 q1c0_1 q1c0_0 q1s0 q1z q1B
          go_wp2_with fail
          go_roundw
          case rel =>
            refine ⟨k + 1, 2 * q + 1, 2 * nk - 18446744073709551616, by omega, by go_num, congrArg (Value.int .u64) (by (try rw [wrapU]); omega), by omega, by omega, by omega, by rw [Int.pow_succ, ← Int.mul_assoc, HE.out]; omega, by rw [HN.out], ?_, ?_, ?_, ?_, ?_⟩
            · (repeat (first | (with_reducible exact Below.refl _ _) | (with_reducible assumption) | ((with_reducible refine Below.alloc ?_ ?_ _); (rotate_left); (first | omega | (simp <;> omega))) | ((with_reducible refine Below.setCell ?_ ?_ _); (rotate_left); (first | omega | (simp <;> omega))) | (with_reducible refine Below.drew ?_) | (with_reducible refine below_drewN ?_ _)))
            · simp; omega
            · exact ⟨by simp [go_sem, *], by simp [go_sem, *], by simp [go_sem, *]⟩
            · exact ⟨by simp [go_sem, *], by simp [go_sem, *], by simp [go_sem, *]⟩
            · exact ⟨by simp [go_sem, *], by simp [go_sem, *], by simp [go_sem, *]⟩
          case measure => simp [intOf]; omega
      · have hbit' : nk < 9223372036854775808 := by omega
        have et := and_top_lo nk k1 hbit'
        clear hbit
        by_cases hq : m * q < 340282366920938463463374607431768211456
        · by_cases h2 : m * (2 * q) < 340282366920938463463374607431768211456
          · skip
            have HF := hide (fitM_t hq)
            have HF1 := hide (fitM_t ((HT.out.2.2.1 hq).2 h2))
            have HN := hide (fitM_t h2)
            clear hq h2
            rw [HF.out]
            go_wp2_with fail
            refine (rplus_any _ _ MM MM _).mono ?_
            rintro e w1 ⟨rfl, hb⟩
            rw [HF1.out, HT.out.1]
            have q1B : Below w.heap.size w w1 := (by refine Below.trans ?_ (hb.mono (by first | omega | (simp <;> omega))); (repeat (first | (with_reducible exact Below.refl _ _) | (with_reducible assumption) | ((with_reducible refine Below.alloc ?_ ?_ _); (rotate_left); (first | omega | (simp <;> omega))) | ((with_reducible refine Below.setCell ?_ ?_ _); (rotate_left); (first | omega | (simp <;> omega))) | (with_reducible refine Below.drew ?_) | (with_reducible refine below_drewN ?_ _))))
            have q1z := hb.size
            try simp at q1z
            have q1t : w.heap.size ≤ w1.heap.size := (by omega)
            have q1s0 : w.heap.size < w1.heap.size := (by omega)
            have q1n0_0 : ¬ w1.heap.size = w.heap.size := (by omega)
            have q1n0_1 : ¬ w1.heap.size + 1 = w.heap.size := (by omega)
            have q1n0_2 : ¬ w1.heap.size + 2 = w.heap.size := (by omega)
            have q1c0_0 := hb.cell (p := ⟨w.heap.size, 0, none⟩) (by first | omega | (simp <;> omega))
            simp [go_sem, *] at q1c0_0
            have q1c0_1 := hb.cell (p := ⟨w.heap.size, 1, none⟩) (by first | omega | (simp <;> omega))
            simp [go_sem, *] at q1c0_1
            have q1f0 := fun o => hb.frozen (p := ⟨w.heap.size, o, none⟩) (by first | omega | (simp <;> omega))
            simp [go_sem, *] at q1f0
            have q1s1 : w.heap.size + 1 < w1.heap.size := (by omega)
            have q1n1_0 : ¬ w1.heap.size = w.heap.size + 1 := (by omega)
            have q1n1_1 : ¬ w1.heap.size + 1 = w.heap.size + 1 := (by omega)
            have q1n1_2 : ¬ w1.heap.size + 2 = w.heap.size + 1 := (by omega)
            have q1c1_0 := hb.cell (p := ⟨w.heap.size + 1, 0, none⟩) (by first | omega | (simp <;> omega))
            simp [go_sem, *] at q1c1_0
            have q1c1_1 := hb.cell (p := ⟨w.heap.size + 1, 1, none⟩) (by first | omega | (simp <;> omega))
            simp [go_sem, *] at q1c1_1
            have q1f1 := fun o => hb.frozen (p := ⟨w.heap.size + 1, o, none⟩) (by first | omega | (simp <;> omega))
            simp [go_sem, *] at q1f1
            have q1s2 : w.heap.size + 2 < w1.heap.size := (by omega)
            have q1n2_0 : ¬ w1.heap.size = w.heap.size + 2 := (by omega)
            have q1n2_1 : ¬ w1.heap.size + 1 = w.heap.size + 2 := (by omega)
            have q1n2_2 : ¬ w1.heap.size + 2 = w.heap.size + 2 := (by omega)
            have q1c2_0 := hb.cell (p := ⟨w.heap.size + 2, 0, none⟩) (by first | omega | (simp <;> omega))
            simp [go_sem, *] at q1c2_0
            have q1c2_1 := hb.cell (p := ⟨w.heap.size + 2, 1, none⟩) (by first | omega | (simp <;> omega))
            simp [go_sem, *] at q1c2_1
            have q1f2 := fun o => hb.frozen (p := ⟨w.heap.size + 2, o, none⟩) (by first | omega | (simp <;> omega))
            simp [go_sem, *] at q1f2
            have q1o : ∀ b o, b < w.heap.size → w1.cell? ⟨b, o, none⟩ = w.cell? ⟨b, o, none⟩ := fun b o h => q1B.cell (p := ⟨b, o, none⟩) h
            clear hb
            go_wp2_with fail
            go_roundw
            case rel =>
              refine ⟨k + 1, 2 * q, 2 * nk, by omega, by go_num, congrArg (Value.int .u64) (by (try rw [wrapU]); omega), by omega, by omega, by omega, by rw [Int.pow_succ, ← Int.mul_assoc, HE.out]; omega, by rw [HN.out], ?_, ?_, ?_, ?_, ?_⟩
              · (repeat (first | (with_reducible exact Below.refl _ _) | (with_reducible assumption) | ((with_reducible refine Below.alloc ?_ ?_ _); (rotate_left); (first | omega | (simp <;> omega))) | ((with_reducible refine Below.setCell ?_ ?_ _); (rotate_left); (first | omega | (simp <;> omega))) | (with_reducible refine Below.drew ?_) | (with_reducible refine below_drewN ?_ _)))
              · simp; omega
              · exact ⟨by simp [go_sem, *], by simp [go_sem, *], by simp [go_sem, *]⟩
              · exact ⟨by simp [go_sem, *], by simp [go_sem, *], by simp [go_sem, *]⟩
              · exact ⟨by simp [go_sem, *], by simp [go_sem, *], by simp [go_sem, *]⟩
            case measure => simp [intOf]; omega
          · skip
            have HF := hide (fitM_t hq)
            have HF1 := hide (fitM_f (fun hx => h2 ((HT.out.2.2.1 hq).1 hx)))
            have HN := hide (fitM_f h2)
            clear hq h2
            rw [HF.out]
            go_wp2_with fail
            refine (rplus_any _ _ MM MM _).mono ?_
            rintro e w1 ⟨rfl, hb⟩
            rw [HF1.out, HT.out.1]
            have q1B : Below w.heap.size w w1 := (by refine Below.trans ?_ (hb.mono (by first | omega | (simp <;> omega))); (repeat (first | (with_reducible exact Below.refl _ _) | (with_reducible assumption) | ((with_reducible refine Below.alloc ?_ ?_ _); (rotate_left); (first | omega | (simp <;> omega))) | ((with_reducible refine Below.setCell ?_ ?_ _); (rotate_left); (first | omega | (simp <;> omega))) | (with_reducible refine Below.drew ?_) | (with_reducible refine below_drewN ?_ _))))
            have q1z := hb.size
            try simp at q1z
            have q1t : w.heap.size ≤ w1.heap.size := (by omega)
            have q1s0 : w.heap.size < w1.heap.size := (by omega)
            have q1n0_0 : ¬ w1.heap.size = w.heap.size := (by omega)
            have q1n0_1 : ¬ w1.heap.size + 1 = w.heap.size := (by omega)
            have q1n0_2 : ¬ w1.heap.size + 2 = w.heap.size := (by omega)
            have q1c0_0 := hb.cell (p := ⟨w.heap.size, 0, none⟩) (by first | omega | (simp <;> omega))
            simp [go_sem, *] at q1c0_0
            have q1c0_1 := hb.cell (p := ⟨w.heap.size, 1, none⟩) (by first | omega | (simp <;> omega))
            simp [go_sem, *] at q1c0_1
            have q1f0 := fun o => hb.frozen (p := ⟨w.heap.size, o, none⟩) (by first | omega | (simp <;> omega))
            simp [go_sem, *] at q1f0
            have q1s1 : w.heap.size + 1 < w1.heap.size := (by omega)
            have q1n1_0 : ¬ w1.heap.size = w.heap.size + 1 := (by omega)
            have q1n1_1 : ¬ w1.heap.size + 1 = w.heap.size + 1 := (by omega)
            have q1n1_2 : ¬ w1.heap.size + 2 = w.heap.size + 1 := (by omega)
            have q1c1_0 := hb.cell (p := ⟨w.heap.size + 1, 0, none⟩) (by first | omega | (simp <;> omega))
            simp [go_sem, *] at q1c1_0
            have q1c1_1 := hb.cell (p := ⟨w.heap.size + 1, 1, none⟩) (by first | omega | (simp <;> omega))
            simp [go_sem, *] at q1c1_1
            have q1f1 := fun o => hb.frozen (p := ⟨w.heap.size + 1, o, none⟩) (by first | omega | (simp <;> omega))
            simp [go_sem, *] at q1f1
            have q1s2 : w.heap.size + 2 < w1.heap.size := (by omega)
            have q1n2_0 : ¬ w1.heap.size = w.heap.size + 2 := (by omega)
            have q1n2_1 : ¬ w1.heap.size + 1 = w.heap.size + 2 := (by omega)
            have q1n2_2 : ¬ w1.heap.size + 2 = w.heap.size + 2 := (by omega)
            have q1c2_0 := hb.cell (p := ⟨w.heap.size + 2, 0, none⟩) (by first | omega | (simp <;> omega))
            simp [go_sem, *] at q1c2_0
            have q1c2_1 := hb.cell (p := ⟨w.heap.size + 2, 1, none⟩) (by first | omega | (simp <;> omega))
            simp [go_sem, *] at q1c2_1
            have q1f2 := fun o => hb.frozen (p := ⟨w.heap.size + 2, o, none⟩) (by first | omega | (simp <;> omega))
            simp [go_sem, *] at q1f2
            have q1o : ∀ b o, b < w.heap.size → w1.cell? ⟨b, o, none⟩ = w.cell? ⟨b, o, none⟩ := fun b o h => q1B.cell (p := ⟨b, o, none⟩) h
            clear hb
            go_wp2_with fail
            go_roundw
            case rel =>
              refine ⟨k + 1, 2 * q, 2 * nk, by omega, by go_num, congrArg (Value.int .u64) (by (try rw [wrapU]); omega), by omega, by omega, by omega, by rw [Int.pow_succ, ← Int.mul_assoc, HE.out]; omega, by rw [HN.out], ?_, ?_, ?_, ?_, ?_⟩
              · (repeat (first | (with_reducible exact Below.refl _ _) | (with_reducible assumption) | ((with_reducible refine Below.alloc ?_ ?_ _); (rotate_left); (first | omega | (simp <;> omega))) | ((with_reducible refine Below.setCell ?_ ?_ _); (rotate_left); (first | omega | (simp <;> omega))) | (with_reducible refine Below.drew ?_) | (with_reducible refine below_drewN ?_ _)))
              · simp; omega
              · exact ⟨by simp [go_sem, *], by simp [go_sem, *], by simp [go_sem, *]⟩
              · exact ⟨by simp [go_sem, *], by simp [go_sem, *], by simp [go_sem, *]⟩
              · exact ⟨by simp [go_sem, *], by simp [go_sem, *], by simp [go_sem, *]⟩
            case measure => simp [intOf]; omega
        · have h2 : ¬ m * (2 * q) < 340282366920938463463374607431768211456 := fun hx => hq (HT.out.2.2.2.2.2 hx)
          have HF := hide (fitM_f hq)
          have HN := hide (fitM_f h2)
          clear hq h2
          rw [HF.out]
          go_wp2_with fail
          refine (rplus_any _ _ MM MM _).mono ?_
          rintro e w1 ⟨rfl, hb⟩
          rw [HT.out.1]
          have q1B : Below w.heap.size w w1 := (by refine Below.trans ?_ (hb.mono (by first | omega | (simp <;> omega))); (repeat (first | (with_reducible exact Below.refl _ _) | (with_reducible assumption) | ((with_reducible refine Below.alloc ?_ ?_ _); (rotate_left); (first | omega | (simp <;> omega))) | ((with_reducible refine Below.setCell ?_ ?_ _); (rotate_left); (first | omega | (simp <;> omega))) | (with_reducible refine Below.drew ?_) | (with_reducible refine below_drewN ?_ _))))
          have q1z := hb.size
          try simp at q1z
          have q1t : w.heap.size ≤ w1.heap.size := (by omega)
          have q1s0 : w.heap.size < w1.heap.size := (by omega)
          have q1n0_0 : ¬ w1.heap.size = w.heap.size := (by omega)
          have q1n0_1 : ¬ w1.heap.size + 1 = w.heap.size := (by omega)
          have q1n0_2 : ¬ w1.heap.size + 2 = w.heap.size := (by omega)
          have q1c0_0 := hb.cell (p := ⟨w.heap.size, 0, none⟩) (by first | omega | (simp <;> omega))
          simp [go_sem, *] at q1c0_0
          have q1c0_1 := hb.cell (p := ⟨w.heap.size, 1, none⟩) (by first | omega | (simp <;> omega))
          simp [go_sem, *] at q1c0_1
          have q1f0 := fun o => hb.frozen (p := ⟨w.heap.size, o, none⟩) (by first | omega | (simp <;> omega))
          simp [go_sem, *] at q1f0
          have q1s1 : w.heap.size + 1 < w1.heap.size := (by omega)
          have q1n1_0 : ¬ w1.heap.size = w.heap.size + 1 := (by omega)
          have q1n1_1 : ¬ w1.heap.size + 1 = w.heap.size + 1 := (by omega)
          have q1n1_2 : ¬ w1.heap.size + 2 = w.heap.size + 1 := (by omega)
          have q1c1_0 := hb.cell (p := ⟨w.heap.size + 1, 0, none⟩) (by first | omega | (simp <;> omega))
          simp [go_sem, *] at q1c1_0
          have q1c1_1 := hb.cell (p := ⟨w.heap.size + 1, 1, none⟩) (by first | omega | (simp <;> omega))
          simp [go_sem, *] at q1c1_1
          have q1f1 := fun o => hb.frozen (p := ⟨w.heap.size + 1, o, none⟩) (by first | omega | (simp <;> omega))
          simp [go_sem, *] at q1f1
          have q1s2 : w.heap.size + 2 < w1.heap.size := (by omega)
          have q1n2_0 : ¬ w1.heap.size = w.heap.size + 2 := (by omega)
          have q1n2_1 : ¬ w1.heap.size + 1 = w.heap.size + 2 := (by omega)
          have q1n2_2 : ¬ w1.heap.size + 2 = w.heap.size + 2 := (by omega)
          have q1c2_0 := hb.cell (p := ⟨w.heap.size + 2, 0, none⟩) (by first | omega | (simp <;> omega))
          simp [go_sem, *] at q1c2_0
          have q1c2_1 := hb.cell (p := ⟨w.heap.size + 2, 1, none⟩) (by first | omega | (simp <;> omega))
          simp [go_sem, *] at q1c2_1
          have q1f2 := fun o => hb.frozen (p := ⟨w.heap.size + 2, o, none⟩) (by first | omega | (simp <;> omega))
          simp [go_sem, *] at q1f2
          have q1o : ∀ b o, b < w.heap.size → w1.cell? ⟨b, o, none⟩ = w.cell? ⟨b, o, none⟩ := fun b o h => q1B.cell (p := ⟨b, o, none⟩) h
          clear hb
          go_wp2_with fail
          go_roundw
          case rel =>
            refine ⟨k + 1, 2 * q, 2 * nk, by omega, by go_num, congrArg (Value.int .u64) (by (try rw [wrapU]); omega), by omega, by omega, by omega, by rw [Int.pow_succ, ← Int.mul_assoc, HE.out]; omega, by rw [HN.out], ?_, ?_, ?_, ?_, ?_⟩
            · (repeat (first | (with_reducible exact Below.refl _ _) | (with_reducible assumption) | ((with_reducible refine Below.alloc ?_ ?_ _); (rotate_left); (first | omega | (simp <;> omega))) | ((with_reducible refine Below.setCell ?_ ?_ _); (rotate_left); (first | omega | (simp <;> omega))) | (with_reducible refine Below.drew ?_) | (with_reducible refine below_drewN ?_ _)))
            · simp; omega
            · exact ⟨by simp [go_sem, *], by simp [go_sem, *], by simp [go_sem, *]⟩
            · exact ⟨by simp [go_sem, *], by simp [go_sem, *], by simp [go_sem, *]⟩
            · exact ⟨by simp [go_sem, *], by simp [go_sem, *], by simp [go_sem, *]⟩
          case measure => simp [intOf]; omega
    · obtain rfl : k = 64 := by omega
      have hqn : q = n := by have := HE.out; omega
      subst hqn
      go_wp2_with fail
      refine bodyPost_ret (by simp [results, Try.results41, go_sem, *] <;> rfl) rfl ⟨?_, ?_⟩
      · rfl
      (repeat (first | (with_reducible exact Below.refl _ _) | (with_reducible assumption) | ((with_reducible refine Below.alloc ?_ ?_ _); (rotate_left); (first | omega | (simp <;> omega))) | ((with_reducible refine Below.setCell ?_ ?_ _); (rotate_left); (first | omega | (simp <;> omega))) | (with_reducible refine Below.drew ?_) | (with_reducible refine below_drewN ?_ _)))
end Go.Proofs.Ytjjclclianbnfaa
