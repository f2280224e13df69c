/- The arithmetic of package wide: negation, absolute values, products. No program in sight. -/
import Derived.Test.YtjjclclianbnfaaBits
namespace Go.Proofs.Ytjjclclianbnfaa
open Go.RowKit

/-- The size of a number. -/
def absI (n : Int) : Int := if n < 0 then -n else n
theorem absI_neg {n : Int} (h : n < 0) : absI n = -n := if_pos h
theorem absI_pos {n : Int} (h : 0 ≤ n) : absI n = n := if_neg (by omega)
theorem absI_nn (n : Int) : 0 ≤ absI n := by unfold absI; split <;> omega
theorem absI_int {n : Int} (h1 : -9223372036854775808 ≤ n) (h2 : n ≤ 9223372036854775807) : 0 ≤ absI n ∧ absI n ≤ 9223372036854775808 := by unfold absI; split <;> omega
theorem absI_win {n : Int} (h : WIn n) : MIn (absI n) := by unfold WIn at h; unfold MIn absI; split <;> omega
theorem absI_mul (a b : Int) : absI (a * b) = absI a * absI b := by
  unfold absI
  by_cases ha : a < 0 <;> by_cases hb : b < 0
  · have : 0 < a * b := Int.mul_pos_of_neg_of_neg ha hb
    rw [if_neg (by omega), if_pos ha, if_pos hb, Int.neg_mul_neg]
  · rcases Int.lt_or_eq_of_le (Int.not_lt.1 hb) with h | h
    · have : a * b < 0 := Int.mul_neg_of_neg_of_pos ha h
      rw [if_pos this, if_pos ha, if_neg hb, Int.neg_mul]
    · subst h; simp
  · rcases Int.lt_or_eq_of_le (Int.not_lt.1 ha) with h | h
    · have : a * b < 0 := Int.mul_neg_of_pos_of_neg h hb
      rw [if_pos this, if_neg ha, if_pos hb, Int.mul_neg]
    · subst h; simp
  · have : 0 ≤ a * b := Int.mul_nonneg (by omega) (by omega)
    rw [if_neg (by omega), if_neg ha, if_neg hb]
theorem mul_sign (a b : Int) : ((a < 0 ↔ b < 0) → a * b = absI a * absI b) ∧ (¬ (a < 0 ↔ b < 0) → a * b = -(absI a * absI b)) := by
  unfold absI
  by_cases ha : a < 0 <;> by_cases hb : b < 0 <;> simp [ha, hb, Int.neg_mul, Int.mul_neg]

/-- The negative of a number modulo 2^128. -/
def neg128 (x : Int) : Int := if x = -170141183460469231731687303715884105728 then x else -x
theorem neg128_in {x : Int} (h : WIn x) : WIn (neg128 x) := by unfold WIn at *; unfold neg128; split <;> omega
theorem neg128_parts {x : Int} (h : WIn x) : wrap64 (IntKind.u64.wrap (IntKind.u64.wrap (notI (hiW x)) + hiW (notU (loW x) + 1))) = hiW (neg128 x) ∧ loW (notU (loW x) + 1) = loW (neg128 x) := by
  simp only [wrapU]
  unfold WIn at h; unfold neg128 wrap64 notI notU hiW loW
  split <;> omega
theorem abs_parts_neg {x : Int} (h : WIn x) (hn : hiW x < 0) : IntKind.u64.wrap (hiW (neg128 x)) = hiW (absI x) ∧ loW (neg128 x) = loW (absI x) := by
  simp only [wrapU]
  unfold WIn at h; unfold hiW at hn; unfold neg128 absI hiW loW
  rw [if_pos (show x < 0 by omega)]
  split <;> omega
theorem abs_parts_pos {x : Int} (_h : WIn x) (hn : 0 ≤ hiW x) : absI x = x := by
  unfold hiW at hn; unfold absI; rw [if_neg (by omega)]
theorem hi_sign (x : Int) : hiW x < 0 ↔ x < 0 := by unfold hiW; omega

/-- A number modulo 2^128. -/
def mod128 (z : Int) : Int := z % 340282366920938463463374607431768211456
theorem mod128_in (z : Int) : MIn (mod128 z) := by unfold MIn mod128; omega
theorem mod128_of {z : Int} (h : MIn z) : mod128 z = z := by unfold MIn at h; unfold mod128; omega
/-- Whether a magnitude fits. -/
def fitM (z : Int) : Bool := decide (z < 340282366920938463463374607431768211456)

theorem prod_bd {a b : Int} (a1 : 0 ≤ a) (a2 : a < 18446744073709551616) (b1 : 0 ≤ b) (b2 : b < 18446744073709551616) : 0 ≤ a * b ∧ a * b ≤ 340282366920938463426481119284349108225 := by
  refine ⟨Int.mul_nonneg a1 b1, ?_⟩
  have := Int.mul_le_mul (show a ≤ 18446744073709551615 by omega) (show b ≤ 18446744073709551615 by omega) b1 (by decide)
  omega
/-- What (size).times reckons, out of the two products of its words. -/
theorem times_parts {m n more : Int} (hm : MIn m) (n1 : 0 ≤ n) (n2 : n < 18446744073709551616) (r1 : 0 ≤ more) (r2 : more < 18446744073709551616) :
    loW (loW (hiW m * n) + IntKind.u64.wrap (hiW (loW m * n) + hiW (loW (loW m * n) + more))) = hiW (mod128 (m * n + more)) ∧
    loW (loW (loW m * n) + more) = loW (mod128 (m * n + more)) ∧
    (hiW (hiW m * n) = 0 ∧ hiW (loW (hiW m * n) + IntKind.u64.wrap (hiW (loW m * n) + hiW (loW (loW m * n) + more))) = 0 ↔ m * n + more < 340282366920938463463374607431768211456) := by
  obtain ⟨h1, h2⟩ := hi_mbd hm
  obtain ⟨l1, l2⟩ := lo_bd m
  have e : m * n = hiW m * n * 18446744073709551616 + loW m * n := by
    have e1 : hiW m * n * 18446744073709551616 = hiW m * 18446744073709551616 * n := Int.mul_right_comm _ _ _
    rw [e1, ← Int.add_mul, ← hi_lo m]
  obtain ⟨p1, p2⟩ := prod_bd h1 h2 n1 n2
  obtain ⟨q1, q2⟩ := prod_bd l1 l2 n1 n2
  rw [e]
  generalize hiW m * n = P at *
  generalize loW m * n = Q at *
  simp only [wrapU]
  unfold hiW loW mod128
  refine ⟨by omega, by omega, by omega⟩

/-- The number with a sign and a magnitude. -/
def sgn (minus : Bool) (m : Int) : Int := if minus then -m else m
theorem sgn_t (m : Int) : sgn true m = -m := rfl
theorem sgn_f (m : Int) : sgn false m = m := rfl
theorem fitM_t {z : Int} (h : z < 340282366920938463463374607431768211456) : fitM z = true := decide_eq_true h
theorem fitM_f {z : Int} (h : ¬ z < 340282366920938463463374607431768211456) : fitM z = false := decide_eq_false h
theorem neg128_ok {x : Int} (h : x ≠ -170141183460469231731687303715884105728) : neg128 x = -x := if_neg h
end Go.Proofs.Ytjjclclianbnfaa
