/- The arithmetic of the reference for numbers of 128 bits: signs and magnitudes. No program in sight. -/
import Derived.Test.YtjjclclianbnfaaWideM
namespace Go.Proofs.Ytjjclclianbnfaa
open Go.RowKit

/-- A number modulo 2^128, with a sign. -/
def wrap128 (z : Int) : Int := (z + 170141183460469231731687303715884105728) % 340282366920938463463374607431768211456 - 170141183460469231731687303715884105728
theorem wrap128_in (z : Int) : WIn (wrap128 z) := by unfold WIn wrap128; omega
theorem wrap128_of {z : Int} (h : WIn z) : wrap128 z = z := by unfold WIn at h; unfold wrap128; omega
theorem split_neg {x : Int} (h : WIn x) (hn : hiW x < 0) :
    (IntKind.u64.wrap (notU (loW x) + 1) = 0 → IntKind.u64.wrap (notU (IntKind.u64.wrap (hiW x)) + 1) = hiW (absI x) ∧ IntKind.u64.wrap (notU (loW x) + 1) = loW (absI x)) ∧
    (¬ IntKind.u64.wrap (notU (loW x) + 1) = 0 → notU (IntKind.u64.wrap (hiW x)) = hiW (absI x) ∧ IntKind.u64.wrap (notU (loW x) + 1) = loW (absI x)) := by
  simp only [wrapU]
  unfold WIn at h; unfold hiW at hn; unfold absI
  rw [if_pos (show x < 0 by omega)]
  unfold notU hiW loW
  omega
theorem join_pos {m : Int} (h : MIn m) : wrap64 (hiW m) = hiW (wrap128 m) ∧ loW m = loW (wrap128 m) ∧ (hiW m < 9223372036854775808 ↔ WIn m) := by
  unfold MIn at h; unfold wrap64 wrap128 WIn hiW loW; omega
theorem join_neg {m : Int} (h : MIn m) :
    (IntKind.u64.wrap (notU (loW m) + 1) = 0 → wrap64 (IntKind.u64.wrap (notU (hiW m) + 1)) = hiW (wrap128 (-m)) ∧ IntKind.u64.wrap (notU (loW m) + 1) = loW (wrap128 (-m)) ∧ loW m = 0) ∧
    (¬ IntKind.u64.wrap (notU (loW m) + 1) = 0 → wrap64 (notU (hiW m)) = hiW (wrap128 (-m)) ∧ IntKind.u64.wrap (notU (loW m) + 1) = loW (wrap128 (-m)) ∧ loW m ≠ 0) ∧
    (hiW m < 9223372036854775808 ∨ hiW m = 9223372036854775808 ∧ loW m = 0 ↔ WIn (-m)) := by
  simp only [wrapU]
  unfold MIn at h; unfold wrap64 wrap128 WIn notU hiW loW; omega
theorem plus_parts {a b : Int} (ha : MIn a) (hb : MIn b) :
    (IntKind.u64.wrap (loW a + loW b) < loW a → IntKind.u64.wrap (IntKind.u64.wrap (hiW a + hiW b) + 1) = hiW (mod128 (a + b)) ∧ IntKind.u64.wrap (loW a + loW b) = loW (mod128 (a + b)) ∧ (hiW a ≤ IntKind.u64.wrap (hiW a + hiW b) ∧ 1 ≤ IntKind.u64.wrap (IntKind.u64.wrap (hiW a + hiW b) + 1) ↔ a + b < 340282366920938463463374607431768211456)) ∧
    (¬ IntKind.u64.wrap (loW a + loW b) < loW a → IntKind.u64.wrap (IntKind.u64.wrap (hiW a + hiW b)) = hiW (mod128 (a + b)) ∧ IntKind.u64.wrap (loW a + loW b) = loW (mod128 (a + b)) ∧ (hiW a ≤ IntKind.u64.wrap (hiW a + hiW b) ↔ a + b < 340282366920938463463374607431768211456)) := by
  simp only [wrapU]
  unfold MIn at ha hb; unfold mod128 hiW loW; omega
theorem minus_parts {a b : Int} (ha : MIn a) (hb : MIn b) (hle : b ≤ a) :
    (loW a < loW b → IntKind.u64.wrap (IntKind.u64.wrap (hiW a - hiW b) - 1) = hiW (a - b) ∧ IntKind.u64.wrap (loW a - loW b) = loW (a - b)) ∧
    (¬ loW a < loW b → IntKind.u64.wrap (hiW a - hiW b) = hiW (a - b) ∧ IntKind.u64.wrap (loW a - loW b) = loW (a - b)) := by
  simp only [wrapU]
  unfold MIn at ha hb; unfold hiW loW; omega
theorem less_iff (a b : Int) : a < b ↔ (hiW a < hiW b ∨ hiW a = hiW b ∧ loW a < loW b) := by unfold hiW loW; omega
theorem of_parts {n : Int} (h1 : -9223372036854775808 ≤ n) (h2 : n ≤ 9223372036854775807) :
    (n < 0 → hiW n = -1 ∧ loW n = IntKind.u64.wrap n) ∧ (0 ≤ n → hiW n = 0 ∧ loW n = n) := by
  simp only [wrapU]; unfold hiW loW; omega
theorem int_win {n : Int} (h1 : -9223372036854775808 ≤ n) (h2 : n ≤ 9223372036854775807) : WIn n := by unfold WIn; omega
theorem size_neg {n : Int} (h1 : -9223372036854775808 ≤ n) (hn : n < 0) : IntKind.u64.wrap (notU (IntKind.u64.wrap n) + 1) = absI n := by
  rw [absI_neg hn]; simp only [wrapU]; unfold notU; omega
end Go.Proofs.Ytjjclclianbnfaa
