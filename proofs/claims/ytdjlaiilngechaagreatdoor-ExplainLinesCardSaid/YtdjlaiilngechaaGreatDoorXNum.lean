/- Texts laid together: Num Bits WideM RefM. -/
import Derived.WalkKit
import Derived.Laws.Bits64b
import Derived.Laws.BitsAllLaws
import Derived.Lib.Mul64
namespace Go.Proofs.YtdjlaiilngechaaGreatDoor
set_option maxRecDepth 4000
set_option linter.unusedSimpArgs false
set_option linter.unusedVariables false
open Go.RowKit
theorem hide {p : Prop} (h : p) : Hid p := h
/-- The upper half of a number, rounded down. -/
def hiW (x : Int) : Int := x / 18446744073709551616
/-- The lower half of a number. -/
def loW (x : Int) : Int := x % 18446744073709551616
/-- A number of 128 bits. -/
def WIn (x : Int) : Prop := -170141183460469231731687303715884105728 ≤ x ∧ x < 170141183460469231731687303715884105728
/-- A magnitude of 128 bits. -/
def MIn (x : Int) : Prop := 0 ≤ x ∧ x < 340282366920938463463374607431768211456
/-- An int. -/
def IIn (x : Int) : Prop := -9223372036854775808 ≤ x ∧ x ≤ 9223372036854775807

instance (x : Int) : Decidable (WIn x) := by unfold WIn; exact inferInstance
instance (x : Int) : Decidable (MIn x) := by unfold MIn; exact inferInstance

/-- The number if it fits, else 0. -/
def fitR (z : Int) : Int := if WIn z then z else 0
/-- OK if it fits, else ErrOverflow. -/
def fitE (z : Int) : Int := if WIn z then 0 else 6

theorem hi_lo (x : Int) : x = hiW x * 18446744073709551616 + loW x := by unfold hiW loW; omega
theorem lo_bd (x : Int) : 0 ≤ loW x ∧ loW x < 18446744073709551616 := by unfold loW; omega
theorem hi_bd {x : Int} (h : WIn x) : -9223372036854775808 ≤ hiW x ∧ hiW x ≤ 9223372036854775807 := by unfold WIn at h; unfold hiW; omega
theorem hi_mbd {x : Int} (h : MIn x) : 0 ≤ hiW x ∧ hiW x < 18446744073709551616 := by unfold MIn at h; unfold hiW; omega
theorem of_hi_lo {x h l : Int} (e : x = h * 18446744073709551616 + l) (h0 : 0 ≤ l) (h1 : l < 18446744073709551616) : hiW x = h ∧ loW x = l := by
 unfold hiW loW; omega
theorem fitR_of {z : Int} (h : WIn z) : fitR z = z := if_pos h
theorem fitE_of {z : Int} (h : WIn z) : fitE z = 0 := if_pos h
theorem fitR_not {z : Int} (h : ¬ WIn z) : fitR z = 0 := if_neg h
theorem fitE_not {z : Int} (h : ¬ WIn z) : fitE z = 6 := if_neg h
theorem win_hi {z h l : Int} (e : z = h * 18446744073709551616 + l) (h0 : 0 ≤ l) (h1 : l < 18446744073709551616) : WIn z ↔ -9223372036854775808 ≤ h ∧ h ≤ 9223372036854775807 := by
 unfold WIn; omega
theorem hi_zero : hiW 0 = 0 := by decide
theorem lo_zero : loW 0 = 0 := by decide
theorem hi_inj {x y : Int} (h : hiW x = hiW y) (l : loW x = loW y) : x = y := by rw [hi_lo x, hi_lo y, h, l]
theorem i64w (n : Int) : IntKind.i64.wrap n = wrap64 n := by rw [IntKind.wrap_i64]; unfold wrap64; rfl
end Go.Proofs.YtdjlaiilngechaaGreatDoor
namespace Go.Proofs.YtdjlaiilngechaaGreatDoor
set_option maxRecDepth 4000
set_option linter.unusedSimpArgs false
set_option linter.unusedVariables false
open Go.RowKit
/-- The complement of a uint64. -/
def notU (l : Int) : Int := 18446744073709551615 - l
/-- The complement of an int. -/
def notI (h : Int) : Int := -1 - h
theorem notU_bd {l : Int} (h : 0 ≤ l) (h' : l < 18446744073709551616) : 0 ≤ notU l ∧ notU l < 18446744073709551616 := by unfold notU; omega
theorem notI_bd {h : Int} (h1 : -9223372036854775808 ≤ h) (h2 : h ≤ 9223372036854775807) : -9223372036854775808 ≤ notI h ∧ notI h ≤ 9223372036854775807 := by unfold notI; omega
theorem xor_maxU (l : Int) (h : 0 ≤ l) (h' : l < 18446744073709551616) : bits .xor .u64 IntKind.u64.max l = notU l := by
 have e : BitVec.ofInt 64 IntKind.u64.max = BitVec.allOnes 64 := by decide
 show IntKind.u64.wrap ((BitVec.ofInt 64 IntKind.u64.max ^^^ BitVec.ofInt 64 l).toNat : Int) = _
 rw [e, BitVec.allOnes_xor, BitVec.toNat_not, BitVec.toNat_ofInt, IntKind.wrap_u64]
 unfold notU
 omega
theorem xor_maxU' (l : Int) (h : 0 ≤ l) (h' : l < 18446744073709551616) : bits .xor .u64 (if IntKind.u64.signed = true then -1 else IntKind.u64.max) l = notU l := xor_maxU l h h'
theorem xor_maxI (h : Int) (h1 : -9223372036854775808 ≤ h) (h2 : h ≤ 9223372036854775807) : bits .xor .i64 (-1) h = notI h := by
 have e : BitVec.ofInt 64 (-1) = BitVec.allOnes 64 := by decide
 show IntKind.i64.wrap ((BitVec.ofInt 64 (-1) ^^^ BitVec.ofInt 64 h).toNat : Int) = _
 rw [e, BitVec.allOnes_xor, BitVec.toNat_not, BitVec.toNat_ofInt, IntKind.wrap_i64]
 unfold notI
 omega
theorem wrapU (n : Int) : IntKind.u64.wrap n = n % 18446744073709551616 := IntKind.wrap_u64 n

/-- What math/bits.Mul64's text reckons for the upper half. -/
def mulHi (x y : Int) : Int :=
 IntKind.u64.wrap (IntKind.u64.wrap (IntKind.u64.wrap (x / 4294967296 * (y / 4294967296)) + IntKind.u64.wrap (IntKind.u64.wrap (x / 4294967296 * bits BinOp.and IntKind.u64 y 4294967295) + IntKind.u64.wrap (bits BinOp.and IntKind.u64 x 4294967295 * bits BinOp.and IntKind.u64 y 4294967295) / 4294967296) / 4294967296) + IntKind.u64.wrap (bits BinOp.and IntKind.u64 (IntKind.u64.wrap (IntKind.u64.wrap (x / 4294967296 * bits BinOp.and IntKind.u64 y 4294967295) + IntKind.u64.wrap (bits BinOp.and IntKind.u64 x 4294967295 * bits BinOp.and IntKind.u64 y 4294967295) / 4294967296)) 4294967295 + IntKind.u64.wrap (bits BinOp.and IntKind.u64 x 4294967295 * (y / 4294967296))) / 4294967296)
theorem maskN (a : Nat) (ha : a < 18446744073709551616) : bits .and .u64 (a : Int) 4294967295 = ((a % 4294967296 : Nat) : Int) := by
 have h := bits_and_u64_nat a 4294967295 ha (by omega)
 have e : a &&& 4294967295 = a % 4294967296 := Nat.and_two_pow_sub_one_eq_mod a 32
 rw [e] at h
 exact h
theorem divN (a : Nat) : (a : Int) / 4294967296 = ((a / 4294967296 : Nat) : Int) := by omega
theorem mulN (a b : Nat) : (a : Int) * (b : Int) = ((a * b : Nat) : Int) := (Int.natCast_mul a b).symm
theorem addN (a b : Nat) : (a : Int) + (b : Int) = ((a + b : Nat) : Int) := (Int.natCast_add a b).symm
theorem wrapN (a : Nat) (ha : a < 18446744073709551616) : IntKind.u64.wrap (a : Int) = (a : Int) := by rw [IntKind.wrap_u64]; omega
theorem mulHi_eq (x y : Int) (h1 : 0 ≤ x) (h2 : x < 18446744073709551616) (y1 : 0 ≤ y) (y2 : y < 18446744073709551616) : mulHi x y = hiW (x * y) := by
 obtain ⟨x, rfl⟩ := Int.eq_ofNat_of_zero_le h1
 obtain ⟨y, rfl⟩ := Int.eq_ofNat_of_zero_le y1
 have hx : x < 18446744073709551616 := by omega
 have hy : y < 18446744073709551616 := by omega
 obtain ⟨bd, bt, bw, hhi⟩ := Lib.mul64_hi x y hx hy
 have ba := Lib.half_mul_le (a := x / 4294967296) (b := y / 4294967296) (by omega) (by omega)
 have bb := Lib.half_mul_le (a := x / 4294967296) (b := y % 4294967296) (by omega) (by omega)
 have bc := Lib.half_mul_le (a := x % 4294967296) (b := y / 4294967296) (by omega) (by omega)
 have ba' : x / 4294967296 * (y / 4294967296) < 18446744073709551616 := by omega
 have bb' : x / 4294967296 * (y % 4294967296) < 18446744073709551616 := by omega
 have bc' : x % 4294967296 * (y / 4294967296) < 18446744073709551616 := by omega
 have bh1 : x / 4294967296 * (y / 4294967296) + (x / 4294967296 * (y % 4294967296) + x % 4294967296 * (y % 4294967296) / 4294967296) / 4294967296 < 18446744073709551616 := by omega
 have bh : x / 4294967296 * (y / 4294967296) + (x / 4294967296 * (y % 4294967296) + x % 4294967296 * (y % 4294967296) / 4294967296) / 4294967296 + ((x / 4294967296 * (y % 4294967296) + x % 4294967296 * (y % 4294967296) / 4294967296) % 4294967296 + x % 4294967296 * (y / 4294967296)) / 4294967296 < 18446744073709551616 := by omega
 unfold mulHi
 simp only [maskN x hx, maskN y hy, divN, mulN, addN, wrapN _ bd, wrapN _ bb', wrapN _ bt, maskN _ bt, wrapN _ bc', wrapN _ bw, wrapN _ ba', wrapN _ bh1, wrapN _ bh]
 rw [hhi]
 unfold hiW
 omega
theorem mulLo_eq (x y : Int) : IntKind.u64.wrap (x * y) = loW (x * y) := wrapU _
end Go.Proofs.YtdjlaiilngechaaGreatDoor
namespace Go.Proofs.YtdjlaiilngechaaGreatDoor
set_option maxRecDepth 4000
set_option linter.unusedSimpArgs false
set_option linter.unusedVariables false
open Go.RowKit
/-- The size of a number. -/
def absI (n : Int) : Int := if n < 0 then -n else n
theorem absI_neg {n : Int} (h : n < 0) : absI n = -n := if_pos h
theorem absI_pos {n : Int} (h : 0 ≤ n) : absI n = n := if_neg (by omega)
theorem absI_nn (n : Int) : 0 ≤ absI n := by unfold absI; split <;> omega
theorem absI_int {n : Int} (h1 : -9223372036854775808 ≤ n) (h2 : n ≤ 9223372036854775807) : 0 ≤ absI n ∧ absI n ≤ 9223372036854775808 := by unfold absI; split <;> omega
theorem absI_win {n : Int} (h : WIn n) : MIn (absI n) := by unfold WIn at h; unfold MIn absI; split <;> omega
theorem absI_mul (a b : Int) : absI (a * b) = absI a * absI b := by
 unfold absI
 by_cases ha : a < 0 <;> by_cases hb : b < 0
 ·have : 0 < a * b := Int.mul_pos_of_neg_of_neg ha hb
  rw [if_neg (by omega), if_pos ha, if_pos hb, Int.neg_mul_neg]
 ·rcases Int.lt_or_eq_of_le (Int.not_lt.1 hb) with h | h
  ·have : a * b < 0 := Int.mul_neg_of_neg_of_pos ha h
   rw [if_pos this, if_pos ha, if_neg hb, Int.neg_mul]
  ·subst h; simp
 ·rcases Int.lt_or_eq_of_le (Int.not_lt.1 ha) with h | h
  ·have : a * b < 0 := Int.mul_neg_of_pos_of_neg h hb
   rw [if_pos this, if_neg ha, if_pos hb, Int.mul_neg]
  ·subst h; simp
 ·have : 0 ≤ a * b := Int.mul_nonneg (by omega) (by omega)
  rw [if_neg (by omega), if_neg ha, if_neg hb]
theorem mul_sign (a b : Int) : ((a < 0 ↔ b < 0) → a * b = absI a * absI b) ∧ (¬ (a < 0 ↔ b < 0) → a * b = -(absI a * absI b)) := by
 unfold absI
 by_cases ha : a < 0 <;> by_cases hb : b < 0 <;> simp [ha, hb, Int.neg_mul, Int.mul_neg]

/-- The negative of a number modulo 2^128. -/
def neg128 (x : Int) : Int := if x = -170141183460469231731687303715884105728 then x else -x
theorem neg128_parts {x : Int} (h : WIn x) : wrap64 (IntKind.u64.wrap (IntKind.u64.wrap (notI (hiW x)) + hiW (notU (loW x) + 1))) = hiW (neg128 x) ∧ loW (notU (loW x) + 1) = loW (neg128 x) := by
 simp only [wrapU]
 unfold WIn at h; unfold neg128 wrap64 notI notU hiW loW
 split <;> omega
theorem abs_parts_neg {x : Int} (h : WIn x) (hn : hiW x < 0) : IntKind.u64.wrap (hiW (neg128 x)) = hiW (absI x) ∧ loW (neg128 x) = loW (absI x) := by
 simp only [wrapU]
 unfold WIn at h; unfold hiW at hn; unfold neg128 absI hiW loW
 rw [if_pos (show x < 0 by omega)]
 split <;> omega
theorem abs_parts_pos {x : Int} (_h : WIn x) (hn : 0 ≤ hiW x) : absI x = x := by
 unfold hiW at hn; unfold absI; rw [if_neg (by omega)]
theorem hi_sign (x : Int) : hiW x < 0 ↔ x < 0 := by unfold hiW; omega

/-- A number modulo 2^128. -/
def mod128 (z : Int) : Int := z % 340282366920938463463374607431768211456
theorem mod128_in (z : Int) : MIn (mod128 z) := by unfold MIn mod128; omega
theorem mod128_of {z : Int} (h : MIn z) : mod128 z = z := by unfold MIn at h; unfold mod128; omega
/-- Whether a magnitude fits. -/
def fitM (z : Int) : Bool := decide (z < 340282366920938463463374607431768211456)

theorem prod_bd {a b : Int} (a1 : 0 ≤ a) (a2 : a < 18446744073709551616) (b1 : 0 ≤ b) (b2 : b < 18446744073709551616) : 0 ≤ a * b ∧ a * b ≤ 340282366920938463426481119284349108225 := by
 refine ⟨Int.mul_nonneg a1 b1, ?_⟩
 have := Int.mul_le_mul (show a ≤ 18446744073709551615 by omega) (show b ≤ 18446744073709551615 by omega) b1 (by decide)
 omega
/-- What (size).times reckons, out of the two products of its words. -/
theorem times_parts {m n more : Int} (hm : MIn m) (n1 : 0 ≤ n) (n2 : n < 18446744073709551616) (r1 : 0 ≤ more) (r2 : more < 18446744073709551616) :
  loW (loW (hiW m * n) + IntKind.u64.wrap (hiW (loW m * n) + hiW (loW (loW m * n) + more))) = hiW (mod128 (m * n + more)) ∧
  loW (loW (loW m * n) + more) = loW (mod128 (m * n + more)) ∧
  (hiW (hiW m * n) = 0 ∧ hiW (loW (hiW m * n) + IntKind.u64.wrap (hiW (loW m * n) + hiW (loW (loW m * n) + more))) = 0 ↔ m * n + more < 340282366920938463463374607431768211456) := by
 obtain ⟨h1, h2⟩ := hi_mbd hm
 obtain ⟨l1, l2⟩ := lo_bd m
 have e : m * n = hiW m * n * 18446744073709551616 + loW m * n := by
  have e1 : hiW m * n * 18446744073709551616 = hiW m * 18446744073709551616 * n := Int.mul_right_comm _ _ _
  rw [e1, ← Int.add_mul, ← hi_lo m]
 obtain ⟨p1, p2⟩ := prod_bd h1 h2 n1 n2
 obtain ⟨q1, q2⟩ := prod_bd l1 l2 n1 n2
 rw [e]
 generalize hiW m * n = P at *
 generalize loW m * n = Q at *
 simp only [wrapU]
 unfold hiW loW mod128
 refine ⟨by omega, by omega, by omega⟩

/-- The number with a sign and a magnitude. -/
def sgn (minus : Bool) (m : Int) : Int := if minus then -m else m
theorem sgn_t (m : Int) : sgn true m = -m := rfl
theorem sgn_f (m : Int) : sgn false m = m := rfl
theorem fitM_t {z : Int} (h : z < 340282366920938463463374607431768211456) : fitM z = true := decide_eq_true h
theorem fitM_f {z : Int} (h : ¬ z < 340282366920938463463374607431768211456) : fitM z = false := decide_eq_false h
theorem neg128_ok {x : Int} (h : x ≠ -170141183460469231731687303715884105728) : neg128 x = -x := if_neg h
end Go.Proofs.YtdjlaiilngechaaGreatDoor
namespace Go.Proofs.YtdjlaiilngechaaGreatDoor
set_option maxRecDepth 4000
set_option linter.unusedSimpArgs false
set_option linter.unusedVariables false
open Go.RowKit
/-- A number modulo 2^128, with a sign. -/
def wrap128 (z : Int) : Int := (z + 170141183460469231731687303715884105728) % 340282366920938463463374607431768211456 - 170141183460469231731687303715884105728
theorem wrap128_of {z : Int} (h : WIn z) : wrap128 z = z := by unfold WIn at h; unfold wrap128; omega
theorem split_neg {x : Int} (h : WIn x) (hn : hiW x < 0) :
  (IntKind.u64.wrap (notU (loW x) + 1) = 0 → IntKind.u64.wrap (notU (IntKind.u64.wrap (hiW x)) + 1) = hiW (absI x) ∧ IntKind.u64.wrap (notU (loW x) + 1) = loW (absI x)) ∧
  (¬ IntKind.u64.wrap (notU (loW x) + 1) = 0 → notU (IntKind.u64.wrap (hiW x)) = hiW (absI x) ∧ IntKind.u64.wrap (notU (loW x) + 1) = loW (absI x)) := by
 simp only [wrapU]
 unfold WIn at h; unfold hiW at hn; unfold absI
 rw [if_pos (show x < 0 by omega)]
 unfold notU hiW loW
 omega
theorem join_pos {m : Int} (h : MIn m) : wrap64 (hiW m) = hiW (wrap128 m) ∧ loW m = loW (wrap128 m) ∧ (hiW m < 9223372036854775808 ↔ WIn m) := by
 unfold MIn at h; unfold wrap64 wrap128 WIn hiW loW; omega
theorem join_neg {m : Int} (h : MIn m) :
  (IntKind.u64.wrap (notU (loW m) + 1) = 0 → wrap64 (IntKind.u64.wrap (notU (hiW m) + 1)) = hiW (wrap128 (-m)) ∧ IntKind.u64.wrap (notU (loW m) + 1) = loW (wrap128 (-m)) ∧ loW m = 0) ∧
  (¬ IntKind.u64.wrap (notU (loW m) + 1) = 0 → wrap64 (notU (hiW m)) = hiW (wrap128 (-m)) ∧ IntKind.u64.wrap (notU (loW m) + 1) = loW (wrap128 (-m)) ∧ loW m ≠ 0) ∧
  (hiW m < 9223372036854775808 ∨ hiW m = 9223372036854775808 ∧ loW m = 0 ↔ WIn (-m)) := by
 simp only [wrapU]
 unfold MIn at h; unfold wrap64 wrap128 WIn notU hiW loW; omega
theorem plus_parts {a b : Int} (ha : MIn a) (hb : MIn b) :
  (IntKind.u64.wrap (loW a + loW b) < loW a → IntKind.u64.wrap (IntKind.u64.wrap (hiW a + hiW b) + 1) = hiW (mod128 (a + b)) ∧ IntKind.u64.wrap (loW a + loW b) = loW (mod128 (a + b)) ∧ (hiW a ≤ IntKind.u64.wrap (hiW a + hiW b) ∧ 1 ≤ IntKind.u64.wrap (IntKind.u64.wrap (hiW a + hiW b) + 1) ↔ a + b < 340282366920938463463374607431768211456)) ∧
  (¬ IntKind.u64.wrap (loW a + loW b) < loW a → IntKind.u64.wrap (IntKind.u64.wrap (hiW a + hiW b)) = hiW (mod128 (a + b)) ∧ IntKind.u64.wrap (loW a + loW b) = loW (mod128 (a + b)) ∧ (hiW a ≤ IntKind.u64.wrap (hiW a + hiW b) ↔ a + b < 340282366920938463463374607431768211456)) := by
 simp only [wrapU]
 unfold MIn at ha hb; unfold mod128 hiW loW; omega
theorem minus_parts {a b : Int} (ha : MIn a) (hb : MIn b) (hle : b ≤ a) :
  (loW a < loW b → IntKind.u64.wrap (IntKind.u64.wrap (hiW a - hiW b) - 1) = hiW (a - b) ∧ IntKind.u64.wrap (loW a - loW b) = loW (a - b)) ∧
  (¬ loW a < loW b → IntKind.u64.wrap (hiW a - hiW b) = hiW (a - b) ∧ IntKind.u64.wrap (loW a - loW b) = loW (a - b)) := by
 simp only [wrapU]
 unfold MIn at ha hb; unfold hiW loW; omega
theorem less_iff (a b : Int) : a < b ↔ (hiW a < hiW b ∨ hiW a = hiW b ∧ loW a < loW b) := by unfold hiW loW; omega
theorem of_parts {n : Int} (h1 : -9223372036854775808 ≤ n) (h2 : n ≤ 9223372036854775807) :
  (n < 0 → hiW n = -1 ∧ loW n = IntKind.u64.wrap n) ∧ (0 ≤ n → hiW n = 0 ∧ loW n = n) := by
 simp only [wrapU]; unfold hiW loW; omega
theorem int_win {n : Int} (h1 : -9223372036854775808 ≤ n) (h2 : n ≤ 9223372036854775807) : WIn n := by unfold WIn; omega
theorem size_neg {n : Int} (h1 : -9223372036854775808 ≤ n) (hn : n < 0) : IntKind.u64.wrap (notU (IntKind.u64.wrap n) + 1) = absI n := by
 rw [absI_neg hn]; simp only [wrapU]; unfold notU; omega
end Go.Proofs.YtdjlaiilngechaaGreatDoor
