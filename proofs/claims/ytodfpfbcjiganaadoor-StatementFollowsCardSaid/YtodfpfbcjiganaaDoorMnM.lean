/- Texts of amounts. No program in sight. -/
import Derived.Test.YtodfpfbcjiganaaDoorStr
namespace Go.Proofs.YtodfpfbcjiganaaDoor
set_option linter.unusedSimpArgs false
set_option linter.unusedVariables false
open Go.RowKit

theorem dgs_snoc (a : Nat) : ∀ k, dgs a (k + 1) = dgs (a / 10) k ++ [dgt a]
  | 0 => by simp [dgs]
  | k + 1 => by
    have ih := dgs_snoc a k
    show dgt (a / 10 ^ (k + 1)) :: dgs a (k + 1) = (dgt (a / 10 / 10 ^ k) :: dgs (a / 10) k) ++ [dgt a]
    rw [ih, List.cons_append, Nat.div_div_eq_div_mul, Nat.pow_succ, Nat.mul_comm 10]
theorem dec_dgs (a : Nat) : Lib.decDigits a = dgs a (Lib.nDigits a) := by
  induction a using Nat.strongRecOn with
  | _ a ih =>
    by_cases h : a < 10
    · rw [dec_one h, Lib.nDigits_small h]; simp [dgs]
    · rw [dec_step h, Lib.nDigits_big h, ih (a / 10) (by omega), dgs_snoc]
theorem dgs_add (a d : Nat) : ∀ j, dgs a (j + d) = dgs (a / 10 ^ d) j ++ dgs a d
  | 0 => by simp [dgs]
  | j + 1 => by
    rw [Nat.add_right_comm]
    show dgt (a / 10 ^ (j + d)) :: dgs a (j + d) = (dgt (a / 10 ^ d / 10 ^ j) :: dgs (a / 10 ^ d) j) ++ dgs a d
    rw [dgs_add a d j, List.cons_append, Nat.div_div_eq_div_mul, ← Nat.pow_add, Nat.add_comm d j]
theorem dgt_zero : dgt 0 = 48 := rfl
/-- A zero in front. -/
theorem dgs_pad {a k : Nat} (h : Lib.nDigits a ≤ k) : 48 :: dgs a k = dgs a (k + 1) := by
  have h1 : a < 10 ^ k := Nat.lt_of_lt_of_le (Lib.lt_pow_nDigits a) (Nat.pow_le_pow_right (by decide) h)
  show 48 :: dgs a k = dgt (a / 10 ^ k) :: dgs a k
  rw [Nat.div_eq_of_lt h1, dgt_zero]
theorem nd_div (a d : Nat) : Lib.nDigits (a / 10 ^ d) = if d < Lib.nDigits a then Lib.nDigits a - d else 1 := by
  induction d generalizing a with
  | zero => have := Lib.nDigits_pos a; simp; omega
  | succ d ih =>
    rw [Nat.pow_succ, Nat.mul_comm, ← Nat.div_div_eq_div_mul, ih (a / 10)]
    by_cases h : a < 10
    · have e : a / 10 = 0 := by omega
      rw [Lib.nDigits_small h, e, Lib.nDigits_small (by decide : 0 < 10)]
      split <;> split <;> omega
    · rw [Lib.nDigits_big h]
      have := Lib.nDigits_pos (a / 10)
      split <;> split <;> omega
/-- The digits of an amount without its sign, with d decimal places. -/
def wholeL (a d : Nat) : List UInt8 := Lib.decDigits (a / 10 ^ d)
def mnB (n d : Int) : Bool := decide (-1000000000000 ≤ n ∧ n ≤ 1000000000000 ∧ 0 ≤ d ∧ d ≤ 4)
def mnL (n : Int) (d : Nat) : List UInt8 := (if n < 0 then [45] else []) ++ wholeL n.natAbs d ++ (if d = 0 then [] else 46 :: dgs n.natAbs d)
/-- The text of an amount; nothing if it is none. -/
def amtL (n d : Int) : List UInt8 := if mnB n d then mnL n d.toNat else []
def amtE (n d : Int) : Int := if mnB n d then 0 else 1
theorem mnB_iff {n d : Int} : mnB n d = true ↔ -1000000000000 ≤ n ∧ n ≤ 1000000000000 ∧ 0 ≤ d ∧ d ≤ 4 := by unfold mnB; simp
theorem amt_no {n d : Int} (h : mnB n d = false) : amtL n d = [] ∧ amtE n d = 1 := by unfold amtL amtE; rw [h]; exact ⟨rfl, rfl⟩
theorem amt_yes {n d : Int} (h : mnB n d = true) : amtL n d = mnL n d.toNat ∧ amtE n d = 0 := by unfold amtL amtE; rw [h]; exact ⟨rfl, rfl⟩
/-- The padded digits, parted at the point. -/
theorem pad_part {a d k : Nat} (hk : Lib.nDigits a ≤ k) (hd : d < k) (hm : k = Lib.nDigits a ∨ k = d + 1) : dgs a k = wholeL a d ++ dgs a d := by
  have hw : wholeL a d = dgs (a / 10 ^ d) (k - d) := by
    unfold wholeL
    rw [dec_dgs, nd_div]
    congr 1
    rcases hm with rfl | rfl
    · rw [if_pos hd]
    · split <;> omega
  rw [hw, ← dgs_add]
  congr 1
  omega
theorem dgs_mod (a : Nat) : ∀ d, dgs (a % 10 ^ d) d = dgs a d
  | 0 => rfl
  | d + 1 => by
    rw [dgs_snoc, dgs_snoc]
    have e1 : a % 10 ^ (d + 1) / 10 = (a / 10) % 10 ^ d := by rw [Nat.pow_succ, Nat.mul_comm, Nat.mod_mul_right_div_self]
    have e2 : dgt (a % 10 ^ (d + 1)) = dgt a := dgt_congr (by rw [Nat.mod_mod_of_dvd]; exact ⟨10 ^ d, by rw [Nat.pow_succ, Nat.mul_comm]⟩)
    rw [e1, e2, dgs_mod (a / 10) d]
/-- The reference's fraction. -/
theorem frac_drop (a d : Nat) : (Lib.decDigits (10 ^ d + a % 10 ^ d)).drop 1 = dgs a d := by
  have hp : 0 < 10 ^ d := Nat.pow_pos (by decide)
  have hl := Nat.mod_lt a hp
  have hn : Lib.nDigits (10 ^ d + a % 10 ^ d) = d + 1 := Lib.nDigits_unique d _ (by omega) (by rw [Nat.pow_succ]; omega)
  rw [dec_dgs, hn]
  show dgs (10 ^ d + a % 10 ^ d) d = dgs a d
  rw [← dgs_mod (10 ^ d + a % 10 ^ d) d, Nat.add_mod_left, Nat.mod_mod, dgs_mod]
theorem nd_le {a k : Nat} (h : a < 10 ^ k) (hk : 0 < k) : Lib.nDigits a ≤ k := by
  rcases Nat.lt_or_ge k (Lib.nDigits a) with h1 | h1
  · exfalso
    have h2 := nd_div a k
    rw [Nat.div_eq_of_lt h, if_pos h1, Lib.nDigits_small (by decide : 0 < 10)] at h2
    have h3 : Lib.nDigits a = k + 1 := by omega
    have h4 := nd_div a (k - 1)
    rw [if_pos (by omega), h3] at h4
    have h5 : a / 10 ^ (k - 1) < 10 := by
      apply Nat.div_lt_of_lt_mul
      have : 10 ^ (k - 1) * 10 = 10 ^ k := by rw [← Nat.pow_succ]; congr 1; omega
      omega
    rw [Lib.nDigits_small h5] at h4
    omega
  · exact h1
end Go.Proofs.YtodfpfbcjiganaaDoor
