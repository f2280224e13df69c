/- What Check answers, in plain words. -/
import Derived.Test.YtodfpfbcjiganaaDoorStF
namespace Go.Proofs.YtodfpfbcjiganaaDoor
set_option linter.unusedSimpArgs false
set_option linter.unusedVariables false
open Go.RowKit

/-- The line before the k-th. -/
def prvP (P : Nat → LPos) : Nat → LPos | 0 => zPos | k + 1 => P k
def goodP (P : Nat → LPos) (f t : Int) (k : Nat) : Prop := (prvP P k).en < (P k).en ∧ f ≤ (P k).dy ∧ (P k).dy ≤ t
instance (P : Nat → LPos) (f t : Int) (k : Nat) : Decidable (goodP P f t k) := by unfold goodP; infer_instance
def sumP (P : Nat → LPos) (o : Int) : Nat → Int | 0 => o | k + 1 => wrap64 (sumP P o k + (P k).am)
def linE (P : Nat → LPos) (f t op cl : Int) (n : Nat) : Int := if (∀ k, k < n → goodP P f t k) then (if sumP P op n = cl then 0 else 25) else 25
/-- The error of Check. -/
def chkS (ac no f t op cl : Int) (P : Nat → LPos) (n : Nat) : Int := if ac < 1000 then 1 else if no < 1 then 1 else if vday f = false then 1 else if vday t = false then 1 else if f > t then 1 else linE P f t op cl n
theorem linE_bad {P : Nat → LPos} {f t op cl : Int} {n k : Nat} (hk : k < n) (h : ¬ goodP P f t k) : linE P f t op cl n = 25 := if_neg (fun hall => h (hall k hk))
theorem linE_sum {P : Nat → LPos} {f t op cl : Int} {n : Nat} (h : sumP P op n ≠ cl) : linE P f t op cl n = 25 := by unfold linE; rw [if_neg h]; split <;> rfl
theorem linE_ok {P : Nat → LPos} {f t op cl : Int} {n : Nat} (hall : ∀ k, k < n → goodP P f t k) (h : sumP P op n = cl) : linE P f t op cl n = 0 := by unfold linE; rw [if_pos hall, if_pos h]
/-- The lines taken so far are numbered upwards from 1. -/
theorem prv_ge {P : Nat → LPos} {f t : Int} : ∀ {k : Nat}, (∀ i, i < k → goodP P f t i) → 0 ≤ (prvP P k).en
  | 0, _ => by show (0 : Int) ≤ zPos.en; decide
  | k + 1, h => by
    have h1 := prv_ge (k := k) (fun i hi => h i (by omega))
    have h2 := (h k (by omega)).1
    show 0 ≤ (P k).en
    omega
end Go.Proofs.YtodfpfbcjiganaaDoor
