/- Contracts of packages account, statement and their references, 1: finding an account. -/
import Derived.Test.YtodfpfbcjiganaaDoorBkM
import Derived.Test.YtodfpfbcjiganaaDoorReg
import Derived.Test.YtodfpfbcjiganaaDoorProg
import Derived.KernelRfl
import Derived.WalkSpells
import Derived.WalkLawsBesides
import Derived.Sort.WalkA
namespace Go.Proofs.YtodfpfbcjiganaaDoor
set_option linter.unusedSimpArgs false
set_option linter.unusedVariables false
open Go.RowKit

/-- The index of an account, or -1. -/
def idxA (a : Nat → LAcc) (id : Int) (n : Nat) : Int := match fndA a id n with | some k => k | none => -1
theorem idxA_yes {a : Nat → LAcc} {id : Int} {n k : Nat} (hk : k < n) (he : (a k).id = id) (hl : ∀ j, j < k → (a j).id ≠ id) : idxA a id n = k := by unfold idxA; rw [fndA_first hk he hl]
theorem idxA_no {a : Nat → LAcc} {id : Int} {n : Nat} (hl : ∀ j, j < n → (a j).id ≠ id) : idxA a id n = -1 := by unfold idxA; rw [fndA_no hl]
theorem ix1_any (i0 i1 i2 i3 : Int) (s4 s5 s6 : ByteArray) (id : Int) (bi : Nat) (w : World) (hb : bi < w.heap.size) (hc : w.cell? ⟨bi, 0, none⟩ = some (.int .i64 id)) :
    Calls Tryd.prog 56 #[.agg #[.int .i64 i0, .int .i64 i1, .int .i64 i2, .int .i64 i3, .string s4, .string s5, .string s6], .pointer (some ⟨bi, 0, none⟩)] w fun e w' => e = .returned (.bool (i0 == id)) ∧ Below w.heap.size w w' := by
  go_enter Tryd.func56, Tryd.ntmps56
  go_wp2_with fail
  go_ret
  exact ⟨rfl, by (repeat (first | (with_reducible exact Below.refl _ _) | (with_reducible assumption) | ((with_reducible refine Below.alloc ?_ ?_ _); (rotate_left); (first | omega | (simp <;> omega))) | ((with_reducible refine Below.setCell ?_ ?_ _); (rotate_left); (first | omega | (simp <;> omega))) | (with_reducible refine Below.drew ?_) | (with_reducible refine below_drewN ?_ _)))⟩
def IxInv (a : Nat → LAcc) (id : Int) (n : Nat) (w : World) (v : Value) (wr : World) : Prop := ∃ k : Nat, k ≤ n ∧ v = .int .i64 k ∧ (∀ j, j < k → (a j).id ≠ id) ∧ Below w.heap.size w wr
theorem ixf_any (A : Option Addr) (n c : Nat) (a : Nat → LAcc) (id : Int) (bi : Nat) (hn : n ≤ 1000000) (w : World) (hr : RowAcc w A n a) (hb : bi < w.heap.size) (hc : w.cell? ⟨bi, 0, none⟩ = some (.int .i64 id)) :
    Calls Tryd.prog 55 #[.slice A n c, .func (.func 56) #[] #[.pointer (some ⟨bi, 0, none⟩)]] w fun e w' => e = .returned (.int .i64 (idxA a id n)) ∧ Below w.heap.size w w' := by
  go_enter Tryd.func55, Tryd.ntmps55
  go_wp2_with fail
  go_loopw [8] (fun v wr => IxInv a id n w v wr) (fun v _ => n - (intOf v).toNat)
  case atStart => exact ⟨0, by omega, rfl, fun j hj => by omega, by (repeat (first | (with_reducible exact Below.refl _ _) | (with_reducible assumption) | ((with_reducible refine Below.alloc ?_ ?_ _); (rotate_left); (first | omega | (simp <;> omega))) | ((with_reducible refine Below.setCell ?_ ?_ _); (rotate_left); (first | omega | (simp <;> omega))) | (with_reducible refine Below.drew ?_) | (with_reducible refine below_drewN ?_ _)))⟩
  case round =>
    obtain ⟨k, hk, rfl, hl, hB⟩ := hrel
    by_cases hlt : k < n
    · have hm : (k : Int) < n := by omega
      obtain ⟨b, off, rfl, hbl, c0, c1, c2, c3, c4, c5, c6⟩ := (hr.below hB).at hlt
      have HL := hide hl
      clear hl
      go_wp2_with fail
      refine (ix1_any _ _ _ _ _ _ _ id bi _ (by have := hB.size; omega) ((hB.cell (p := ⟨bi, 0, none⟩) hb).trans hc)).mono ?_
      rintro e w1 ⟨rfl, hb1⟩
      by_cases he : (a k).id = id
      · have h1 : ((a k).id == id) = true := beq_iff_eq.2 he
        have HE := hide (idxA_yes hlt he HL.out)
        clear he
        go_wp2_with fail
        go_ret
        exact ⟨by rw [HE.out]; rfl, hB.trans (hb1.mono hB.size)⟩
      · have h1 : ((a k).id == id) = false := beq_eq_false_iff_ne.2 he
        have HE := hide he
        clear he
        go_wp2_with fail
        go_roundw
        case rel => exact ⟨k + 1, by omega, by go_num, fun j hj => by rcases Nat.lt_succ_iff_lt_or_eq.1 hj with h | rfl; exact HL.out j h; exact HE.out, hB.trans (hb1.mono hB.size)⟩
        case measure => simp [intOf]; omega
    · obtain rfl : k = n := by omega
      have HE := hide (idxA_no hl)
      clear hl
      go_wp2_with fail
      go_ret
      exact ⟨by rw [HE.out]; rfl, hB⟩
/-- Books as cells: the accounts and the journal. -/
structure Bks (C : Array Value) (aA : Option Addr) (an ac : Nat) (jA : Option Addr) (jn jc : Nat) : Prop where
  size : C.size = 22
  acc : C[18]? = some (.slice aA an ac)
  jou : C[19]? = some (.slice jA jn jc)
theorem index_any (C : Array Value) (aA : Option Addr) (an ac : Nat) (jA : Option Addr) (jn jc : Nat) (hC : Bks C aA an ac jA jn jc) (a : Nat → LAcc) (id : Int) (hn : an ≤ 1000000) (w : World) (hr : RowAcc w aA an a) :
    Calls Tryd.prog 41 #[.agg C, .int .i64 id] w fun e w' => e = .returned (.int .i64 (idxA a id an)) ∧ Below w.heap.size w w' := by
  have HR := hide hr
  have h18 := hC.acc
  clear hr
  go_enter Tryd.func41, Tryd.ntmps41
  go_wp2_with fail
  refine (ixf_any aA an ac a id (w.heap.size + 1) hn _ (HR.out.below (by (repeat (first | (with_reducible exact Below.refl _ _) | (with_reducible assumption) | ((with_reducible refine Below.alloc ?_ ?_ _); (rotate_left); (first | omega | (simp <;> omega))) | ((with_reducible refine Below.setCell ?_ ?_ _); (rotate_left); (first | omega | (simp <;> omega))) | (with_reducible refine Below.drew ?_) | (with_reducible refine below_drewN ?_ _))))) (by simp) (by simp [go_sem])).mono ?_
  rintro e w1 ⟨rfl, hb⟩
  go_wp2_with fail
  go_ret
  exact ⟨rfl, by refine Below.trans ?_ (hb.mono (by simp; omega)); (repeat (first | (with_reducible exact Below.refl _ _) | (with_reducible assumption) | ((with_reducible refine Below.alloc ?_ ?_ _); (rotate_left); (first | omega | (simp <;> omega))) | ((with_reducible refine Below.setCell ?_ ?_ _); (rotate_left); (first | omega | (simp <;> omega))) | (with_reducible refine Below.drew ?_) | (with_reducible refine below_drewN ?_ _)))⟩
def zAcc : LAcc := ⟨0, 0, 0, 0, ByteArray.empty, ByteArray.empty, ByteArray.empty⟩
/-- What Find answers. -/
def getA (a : Nat → LAcc) (id : Int) (n : Nat) : LAcc := match fndA a id n with | some k => a k | none => zAcc
def hasA (a : Nat → LAcc) (id : Int) (n : Nat) : Bool := (fndA a id n).isSome
theorem getA_yes {a : Nat → LAcc} {id : Int} {n k : Nat} (h : fndA a id n = some k) : getA a id n = a k ∧ hasA a id n = true ∧ idxA a id n = k := by unfold getA hasA idxA; rw [h]; exact ⟨rfl, rfl, rfl⟩
theorem getA_no {a : Nat → LAcc} {id : Int} {n : Nat} (h : fndA a id n = none) : getA a id n = zAcc ∧ hasA a id n = false ∧ idxA a id n = -1 := by unfold getA hasA idxA; rw [h]; exact ⟨rfl, rfl, rfl⟩
end Go.Proofs.YtodfpfbcjiganaaDoor
