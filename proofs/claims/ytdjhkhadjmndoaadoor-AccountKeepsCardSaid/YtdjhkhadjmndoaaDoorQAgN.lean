/- Texts laid together: AgN. -/
import Derived.Test.YtdjhkhadjmndoaaDoorQStA
namespace Go.Proofs.YtdjhkhadjmndoaaDoor
set_option maxRecDepth 4000
set_option linter.unusedSimpArgs false
set_option linter.unusedVariables false
open Go.RowKit
theorem below_drewN {B : Nat} {a w : World} (h : Below B a w) (n : Nat) : Below B a (w.drewN n) := ⟨h.os, h.tape, h.output, h.size, h.block⟩
/-- A version of a product: its cells, and what is read of it. -/
structure LPro where
  C : Array Value
  nm : ByteArray
  fr : Int
structure PrC (C : Array Value) (p : LPro) : Prop where
  size : C.size = 19
  ones : C.all (·.oneCell') = true
  nm : C[0]? = some (.string p.nm)
  fr : C[3]? = some (.int .i64 p.fr)
def laterB (P : Nat → LPro) (i : Nat) : Option Nat → Bool
  | none => true
  | some k => decide ((P k).fr < (P i).fr)
/-- The version that holds on a day. -/
def bstP (P : Nat → LPro) (nm : ByteArray) (day : Int) : Nat → Option Nat
  | 0 => none
  | i + 1 => if ((P i).nm.toList == nm.toList) = true ∧ (P i).fr ≤ day ∧ laterB P i (bstP P nm day i) = true then some i else bstP P nm day i
def bstV (P : Nat → LPro) (nm : ByteArray) (day : Int) (n : Nat) : Int := match bstP P nm day n with | some k => k | none => -1
theorem bstP_lt {P : Nat → LPro} {nm : ByteArray} {day : Int} : ∀ {n k : Nat}, bstP P nm day n = some k → k < n
  | 0, k, h => by cases h
  | n + 1, k, h => by
    unfold bstP at h
    split at h
    · injection h with h; omega
    · have := bstP_lt h; omega
theorem bstV_some {P : Nat → LPro} {nm : ByteArray} {day : Int} {n k : Nat} (h : bstP P nm day n = some k) : bstV P nm day n = k := by unfold bstV; rw [h]
theorem bstV_none {P : Nat → LPro} {nm : ByteArray} {day : Int} {n : Nat} (h : bstP P nm day n = none) : bstV P nm day n = -1 := by unfold bstV; rw [h]
theorem bst_nm {P : Nat → LPro} {nm : ByteArray} {day : Int} {n : Nat} (h : ((P n).nm.toList == nm.toList) = false) : bstP P nm day (n + 1) = bstP P nm day n := if_neg fun hh => by rw [h] at hh; cases hh.1
theorem bst_fr {P : Nat → LPro} {nm : ByteArray} {day : Int} {n : Nat} (h : day < (P n).fr) : bstP P nm day (n + 1) = bstP P nm day n := if_neg fun hh => by have := hh.2.1; omega
theorem bst_old {P : Nat → LPro} {nm : ByteArray} {day : Int} {n k : Nat} (hk : bstP P nm day n = some k) (h : (P n).fr ≤ (P k).fr) : bstP P nm day (n + 1) = bstP P nm day n := if_neg fun hh => by
  have := hh.2.2
  rw [hk] at this
  have := of_decide_eq_true this
  omega
theorem bst_none {P : Nat → LPro} {nm : ByteArray} {day : Int} {n : Nat} (h1 : ((P n).nm.toList == nm.toList) = true) (h2 : (P n).fr ≤ day) (hk : bstP P nm day n = none) : bstP P nm day (n + 1) = some n := if_pos ⟨h1, h2, by rw [hk]; rfl⟩
theorem bst_new {P : Nat → LPro} {nm : ByteArray} {day : Int} {n k : Nat} (h1 : ((P n).nm.toList == nm.toList) = true) (h2 : (P n).fr ≤ day) (hk : bstP P nm day n = some k) (h : (P k).fr < (P n).fr) : bstP P nm day (n + 1) = some n := if_pos ⟨h1, h2, by rw [hk]; exact decide_eq_true h⟩
/-- An account is open on a day. -/
def actL (x : LAcc) (day : Int) : Bool := decide (x.op ≤ day) && (x.cl == 0 || decide (day < x.cl))
/-- Books. -/
structure LBk where
  C : Array Value
  aA : Option Addr
  an : Nat
  ac : Nat
  a : Nat → LAcc
  jA : Option Addr
  jn : Nat
  jc : Nat
  pA : Option Addr
  pn : Nat
  pc : Nat
  P : Nat → LPro
/-- Rows of versions. -/
structure RowPro (w : World) (A : Option Addr) (n : Nat) (P : Nat → LPro) : Prop where
  row : 0 < n → ∃ b off, A = some ⟨b, off, none⟩ ∧ b < w.heap.size ∧ ∀ k j v, k < n → (P k).C[j]? = some v → w.cell? ⟨b, off + k * 19 + j, none⟩ = some v
theorem RowPro.below {w w' : World} {A : Option Addr} {n : Nat} {P : Nat → LPro} (h : RowPro w A n P) (hb : Below w.heap.size w w') : RowPro w' A n P :=
  ⟨fun hn => by
    obtain ⟨b, off, e, hlt, hc⟩ := h.row hn
    exact ⟨b, off, e, Nat.lt_of_lt_of_le hlt hb.size, fun k j v hk hv => (hb.cell (p := ⟨b, _, none⟩) hlt).trans (hc k j v hk hv)⟩⟩
/-- The version of an account's product on a day. -/
def prdB (B : LBk) (id day : Int) : Option Nat := if hasA B.a id B.an = true then bstP B.P (getA B.a id B.an).pr day B.pn else none
def actB (B : LBk) (id day : Int) : Bool := hasA B.a id B.an && actL (getA B.a id B.an) day
structure BkOK (B : LBk) : Prop where
  bks : Bks B.C B.aA B.an B.ac B.jA B.jn B.jc
  pro : B.C[17]? = some (.slice B.pA B.pn B.pc)
  an : B.an ≤ 1000000
  pn : B.pn ≤ 1000000
  ones : B.C.all (·.oneCell') = true
  cells : ∀ k, k < B.pn → PrC (B.P k).C (B.P k)
structure BkIn (w : World) (B : LBk) : Prop where
  acc : RowAcc w B.aA B.an B.a
  pro : RowPro w B.pA B.pn B.P
theorem BkIn.below {w w' : World} {B : LBk} (h : BkIn w B) (hb : Below w.heap.size w w') : BkIn w' B := ⟨h.acc.below hb, h.pro.below hb⟩
end Go.Proofs.YtdjhkhadjmndoaaDoor
