/- Texts laid together: AgN AgF. -/
import Derived.Test.YtdjhkhadjmndoaaGreatDoorQStA
import Derived.Test.YtdjhkhadjmndoaaGreatDoorQRowM
namespace Go.Proofs.YtdjhkhadjmndoaaGreatDoor
set_option maxRecDepth 4000
set_option linter.unusedSimpArgs false
set_option linter.unusedVariables false
open Go.RowKit
theorem below_drewN {B : Nat} {a w : World} (h : Below B a w) (n : Nat) : Below B a (w.drewN n) := ⟨h.os, h.tape, h.output, h.size, h.block⟩
/-- A version of a product: its cells, and what is read of it. -/
structure LPro where
  C : Array Value
  nm : ByteArray
  fr : Int
structure PrC (C : Array Value) (p : LPro) : Prop where
  size : C.size = 19
  ones : C.all (·.oneCell') = true
  nm : C[0]? = some (.string p.nm)
  fr : C[3]? = some (.int .i64 p.fr)
def laterB (P : Nat → LPro) (i : Nat) : Option Nat → Bool
  | none => true
  | some k => decide ((P k).fr < (P i).fr)
/-- The version that holds on a day. -/
def bstP (P : Nat → LPro) (nm : ByteArray) (day : Int) : Nat → Option Nat
  | 0 => none
  | i + 1 => if ((P i).nm.toList == nm.toList) = true ∧ (P i).fr ≤ day ∧ laterB P i (bstP P nm day i) = true then some i else bstP P nm day i
def bstV (P : Nat → LPro) (nm : ByteArray) (day : Int) (n : Nat) : Int := match bstP P nm day n with | some k => k | none => -1
theorem bstP_lt {P : Nat → LPro} {nm : ByteArray} {day : Int} : ∀ {n k : Nat}, bstP P nm day n = some k → k < n
  | 0, k, h => by cases h
  | n + 1, k, h => by
    unfold bstP at h
    split at h
    · injection h with h; omega
    · have := bstP_lt h; omega
theorem bstV_some {P : Nat → LPro} {nm : ByteArray} {day : Int} {n k : Nat} (h : bstP P nm day n = some k) : bstV P nm day n = k := by unfold bstV; rw [h]
theorem bstV_none {P : Nat → LPro} {nm : ByteArray} {day : Int} {n : Nat} (h : bstP P nm day n = none) : bstV P nm day n = -1 := by unfold bstV; rw [h]
theorem bst_nm {P : Nat → LPro} {nm : ByteArray} {day : Int} {n : Nat} (h : ((P n).nm.toList == nm.toList) = false) : bstP P nm day (n + 1) = bstP P nm day n := if_neg fun hh => by rw [h] at hh; cases hh.1
theorem bst_fr {P : Nat → LPro} {nm : ByteArray} {day : Int} {n : Nat} (h : day < (P n).fr) : bstP P nm day (n + 1) = bstP P nm day n := if_neg fun hh => by have := hh.2.1; omega
theorem bst_old {P : Nat → LPro} {nm : ByteArray} {day : Int} {n k : Nat} (hk : bstP P nm day n = some k) (h : (P n).fr ≤ (P k).fr) : bstP P nm day (n + 1) = bstP P nm day n := if_neg fun hh => by
  have := hh.2.2
  rw [hk] at this
  have := of_decide_eq_true this
  omega
theorem bst_none {P : Nat → LPro} {nm : ByteArray} {day : Int} {n : Nat} (h1 : ((P n).nm.toList == nm.toList) = true) (h2 : (P n).fr ≤ day) (hk : bstP P nm day n = none) : bstP P nm day (n + 1) = some n := if_pos ⟨h1, h2, by rw [hk]; rfl⟩
theorem bst_new {P : Nat → LPro} {nm : ByteArray} {day : Int} {n k : Nat} (h1 : ((P n).nm.toList == nm.toList) = true) (h2 : (P n).fr ≤ day) (hk : bstP P nm day n = some k) (h : (P k).fr < (P n).fr) : bstP P nm day (n + 1) = some n := if_pos ⟨h1, h2, by rw [hk]; exact decide_eq_true h⟩
/-- An account is open on a day. -/
def actL (x : LAcc) (day : Int) : Bool := decide (x.op ≤ day) && (x.cl == 0 || decide (day < x.cl))
/-- Books. -/
structure LBk where
  C : Array Value
  aA : Option Addr
  an : Nat
  ac : Nat
  a : Nat → LAcc
  jA : Option Addr
  jn : Nat
  jc : Nat
  pA : Option Addr
  pn : Nat
  pc : Nat
  P : Nat → LPro
/-- Rows of versions. -/
structure RowPro (w : World) (A : Option Addr) (n : Nat) (P : Nat → LPro) : Prop where
  row : 0 < n → ∃ b off, A = some ⟨b, off, none⟩ ∧ b < w.heap.size ∧ ∀ k j v, k < n → (P k).C[j]? = some v → w.cell? ⟨b, off + k * 19 + j, none⟩ = some v
theorem RowPro.below {w w' : World} {A : Option Addr} {n : Nat} {P : Nat → LPro} (h : RowPro w A n P) (hb : Below w.heap.size w w') : RowPro w' A n P :=
  ⟨fun hn => by
    obtain ⟨b, off, e, hlt, hc⟩ := h.row hn
    exact ⟨b, off, e, Nat.lt_of_lt_of_le hlt hb.size, fun k j v hk hv => (hb.cell (p := ⟨b, _, none⟩) hlt).trans (hc k j v hk hv)⟩⟩
/-- The version of an account's product on a day. -/
def prdB (B : LBk) (id day : Int) : Option Nat := if hasA B.a id B.an = true then bstP B.P (getA B.a id B.an).pr day B.pn else none
def actB (B : LBk) (id day : Int) : Bool := hasA B.a id B.an && actL (getA B.a id B.an) day
structure BkOK (B : LBk) : Prop where
  bks : Bks B.C B.aA B.an B.ac B.jA B.jn B.jc
  pro : B.C[17]? = some (.slice B.pA B.pn B.pc)
  an : B.an ≤ 1000000
  pn : B.pn ≤ 1000000
  ones : B.C.all (·.oneCell') = true
  cells : ∀ k, k < B.pn → PrC (B.P k).C (B.P k)
structure BkIn (w : World) (B : LBk) : Prop where
  acc : RowAcc w B.aA B.an B.a
  pro : RowPro w B.pA B.pn B.P
theorem BkIn.below {w w' : World} {B : LBk} (h : BkIn w B) (hb : Below w.heap.size w w') : BkIn w' B := ⟨h.acc.below hb, h.pro.below hb⟩
end Go.Proofs.YtdjhkhadjmndoaaGreatDoor
namespace Go.Proofs.YtdjhkhadjmndoaaGreatDoor
set_option maxRecDepth 4000
set_option linter.unusedSimpArgs false
set_option linter.unusedVariables false
open Go.RowKit
def RFdInv (a : Nat → LAcc) (id : Int) (n : Nat) (W : World) (v : Value) (wr : World) : Prop := ∃ k : Nat, k ≤ n ∧ v = .int .i64 k ∧ (∀ j, j < k → (a j).id ≠ id) ∧ Below W.heap.size W wr
set_option maxHeartbeats 1000000 in
theorem rfind_any (C : Array Value) (aA : Option Addr) (an ac : Nat) (jA : Option Addr) (jn jc : Nat) (hC : Bks C aA an ac jA jn jc) (a : Nat → LAcc) (id : Int) (hn : an ≤ 1000000) (w : World) (hr : RowAcc w aA an a) :
    Calls Tryz.prog 31 #[.agg C, .int .i64 id] w fun e w' => e = .returned (.tuple #[.agg #[.int .i64 (getA a id an).id, .int .i64 (getA a id an).op, .int .i64 (getA a id an).cl, .int .i64 (getA a id an).ex, .string (getA a id an).ow, .string (getA a id an).pr, .string (getA a id an).nu], .bool (hasA a id an)]) ∧ Below w.heap.size w w' := by
  have HR := hide hr
  have h18 := hC.acc
  clear hr hC
  go_enter Tryz.func31, Tryz.ntmps31
  go_wp2_with fail
  go_loopw [6] (fun v wr => RFdInv a id an ((w.alloc (.cells C 33)).alloc (.cells #[.int .i64 0, .int .i64 0, .int .i64 0, .int .i64 0, .string ⟨#[]⟩, .string ⟨#[]⟩, .string ⟨#[]⟩] 35)) v wr) (fun v _ => an - (intOf v).toNat)
  case atStart => exact ⟨0, by omega, rfl, fun j hj => by omega, Below.refl _ _⟩
  case round =>
    obtain ⟨k, hk, rfl, hl, hb⟩ := hrel
    have HL := hide hl
    clear hl
    have H0 := hide hb
    have q1B : Below w.heap.size w wr := (by refine Below.trans ?_ (hb.mono (by first | omega | (simp <;> omega))); (repeat (first | (with_reducible first | exact Below.refl _ _ | assumption | refine Below.drew ?_) | ((with_reducible first | refine Below.alloc ?_ ?_ _ | refine Below.setCell ?_ ?_ _); rotate_left; (first | omega | (simp <;> omega))))))
    have q1z := hb.size
    try simp at q1z
    have q1t : w.heap.size ≤ wr.heap.size := (by omega)
    have q1s0 : w.heap.size < wr.heap.size := (by omega)
    have q1n0_0 : ¬ wr.heap.size = w.heap.size := (by omega)
    have q1n0_1 : ¬ wr.heap.size + 1 = w.heap.size := (by omega)
    have q1n0_2 : ¬ wr.heap.size + 2 = w.heap.size := (by omega)
    have q1c0_18 := hb.cell (p := ⟨w.heap.size, 18, none⟩) (by first | omega | (simp <;> omega))
    simp [go_sem, *] at q1c0_18
    have q1f0 := fun o => hb.frozen (p := ⟨w.heap.size, o, none⟩) (by first | omega | (simp <;> omega))
    simp [go_sem, *] at q1f0
    have q1s1 : w.heap.size + 1 < wr.heap.size := (by omega)
    have q1n1_0 : ¬ wr.heap.size = w.heap.size + 1 := (by omega)
    have q1n1_1 : ¬ wr.heap.size + 1 = w.heap.size + 1 := (by omega)
    have q1n1_2 : ¬ wr.heap.size + 2 = w.heap.size + 1 := (by omega)
    have q1c1_0 := hb.cell (p := ⟨w.heap.size + 1, 0, none⟩) (by first | omega | (simp <;> omega))
    simp [go_sem, *] at q1c1_0
    have q1c1_1 := hb.cell (p := ⟨w.heap.size + 1, 1, none⟩) (by first | omega | (simp <;> omega))
    simp [go_sem, *] at q1c1_1
    have q1c1_2 := hb.cell (p := ⟨w.heap.size + 1, 2, none⟩) (by first | omega | (simp <;> omega))
    simp [go_sem, *] at q1c1_2
    have q1c1_3 := hb.cell (p := ⟨w.heap.size + 1, 3, none⟩) (by first | omega | (simp <;> omega))
    simp [go_sem, *] at q1c1_3
    have q1c1_4 := hb.cell (p := ⟨w.heap.size + 1, 4, none⟩) (by first | omega | (simp <;> omega))
    simp [go_sem, *] at q1c1_4
    have q1c1_5 := hb.cell (p := ⟨w.heap.size + 1, 5, none⟩) (by first | omega | (simp <;> omega))
    simp [go_sem, *] at q1c1_5
    have q1c1_6 := hb.cell (p := ⟨w.heap.size + 1, 6, none⟩) (by first | omega | (simp <;> omega))
    simp [go_sem, *] at q1c1_6
    have q1f1 := fun o => hb.frozen (p := ⟨w.heap.size + 1, o, none⟩) (by first | omega | (simp <;> omega))
    simp [go_sem, *] at q1f1
    have q1o : ∀ b o, b < w.heap.size → wr.cell? ⟨b, o, none⟩ = w.cell? ⟨b, o, none⟩ := fun b o h => q1B.cell (p := ⟨b, o, none⟩) h
    clear hb
    clear h18
    by_cases hlt : k < an
    · have hm : (k : Int) < an := by omega
      obtain ⟨b, off, rfl, hbl, c0, c1, c2, c3, c4, c5, c6⟩ := (HR.out.below q1B).at hlt
      by_cases he : (a k).id = id
      · have h1 : ((a k).id == id) = true := beq_iff_eq.2 he
        have HE := hide (getA_yes (fndA_first hlt he HL.out))
        clear he
        have hk0 : (0 : Int) ≤ k := by omega
        clear hlt hk
        go_wp2_with fail
        refine bodyPost_ret (by simp [results, Tryz.results31, go_sem, *] <;> rfl) rfl ⟨?_, ?_⟩
        · rw [HE.out.1, HE.out.2.1]
        (repeat (first | (with_reducible first | exact Below.refl _ _ | assumption | refine Below.drew ?_) | ((with_reducible first | refine Below.alloc ?_ ?_ _ | refine Below.setCell ?_ ?_ _); rotate_left; (first | omega | (simp <;> omega)))))
      · have h1 : ((a k).id == id) = false := beq_eq_false_iff_ne.2 he
        have HE := hide he
        clear he
        have hk0 : (0 : Int) ≤ k := by omega
        have HK := hide hlt
        clear hlt hk
        go_wp2_with fail
        go_roundw
        case rel => exact ⟨k + 1, HK.out, by go_num, fun j hj => by rcases Nat.lt_succ_iff_lt_or_eq.1 hj with h | rfl; exact HL.out j h; exact HE.out, H0.out⟩
        case measure => have := HK.out; simp [intOf]; omega
    · obtain rfl : k = an := by omega
      have HE := hide (getA_no (fndA_no HL.out))
      clear hlt hk
      go_wp2_with fail
      refine bodyPost_ret (by simp [results, Tryz.results31, go_sem, *] <;> rfl) rfl ⟨?_, ?_⟩
      · rw [HE.out.1, HE.out.2.1]; rfl
      (repeat (first | (with_reducible first | exact Below.refl _ _ | assumption | refine Below.drew ?_) | ((with_reducible first | refine Below.alloc ?_ ?_ _ | refine Below.setCell ?_ ?_ _); rotate_left; (first | omega | (simp <;> omega)))))
end Go.Proofs.YtdjhkhadjmndoaaGreatDoor
