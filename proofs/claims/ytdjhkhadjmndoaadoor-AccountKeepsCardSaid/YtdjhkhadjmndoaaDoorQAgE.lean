/- Texts laid together: AgE. -/
import Derived.Test.YtdjhkhadjmndoaaDoorQAgC
import Derived.Test.YtdjhkhadjmndoaaDoorQStA
import Derived.Test.YtdjhkhadjmndoaaDoorQRowM
import Derived.Test.YtdjhkhadjmndoaaDoorQAgA
namespace Go.Proofs.YtdjhkhadjmndoaaDoor
set_option maxRecDepth 4000
set_option linter.unusedSimpArgs false
set_option linter.unusedVariables false
open Go.RowKit
/-- Some account has this Id or a greater one. -/
def geB (a : Nat → LAcc) (id : Int) : Nat → Bool
  | 0 => false
  | n + 1 => geB a id n || decide (id ≤ (a n).id)
theorem geB_no {a : Nat → LAcc} {id : Int} : ∀ {n : Nat}, (∀ j, j < n → (a j).id < id) → geB a id n = false
  | 0, _ => rfl
  | n + 1, h => by
    unfold geB
    rw [geB_no (fun j hj => h j (by omega)), decide_eq_false (by have := h n (by omega); omega)]; rfl
theorem geB_yes {a : Nat → LAcc} {id : Int} : ∀ {n k : Nat}, k < n → id ≤ (a k).id → geB a id n = true
  | 0, k, hk, _ => by omega
  | n + 1, k, hk, h => by
    unfold geB
    rcases Nat.lt_succ_iff_lt_or_eq.1 hk with h1 | rfl
    · rw [geB_yes h1 h]; rfl
    · rw [decide_eq_true h]; exact Bool.or_true _
theorem geB_lt {a : Nat → LAcc} {id : Int} : ∀ {n : Nat}, geB a id n = false → ∀ j, j < n → (a j).id < id
  | 0, _, j, hj => by omega
  | n + 1, h, j, hj => by
    unfold geB at h
    rw [Bool.or_eq_false_iff] at h
    rcases Nat.lt_succ_iff_lt_or_eq.1 hj with h1 | rfl
    · exact geB_lt h.1 j h1
    · have := of_decide_eq_false h.2; omega
theorem gf1_any (i0 i1 i2 i3 : Int) (s4 s5 s6 : ByteArray) (id : Int) (bi : Nat) (w : World) (hb : bi < w.heap.size) (hc : w.cell? ⟨bi, 0, none⟩ = some (.int .i64 id)) :
    Calls Tryd.prog 64 #[.agg #[.int .i64 i0, .int .i64 i1, .int .i64 i2, .int .i64 i3, .string s4, .string s5, .string s6], .pointer (some ⟨bi, 0, none⟩)] w fun e w' => e = .returned (.bool (decide (id ≤ i0))) ∧ Below w.heap.size w w' := by
  go_enter Tryd.func64, Tryd.ntmps64
  go_wp2_with fail
  go_ret
  exact ⟨rfl, by (repeat (first | (with_reducible first | exact Below.refl _ _ | assumption | refine Below.drew ?_) | ((with_reducible first | refine Below.alloc ?_ ?_ _ | refine Below.setCell ?_ ?_ _); rotate_left; (first | omega | (simp <;> omega)))))⟩
def GxInv (a : Nat → LAcc) (id : Int) (n : Nat) (w : World) (v : Value) (wr : World) : Prop := ∃ k : Nat, k ≤ n ∧ v = .int .i64 k ∧ (∀ j, j < k → (a j).id < id) ∧ Below w.heap.size w wr
def GxRet (a : Nat → LAcc) (id : Int) (n : Nat) (w : World) (e : Ending) (w' : World) : Prop := ∃ v : Int, e = .returned (.int .i64 v) ∧ decide (0 ≤ v) = geB a id n ∧ Below w.heap.size w w'
theorem gxf_any (A : Option Addr) (n c : Nat) (a : Nat → LAcc) (id : Int) (bi : Nat) (hn : n ≤ 1000000) (w : World) (hr : RowAcc w A n a) (hb : bi < w.heap.size) (hc : w.cell? ⟨bi, 0, none⟩ = some (.int .i64 id)) :
    Calls Tryd.prog 60 #[.slice A n c, .func (.func 64) #[] #[.pointer (some ⟨bi, 0, none⟩)]] w (GxRet a id n w) := by
  go_enter Tryd.func60, Tryd.ntmps60
  go_wp2_with fail
  go_loopw [8] (fun v wr => GxInv a id n w v wr) (fun v _ => n - (intOf v).toNat)
  case atStart => exact ⟨0, by omega, rfl, fun j hj => by omega, by (repeat (first | (with_reducible first | exact Below.refl _ _ | assumption | refine Below.drew ?_) | ((with_reducible first | refine Below.alloc ?_ ?_ _ | refine Below.setCell ?_ ?_ _); rotate_left; (first | omega | (simp <;> omega)))))⟩
  case round =>
    obtain ⟨k, hk, rfl, hl, hB⟩ := hrel
    by_cases hlt : k < n
    · have hm : (k : Int) < n := by omega
      obtain ⟨b, off, rfl, hbl, c0, c1, c2, c3, c4, c5, c6⟩ := (hr.below hB).at hlt
      have HL := hide hl
      clear hl
      go_wp2_with fail
      refine (gf1_any _ _ _ _ _ _ _ id bi _ (by have := hB.size; omega) ((hB.cell (p := ⟨bi, 0, none⟩) hb).trans hc)).mono ?_
      rintro e w1 ⟨rfl, hb1⟩
      by_cases he : id ≤ (a k).id
      · have h1 : decide (id ≤ (a k).id) = true := decide_eq_true he
        have HE := hide (geB_yes hlt he)
        clear he
        go_wp2_with fail
        go_ret
        exact ⟨k, rfl, by rw [HE.out]; exact decide_eq_true (by omega), hB.trans (hb1.mono hB.size)⟩
      · have h1 : decide (id ≤ (a k).id) = false := decide_eq_false he
        have HE := hide (Int.not_le.1 he)
        clear he
        go_wp2_with fail
        go_roundw
        case rel => exact ⟨k + 1, by omega, by go_num, fun j hj => by rcases Nat.lt_succ_iff_lt_or_eq.1 hj with h | rfl; exact HL.out j h; exact HE.out, hB.trans (hb1.mono hB.size)⟩
        case measure => simp [intOf]; omega
    · obtain rfl : k = n := by omega
      have HE := hide (geB_no hl)
      clear hl
      go_wp2_with fail
      go_ret
      exact ⟨-1, rfl, by rw [HE.out]; rfl, hB⟩
theorem ctf_any (A : Option Addr) (n c : Nat) (a : Nat → LAcc) (id : Int) (bi : Nat) (hn : n ≤ 1000000) (w : World) (hr : RowAcc w A n a) (hb : bi < w.heap.size) (hc : w.cell? ⟨bi, 0, none⟩ = some (.int .i64 id)) :
    Calls Tryd.prog 63 #[.slice A n c, .func (.func 64) #[] #[.pointer (some ⟨bi, 0, none⟩)]] w fun e w' => e = .returned (.bool (geB a id n)) ∧ Below w.heap.size w w' := by
  have HG := hide (gxf_any A n c a id bi hn w hr hb hc)
  clear hr hc
  go_enter Tryd.func63, Tryd.ntmps63
  go_wp2_with fail
  refine HG.out.mono ?_
  rintro e w1 ⟨v, rfl, hv, hb1⟩
  have HV := hide hv
  clear hv
  go_wp2_with fail
  go_ret
  exact ⟨by rw [← HV.out]; first | rfl | (congr 2), hb1⟩
/-- What owned answers. -/
noncomputable def ownE (P : Nat → LPro) (pn : Nat) (x : LAcc) : Int := if nameB x.ow = false then 4 else if (bstP P x.pr x.op pn).isSome = false then 11 else 0
theorem cat_some {P : Nat → LPro} {o : Option Nat} {C : Array Value} {b : Bool} (h : match o with | some k => C = (P k).C ∧ b = true | none => C = pzZ ∧ b = false) : o.isSome = b := by
  cases o with
  | none => exact h.2.symm
  | some k => exact h.2.symm
end Go.Proofs.YtdjhkhadjmndoaaDoor
