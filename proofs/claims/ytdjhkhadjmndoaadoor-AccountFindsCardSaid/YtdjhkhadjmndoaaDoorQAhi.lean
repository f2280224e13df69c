/- Texts laid together: Ahi. -/
import Derived.Test.YtdjhkhadjmndoaaDoorQAgW
namespace Go.Proofs.YtdjhkhadjmndoaaDoor
set_option maxRecDepth 4000
set_option linter.unusedSimpArgs false
set_option linter.unusedVariables false
open Go.RowKit
theorem rproductT {ck : Nat → Tr} (hw : KnOK 15 ck) (hs : Sml ck) {X : Array Value} (id day : Int) (w : World) (hX : ElT (Old w) w 15 ck X) :
    Calls Tryd.prog 17 #[.agg X, .int .i64 id, .int .i64 day] w (PrRet ck (prdK ck id day) w) := by
  obtain ⟨B, rfl, hB⟩ := bk_of hw hs hX
  exact (rproduct_any B hB.ok id day w hB.inn).mono fun r w' h => pr_of hB h
theorem ractiveT {ck : Nat → Tr} (hw : KnOK 15 ck) (hs : Sml ck) {X : Array Value} (id day : Int) (w : World) (hX : ElT (Old w) w 15 ck X) :
    Calls Tryd.prog 20 #[.agg X, .int .i64 id, .int .i64 day] w fun e w' => e = .returned (.bool (actK ck id day)) ∧ Below w.heap.size w w' := by
  obtain ⟨B, rfl, hB⟩ := bk_of hw hs hX
  have h := ractive_any B hB.ok id day w hB.inn
  have e : actB B id day = actK ck id day := by unfold actB actK; rw [hB.a, hB.an]
  rw [e] at h
  exact h
theorem findT {ck : Nat → Tr} (hw : KnOK 15 ck) (hs : Sml ck) {X : Array Value} (id : Int) {x : LAcc} {b : Bool} (hx : x = getA (acK ck) id (ck 18).n) (hb : b = hasA (acK ck) id (ck 18).n) (w : World) (hX : ElT (Old w) w 15 ck X) :
    Calls Tryd.prog 14 #[.agg X, .int .i64 id] w fun e w' => e = .returned (.tuple #[.agg #[.int .i64 x.id, .int .i64 x.op, .int .i64 x.cl, .int .i64 x.ex, .string x.ow, .string x.pr, .string x.nu], .bool b]) ∧ Below w.heap.size w w' := by
  obtain ⟨B, rfl, hB⟩ := bk_of hw hs hX
  have h := find_any B.C B.aA B.an B.ac B.jA B.jn B.jc hB.ok.bks B.a id hB.ok.an w hB.inn.acc
  rw [hB.a, hB.an, ← hx, ← hb] at h
  exact h
theorem rfindT {ck : Nat → Tr} (hw : KnOK 15 ck) (hs : Sml ck) {X : Array Value} (id : Int) {x : LAcc} {b : Bool} (hx : x = getA (acK ck) id (ck 18).n) (hb : b = hasA (acK ck) id (ck 18).n) (w : World) (hX : ElT (Old w) w 15 ck X) :
    Calls Tryd.prog 15 #[.agg X, .int .i64 id] w fun e w' => e = .returned (.tuple #[.agg #[.int .i64 x.id, .int .i64 x.op, .int .i64 x.cl, .int .i64 x.ex, .string x.ow, .string x.pr, .string x.nu], .bool b]) ∧ Below w.heap.size w w' := by
  obtain ⟨B, rfl, hB⟩ := bk_of hw hs hX
  have h := rfind_any B.C B.aA B.an B.ac B.jA B.jn B.jc hB.ok.bks B.a id hB.ok.an w hB.inn.acc
  rw [hB.a, hB.an, ← hx, ← hb] at h
  exact h
/-- The zero version as a tree; the version that Product hands back. -/
def pzT : Nat → Tr
  | 0 => .lf (.string ⟨#[]⟩) | 1 => .lf (.string ⟨#[]⟩) | 2 => .lf (.string ⟨#[]⟩)
  | 7 => .row 0 2 (fun _ _ => .lf undef) | 12 => .row 0 2 (fun _ _ => .lf undef) | 17 => .row 0 10 (fun _ _ => .lf undef) | 18 => .row 0 6 (fun _ _ => .lf undef)
  | 8 => .lf (.bool false) | 11 => .lf (.bool false) | 13 => .lf (.bool false) | 16 => .lf (.bool false)
  | _ => .lf (.int .i64 0)
theorem pz_rd {S : Nat → Prop} {w : World} (h1 : pzZ.all (·.oneCell') = true) : ElT S w 8 pzT pzZ := ⟨rfl, h1, fun j hj => by
  have hj2 : j < 19 := hj
  match j, hj2 with
  | 7, _ | 12, _ | 17, _ | 18, _ => exact ⟨none, 0, fun _ _ => undef, rfl, Nat.le_refl _, fun h => absurd h (by decide), fun k _ hk _ => absurd hk (by omega)⟩
  | 0, _ | 1, _ | 2, _ | 3, _ | 4, _ | 5, _ | 6, _ | 8, _ | 9, _ | 10, _ | 11, _ | 13, _ | 14, _ | 15, _ | 16, _ => exact rfl
  | n + 19, h => exact absurd h (by omega)⟩
theorem pz_wt : KnOK 8 pzT := fun j hj => by
  have hj2 : j < 19 := hj
  match j, hj2 with
  | 7, _ | 12, _ | 17, _ | 18, _ => exact ⟨rfl, by show 0 * _ ≤ _; omega, fun k i hk _ => absurd hk (by omega)⟩
  | 0, _ | 1, _ | 2, _ => exact ⟨_, rfl, by simp only [maxLen]; decide⟩
  | 3, _ | 4, _ | 5, _ | 6, _ | 9, _ | 10, _ | 14, _ | 15, _ => exact ⟨_, rfl, by unfold IIn; decide⟩
  | 8, _ | 11, _ | 13, _ | 16, _ => exact ⟨false, rfl⟩
  | n + 19, h => exact absurd h (by omega)
def prT (ck : Nat → Tr) (o : Option Nat) : Nat → Tr := match o with | some k => (ck 17).c k | none => pzT
theorem prT_wt {ck : Nat → Tr} (hw : KnOK 15 ck) {id day : Int} : KnOK 8 (prT ck (prdK ck id day)) := by
  cases h : prdK ck id day with
  | none => exact pz_wt
  | some k =>
    have hk := prd_lt h
    have t := hw 17 (by decide)
    show KnOK 8 ((ck 17).c k)
    cases h17 : ck 17 with
    | lf v => rw [h17] at t; cases t
    | row n sz c =>
      rw [h17] at t hk
      obtain ⟨rfl, h1, h2⟩ := t
      exact fun j hj => h2 k j hk hj
/-- What Product hands back, as one tree. -/
def PtRet (pk : Nat → Tr) (b : Bool) (w : World) (r : Ending) (w' : World) : Prop := ∃ D, r = .returned (.tuple #[.agg D, .bool b]) ∧ ElT (Old w) w 8 pk D ∧ Below w.heap.size w w'
theorem pt_of {ck : Nat → Tr} {o : Option Nat} {w w' : World} {r : Ending} (h : PrRet ck o w r w') : PtRet (prT ck o) o.isSome w r w' := by
  obtain ⟨D, b, h1, h2, h3, h4, h5⟩ := h
  cases o with
  | none => obtain ⟨rfl, rfl⟩ := h4; exact ⟨pzZ, h1, pz_rd h3, h5⟩
  | some k => obtain ⟨h6, rfl, _⟩ := h4; exact ⟨D, h1, h6, h5⟩
end Go.Proofs.YtdjhkhadjmndoaaDoor
