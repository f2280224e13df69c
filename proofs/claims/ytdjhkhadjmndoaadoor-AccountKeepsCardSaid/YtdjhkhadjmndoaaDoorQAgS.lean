/- Texts laid together: AgS. -/
import Derived.Test.YtdjhkhadjmndoaaDoorQAgG
import Derived.Test.YtdjhkhadjmndoaaDoorQClF
namespace Go.Proofs.YtdjhkhadjmndoaaDoor
set_option maxRecDepth 4000
set_option linter.unusedSimpArgs false
set_option linter.unusedVariables false
open Go.RowKit
theorem array22 {α : Type} {cs : Array α} (h : cs.size = 22) : ∃ c0 c1 c2 c3 c4 c5 c6 c7 c8 c9 c10 c11 c12 c13 c14 c15 c16 c17 c18 c19 c20 c21, cs = #[c0, c1, c2, c3, c4, c5, c6, c7, c8, c9, c10, c11, c12, c13, c14, c15, c16, c17, c18, c19, c20, c21] := by
  obtain ⟨l⟩ := cs
  match l, h with
  | [c0, c1, c2, c3, c4, c5, c6, c7, c8, c9, c10, c11, c12, c13, c14, c15, c16, c17, c18, c19, c20, c21], _ => exact ⟨c0, c1, c2, c3, c4, c5, c6, c7, c8, c9, c10, c11, c12, c13, c14, c15, c16, c17, c18, c19, c20, c21, rfl⟩
/-- Books without anything. -/
def zbZ : Array Value := #[.slice none 0 0, .slice none 0 0, .slice none 0 0, .int .i64 0, .int .i64 0, .int .i64 0, .int .i64 0, .int .i64 0, .int .i64 0, .int .i64 0, .int .i64 0, .int .i64 0, .int .i64 0, .int .i64 0, .int .i64 0, .int .i64 0, .int .i64 0, .slice none 0 0, .slice none 0 0, .slice none 0 0, .slice none 0 0, .slice none 0 0]
def zbT (j : Nat) : Tr := match (tbl 15).getD j .i with | .sl e => .row 0 (tbl e).length (fun _ _ => .lf undef) | _ => .lf (.int .i64 0)
theorem zb_zero : ∃ (i : TypeInfo) (Z : Array Value), Tryd.prog.info? 41 = some i ∧ i.zero = some (.agg Z) ∧ Z.size = 22 ∧ Z.all (·.oneCell') = true ∧ Z = zbZ := by
  obtain ⟨i, h1, h2⟩ := info_agg (show (Tryd.prog.info? 41).bind (·.zero) = some (.agg zbZ) by kernel_rfl)
  exact ⟨i, zbZ, h1, h2, rfl, by kernel_rfl, rfl⟩
theorem zb_built : ∃ C : Array Value, Tryd.prog.built 41 [] = some C ∧ C.size = 22 ∧ C.all (·.oneCell') = true ∧ C = zbZ := ⟨zbZ, by kernel_rfl, rfl, by kernel_rfl, rfl⟩
theorem zb_size {C : Array Value} (h : C.size = 22) : (Tryd.prog.info? 41).map (·.size) = some C.size := by rw [h]; kernel_rfl
theorem zb_rd {S : Nat → Prop} {w : World} : ElT S w 15 zbT zbZ := by
  refine ⟨rfl, by kernel_rfl, fun j hj => ?_⟩
  have hj2 : j < 22 := hj
  match j, hj2 with
  | 0, _ | 1, _ | 2, _ | 17, _ | 18, _ | 19, _ | 20, _ | 21, _ => exact ⟨none, 0, fun _ _ => undef, rfl, Nat.le_refl _, fun h => absurd h (by decide), fun k _ hk _ => absurd hk (by omega)⟩
  | 3, _ | 4, _ | 5, _ | 6, _ | 7, _ | 8, _ | 9, _ | 10, _ | 11, _ | 12, _ | 13, _ | 14, _ | 15, _ | 16, _ => exact rfl
  | n + 22, h => exact absurd h (by omega)
/-- The opening's cells: the books, then the account. -/
theorem op_zero : ∃ (i : TypeInfo) (Z : Array Value), Tryd.prog.info? 87 = some i ∧ i.zero = some (.agg Z) ∧ Z.size = 29 := by
  obtain ⟨i, h1, h2⟩ := info_agg (show (Tryd.prog.info? 87).bind (·.zero) = some (.agg (zbZ ++ #[.int .i64 0, .int .i64 0, .int .i64 0, .int .i64 0, .string ⟨#[]⟩, .string ⟨#[]⟩, .string ⟨#[]⟩])) by kernel_rfl)
  exact ⟨i, _, h1, h2, rfl⟩
theorem op_built (X : Array Value) (hX : X.size = 22) (h1 : X.all (·.oneCell') = true) (x : LAcc) : ∃ Y : Array Value, Tryd.prog.built 87 [(0, .agg X), (1, .agg #[.int .i64 x.id, .int .i64 x.op, .int .i64 x.cl, .int .i64 x.ex, .string x.ow, .string x.pr, .string x.nu])] = some Y ∧ Y.size = 29 ∧ Y.all (·.oneCell') = true ∧
    (∀ (j : Nat) (v : Value), X[j]? = some v → Y[j]? = some v) ∧ Y[22]? = some (.int .i64 x.id) ∧ Y[23]? = some (.int .i64 x.op) ∧ Y[24]? = some (.int .i64 x.cl) ∧ Y[25]? = some (.int .i64 x.ex) ∧ Y[26]? = some (.string x.ow) ∧ Y[27]? = some (.string x.pr) ∧ Y[28]? = some (.string x.nu) := by
  refine ⟨X ++ #[.int .i64 x.id, .int .i64 x.op, .int .i64 x.cl, .int .i64 x.ex, .string x.ow, .string x.pr, .string x.nu], ?_, by simp [hX], ?_, ?_, ?_, ?_, ?_, ?_, ?_, ?_, ?_⟩
  · obtain ⟨c0, c1, c2, c3, c4, c5, c6, c7, c8, c9, c10, c11, c12, c13, c14, c15, c16, c17, c18, c19, c20, c21, rfl⟩ := array22 hX
    kernel_rfl
  · rw [Array.all_append, h1]; kernel_rfl
  · intro j v hv
    have hj := (Array.getElem?_eq_some_iff.1 hv).1
    rw [Array.getElem?_append_left hj]; exact hv
  all_goals (rw [Array.getElem?_append_right (by omega), hX]; rfl)
end Go.Proofs.YtdjhkhadjmndoaaDoor
