/- Texts laid together: Ahr. -/
import Derived.Test.YtdjhkhadjmndoaaGreatDoorQAgW
import Derived.Test.YtdjhkhadjmndoaaGreatDoorQTrM
namespace Go.Proofs.YtdjhkhadjmndoaaGreatDoor
set_option maxRecDepth 4000
set_option linter.unusedSimpArgs false
set_option linter.unusedVariables false
open Go.RowKit
set_option maxRecDepth 8000 in
set_option maxHeartbeats 4000000 in
theorem put_any (X : Array Value) (hs : X.size = 22) (h1 : X.all (·.oneCell') = true) (A : Option Addr) (n c : Nat) (w : World) : Calls Tryz.prog 23 #[.agg X, .slice A n c] w fun e w' => e = .returned (.agg (X.setIfInBounds 18 (.slice A n c))) ∧ Below w.heap.size w w' := by
  obtain ⟨i0, Z, hi0, hi1, hi2, hi3, hi4⟩ := zb_zero
  have HI := hide (And.intro hi0 hi1)
  have HZS := hide (show Z.size = (X.setIfInBounds 18 (.slice A n c)).size by rw [hi2, Array.size_setIfInBounds, hs])
  have HXS := hide (zb_size (C := X.setIfInBounds 18 (.slice A n c)) (by rw [Array.size_setIfInBounds, hs]))
  have HO := hide (all_setZ (i := 18) (v := .slice A n c) h1 rfl)
  obtain ⟨v18, g18⟩ : ∃ v, X[18]? = some v := ⟨_, getD_at (X := X) (j := 18) (by omega)⟩
  clear hs h1 hi0 hi1 hi2 hi3 hi4
  go_enter Tryz.func23, Tryz.ntmps23
  go_wp2_with (first
    | (with_reducible refine wpList_alloc_row rfl 33 rfl (some 4) rfl i0 HI.out.1 Z HI.out.2 (w.heap.size + 1) (by simp) ?_)
    | (with_reducible refine wpList_load_row rfl 33 (.tmp 2) rfl w.heap.size rfl 33 (X.setIfInBounds 18 (.slice A n c)) (0, 0) _ (blk_under (blk_new rfl)) Tryz.underlying33 rfl HXS.out ?_)
    | ((with_reducible refine wpList_store_newrow2 rfl 33 (.tmp 4) (.tmp 7) rfl rfl (w.heap.size + 1) (X.setIfInBounds 18 (.slice A n c)) rfl rfl 33 Z (blk_new (by simp)) HXS.out HZS.out HO.out ?_); intro w9 hb9 hs9 hx9 hk9))
  refine bodyPost_ret (v := .agg (X.setIfInBounds 18 (.slice A n c))) (Go.results_cell_row (by rfl) _ _ (w.heap.size + 1) 33 (X.setIfInBounds 18 (.slice A n c)) (0, 0) _ rfl hx9 Tryz.underlying33 rfl HXS.out) rfl ?_
  exact ⟨rfl, Below.trans (by (repeat (first | (with_reducible first | exact Below.refl _ _ | assumption | refine Below.drew ?_) | ((with_reducible first | refine Below.alloc ?_ ?_ _ | refine Below.setCell ?_ ?_ _); rotate_left; (first | omega | (simp <;> omega)))))) (hb9.mono (by omega))⟩
end Go.Proofs.YtdjhkhadjmndoaaGreatDoor
