/- Texts laid together: Ahh. -/
import Derived.Test.YtdjhkhadjmndoaaDoorQTrM
import Derived.Deep.MidRow
namespace Go.Proofs.YtdjhkhadjmndoaaDoor
set_option maxRecDepth 4000
set_option linter.unusedSimpArgs false
set_option linter.unusedVariables false
open Go.RowKit
theorem rg_row {N : Nat} {W wx : World} {b : Nat} {C : Array Value} {t : TypeId} (hS : SB N [] W wx) (hb : b < N) (h : W.heap[b]? = some (.cells C t (0, 0))) : wx.rangeAt b 0 C.toList := fun j v hv => by
  rw [hS b (0 + j) hb (by simp), Nat.zero_add, cell_of_cells h]
  simpa using hv
theorem tk_row {P : Program} {op : Oper} {a : Act} {w : World} (ty : TypeId) (x : Operand) (ho : op.op = .load ty x) (b o : Nat) (hx : a.eval x = .pointer (some ⟨b, o, none⟩)) (C : Array Value) (d : TypeDesc) (hc : w.rangeAt b o C.toList) (hu : P.underlying ty = some d) (hd : d.isRow = true) (hi : (P.info? ty).map (·.size) = some C.size) : (execOp a.eval op).run P w = .ok (.value (.agg C)) w := by
  have h := run_loadAt_mid w b o ty C.toList d hc hu hd (by simpa using hi)
  rw [Array.toArray_toList] at h
  unfold execOp
  simp only [ho, hx, Sem.run_bind, h, Sem.run_pure, Result.andThen_ok]
end Go.Proofs.YtdjhkhadjmndoaaDoor
