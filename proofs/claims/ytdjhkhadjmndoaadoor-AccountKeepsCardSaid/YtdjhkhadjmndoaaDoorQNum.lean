/- Texts laid together: Num. -/
import Derived.WalkKit
namespace Go.Proofs.YtdjhkhadjmndoaaDoor
set_option maxRecDepth 4000
set_option linter.unusedSimpArgs false
set_option linter.unusedVariables false
open Go.RowKit
theorem hide {p : Prop} (h : p) : Hid p := h
/-- A number of 128 bits. -/
def WIn (x : Int) : Prop := -170141183460469231731687303715884105728 ≤ x ∧ x < 170141183460469231731687303715884105728
/-- A magnitude of 128 bits. -/
def MIn (x : Int) : Prop := 0 ≤ x ∧ x < 340282366920938463463374607431768211456
/-- An int. -/
def IIn (x : Int) : Prop := -9223372036854775808 ≤ x ∧ x ≤ 9223372036854775807

instance (x : Int) : Decidable (WIn x) := by unfold WIn; exact inferInstance
instance (x : Int) : Decidable (MIn x) := by unfold MIn; exact inferInstance

theorem i64w (n : Int) : IntKind.i64.wrap n = wrap64 n := by rw [IntKind.wrap_i64]; unfold wrap64; rfl
end Go.Proofs.YtdjhkhadjmndoaaDoor
