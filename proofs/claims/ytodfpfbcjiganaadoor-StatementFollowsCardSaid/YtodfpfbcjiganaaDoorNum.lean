/- Numbers of 128 bits as integers: the two halves of a number, and what addition and scaling answer. No program in sight. -/
import Derived.WalkKit
namespace Go.Proofs.YtodfpfbcjiganaaDoor
set_option linter.unusedSimpArgs false
set_option linter.unusedVariables false
open Go.RowKit

theorem hide {p : Prop} (h : p) : Hid p := h
/-- The upper half of a number, rounded down. -/
def hiW (x : Int) : Int := x / 18446744073709551616
/-- The lower half of a number. -/
def loW (x : Int) : Int := x % 18446744073709551616
/-- A number of 128 bits. -/
def WIn (x : Int) : Prop := -170141183460469231731687303715884105728 ≤ x ∧ x < 170141183460469231731687303715884105728
/-- A magnitude of 128 bits. -/
def MIn (x : Int) : Prop := 0 ≤ x ∧ x < 340282366920938463463374607431768211456
/-- An int. -/
def IIn (x : Int) : Prop := -9223372036854775808 ≤ x ∧ x ≤ 9223372036854775807

instance (x : Int) : Decidable (WIn x) := by unfold WIn; exact inferInstance
instance (x : Int) : Decidable (MIn x) := by unfold MIn; exact inferInstance

/-- The number if it fits, else 0. -/
def fitR (z : Int) : Int := if WIn z then z else 0
/-- OK if it fits, else ErrOverflow. -/
def fitE (z : Int) : Int := if WIn z then 0 else 6

theorem hi_lo (x : Int) : x = hiW x * 18446744073709551616 + loW x := by unfold hiW loW; omega
theorem lo_bd (x : Int) : 0 ≤ loW x ∧ loW x < 18446744073709551616 := by unfold loW; omega
theorem hi_bd {x : Int} (h : WIn x) : -9223372036854775808 ≤ hiW x ∧ hiW x ≤ 9223372036854775807 := by unfold WIn at h; unfold hiW; omega
theorem hi_mbd {x : Int} (h : MIn x) : 0 ≤ hiW x ∧ hiW x < 18446744073709551616 := by unfold MIn at h; unfold hiW; omega
theorem of_hi_lo {x h l : Int} (e : x = h * 18446744073709551616 + l) (h0 : 0 ≤ l) (h1 : l < 18446744073709551616) : hiW x = h ∧ loW x = l := by
  unfold hiW loW; omega
theorem fitR_in (z : Int) : WIn (fitR z) := by unfold fitR; split; assumption; decide
theorem fitR_of {z : Int} (h : WIn z) : fitR z = z := if_pos h
theorem fitE_of {z : Int} (h : WIn z) : fitE z = 0 := if_pos h
theorem fitR_not {z : Int} (h : ¬ WIn z) : fitR z = 0 := if_neg h
theorem fitE_not {z : Int} (h : ¬ WIn z) : fitE z = 6 := if_neg h
theorem win_hi {z h l : Int} (e : z = h * 18446744073709551616 + l) (h0 : 0 ≤ l) (h1 : l < 18446744073709551616) : WIn z ↔ -9223372036854775808 ≤ h ∧ h ≤ 9223372036854775807 := by
  unfold WIn; omega
theorem hi_zero : hiW 0 = 0 := by decide
theorem lo_zero : loW 0 = 0 := by decide
theorem hi_inj {x y : Int} (h : hiW x = hiW y) (l : loW x = loW y) : x = y := by rw [hi_lo x, hi_lo y, h, l]
theorem win_zero : WIn 0 := by decide

theorem i64w (n : Int) : IntKind.i64.wrap n = wrap64 n := by rw [IntKind.wrap_i64]; unfold wrap64; rfl
theorem bcell {W w1 : World} (hb : Below W.heap.size W w1) : (∀ b o, b < W.heap.size → w1.cell? ⟨b, o, none⟩ = W.cell? ⟨b, o, none⟩) ∧ (∀ b o, b < W.heap.size → w1.frozen? ⟨b, o, none⟩ = W.frozen? ⟨b, o, none⟩) :=
  ⟨fun b o h => hb.cell (p := ⟨b, o, none⟩) h, fun b o h => hb.frozen (p := ⟨b, o, none⟩) h⟩
end Go.Proofs.YtodfpfbcjiganaaDoor
