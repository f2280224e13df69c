/- Texts laid together: AdA. -/
import Derived.Test.YtfolccncegejjaaQRowM
import Derived.OpenShut
namespace Go.Proofs.Ytfolccncegejjaa
set_option maxRecDepth 4000
set_option linter.unusedSimpArgs false
set_option linter.unusedVariables false
open Go.RowKit Go.Deep Go.WideShapes
theorem arr2_open {H : Type} {enc : TypeId × Value → H} {P : Program} {w : World} {base : Nat} {spare : Nat → Bool} {held : Bool} {r : Reach} {b0 : Nat} {t e : TypeId} {v : Value} {d : DataW H} {p : List MemPlace}
    (ht : P.underlying t = some (.array 2 e)) (he : P.underlying e = some (.int .u8)) (hc : P.cellsOf t = 2) (hce : P.cellsOf e = 1) (hv : Value.okWide P w r b0 t v) (h : DataW.Trod enc P w base spare held t v d p) :
    ∃ a b : Int, v = .agg #[.int .u8 a, .int .u8 b] ∧ 0 ≤ a ∧ a < 256 ∧ 0 ≤ b ∧ b < 256 := by
  simp only [Value.okWide, ht] at hv
  obtain ⟨cs, rfl, hs, _⟩ := hv
  rw [hc] at hs
  obtain ⟨l⟩ := cs
  match l, hs with
  | [c0, c1], _ =>
    obtain ⟨fuel, hf⟩ := h
    obtain ⟨xs, m, _, _, _, hxl, hi⟩ := DataW.trod_array ht hf
    have g0 := hi 0 (by decide)
    have g1 := hi 1 (by decide)
    rw [hce, List.getElem?_eq_getElem (by omega)] at g0 g1
    have r0 : ((Value.agg #[c0, c1]).cells.toList.drop (0 * 1)).take 1 = [c0] := rfl
    have r1 : ((Value.agg #[c0, c1]).cells.toList.drop (1 * 1)).take 1 = [c1] := rfl
    rw [r0] at g0
    rw [r1] at g1
    obtain ⟨a, ha, _, wa⟩ := DataW.trod_int he g0
    obtain ⟨b, hb, _, wb⟩ := DataW.trod_int he g1
    simp only [List.cons.injEq, and_true] at ha hb
    subst ha hb
    simp [Lit.wf, IntKind.min, IntKind.max, IntKind.signed, IntKind.bits] at wa wb
    exact ⟨a, b, rfl, by omega, by omega, by omega, by omega⟩
end Go.Proofs.Ytfolccncegejjaa
