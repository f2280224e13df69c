/- The law TierContinuous returns true for every input.
   Proved for every input: no condition is laid on the arguments. -/
import Derived.Test.YtjjclclianbnfaaRows
import Derived.Test.YtjjclclianbnfaaTm
import Derived.Test.YtjjclclianbnfaaOpen
import Derived.WalkKit
import Derived.ProofKit
import Derived.OpenShut
import Derived.ShutString
import Derived.ChangeOld
import Derived.Below
import Derived.Lib.SmallJoins
namespace Go.Proofs.Ytjjclclianbnfaa.tierContinuousDone
open Go.ChangeShapes Go.WideShapes Go.ChangeAt Go.RowKit Go.Joins
set_option linter.unusedVariables false

theorem trod_bool1 {H : Type} {enc : TypeId × Value → H} {P : Program} {w : World} {base : Nat} {spare : Nat → Bool} {held : Bool} {t : TypeId} {b : Bool} (m : Nat) (ht : P.underlying t = some .bool) : DataW.trod enc P w base spare held (m + 1) t [.bool b] = some (.lit (.bool b), []) := by
  simp [DataW.trod, ht]
theorem own : ownKnob Try.prog.godebug = none := by kernel_rfl
theorem laidOut : laidOutB Try.prog = true := by kernel_rfl
set_option maxRecDepth 100000 in
theorem lifted (os : Os) (started : os.Started) (H : Type) (enc : TypeId × Value → H) :
    ReturnsInHanded {} Try.checked os 7 .any (Rows.tierContinuousSpec.pre6 enc Try.prog Try.f7 Rows.tierContinuousRow.domain false) (Rows.tierContinuousSpec.post enc Try.prog Try.f7 false true false false) := by
  refine returnsInHanded_of_change (C := Try.checked) own started (by kernel_rfl) Try.func7
    (ChangeSpec.witness6 (enc := enc) (C := Try.checked) false ⟨#[], #[.slice none 0 0, .agg #[.bool false, .int .i64 0, .int .i64 0]], []⟩ 8 (by kernel_rfl) (by kernel_rfl) (by kernel_rfl) (by kernel_rfl)) ?_
  intro W base args ds gs before hval0 hW hcnd _
  have hval : ∀ (j : Nat) t v, Try.f7.params[j]? = some t → args[j]? = some v → Value.okWide Try.prog W .any base t v := hval0
  have hW' := hW
  obtain ⟨p, q, hA0, hV, rfl, hfz, hnd⟩ := hW
  have hA : DataW.TrodAll enc Try.prog W 0 (fun _ => true) true Try.f7.params.toList args.toList ds p := hA0
  rw [Try.params7] at hA hval
  obtain ⟨v0, vs0, d0, ds0, p0, q0, hargs, rfl, rfl, h0, r0⟩ := trodAll_cons hA
  obtain ⟨v1, vs1, d1, ds1, p1, q1, rfl, rfl, rfl, h1, r1⟩ := trodAll_cons r0
  obtain ⟨rfl, rfl, rfl⟩ := trodAll_nil r1
  obtain rfl : args = #[v0, v1] := by cases args; simp_all
  obtain ⟨rfl, rfl⟩ := trodVars_none hV
  obtain ⟨a0, len0, cap0, rfl⟩ := okWide_slice Try.underlying22 (hval 0 22 v0 rfl rfl)
  have k0 := h0
  have lt0 : ∀ x ∈ p0, x.block < W.heap.size := by obtain ⟨m, hm⟩ := k0; exact DataW.trod_lt m _ _ _ hm
  obtain ⟨f0, g0, row0, ib0⟩ : ∃ f g, Row2 W a0 len0 f g ∧ IB len0 f g := by
    obtain ⟨fuel, hf⟩ := h0
    exact row2_open Try.underlying22 Try.underlying50 rfl (by kernel_rfl) (by kernel_rfl) (fun f hf => by cases hf; kernel_rfl) (fun f hf => by cases hf; kernel_rfl) hf
  obtain ⟨x0, x1, x2, y0, y1, y2, nn, rfl, rfl, rfl, hx0, hx1, hx2⟩ := open_agg3 Try.underlying40 (by kernel_rfl) (by kernel_rfl) (hval 1 40 v1 rfl rfl) h1
  have hx0b := hx0
  have hx1b := hx1
  have hx2b := hx2
  obtain ⟨am, hxm, rfl⟩ := DataW.trod_bool (by kernel_rfl) hx0
  obtain ⟨aa, hxa, rfl, wa⟩ := DataW.trod_int (k := .i64) (by kernel_rfl) hx1
  obtain ⟨ab, hxb, rfl, wb⟩ := DataW.trod_int (k := .i64) (by kernel_rfl) hx2
  simp only [List.cons.injEq, and_true] at hxm hxa hxb
  subst hxm hxa hxb
  have ba := wa
  simp [Lit.wf] at ba
  have bb := wb
  simp [Lit.wf] at bb
  clear hA0 hval0
  refine (walk_cont a0 len0 cap0 f0 g0 am aa ab ba.1 ba.2 bb.1 bb.2 W row0).mono fun e W' ⟨he, bel⟩ => ?_
  subst he
  exact ⟨_, rfl, _, _, _, [], _, [], hW', trodAll_mk1 (shut_bool Try.underlying4 _), (trodAll_cons_mk (Below.trod laidOut (by kernel_rfl) (of_decide_eq_true (by kernel_rfl)) k0 bel lt0) (trodAll_cons_mk (shut_agg3 Try.underlying40 (by kernel_rfl) (by kernel_rfl) ⟨1, trod_bool1 0 (by kernel_rfl)⟩ ⟨1, trod_int_mk 0 (by kernel_rfl) wa⟩ ⟨1, trod_int_mk 0 (by kernel_rfl) wb⟩) trodAll_mk0)), rfl, bel.frame _, fun h => by cases h⟩

theorem over : Rows.tierContinuousRow.holds Try.pinned (OpenSpec.ofChange Rows.tierContinuousSpec) :=
  OpenClaim.holds_of_wide 7 Try.f7 rfl rfl rfl rfl rfl rfl rfl ⟨rfl, rfl, rfl, rfl, rfl⟩ rfl rfl rfl rfl rfl (by kernel_rfl) Try.func7 (by kernel_rfl)
    (of_decide_eq_true (by kernel_rfl)) (by unfold Func.isWrapper; first | (rw [if_pos (by decide +kernel)]; kernel_rfl) | (rw [if_neg (by decide +kernel)]; exact ⟨rfl, rfl⟩))
    (fun os started H enc _ => lifted os started H enc)

theorem proved : Rows.TierContinuousSaid := over
end Go.Proofs.Ytjjclclianbnfaa.tierContinuousDone

