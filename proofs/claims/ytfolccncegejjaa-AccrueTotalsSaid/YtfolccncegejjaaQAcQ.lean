/- Texts laid together: AcQ. -/
import Derived.Test.YtfolccncegejjaaQPrO
namespace Go.Proofs.Ytfolccncegejjaa
set_option maxRecDepth 4000
set_option linter.unusedSimpArgs false
set_option linter.unusedVariables false
open Go.RowKit Go.Deep Go.WideShapes
theorem list7 {α : Type} {l : List α} (h : l.length = 7) : ∃ c0 c1 c2 c3 c4 c5 c6, l = [c0, c1, c2, c3, c4, c5, c6] := by
  match l, h with
  | [c0, c1, c2, c3, c4, c5, c6], _ => exact ⟨c0, c1, c2, c3, c4, c5, c6, rfl⟩
theorem list2 {α : Type} {l : List α} (h : l.length = 2) : ∃ c0 c1, l = [c0, c1] := by
  match l, h with
  | [c0, c1], _ => exact ⟨c0, c1, rfl⟩
theorem wide_back {h l : Int} (b0 : 0 ≤ l) (b1 : l < 18446744073709551616) : hiW (h * 18446744073709551616 + l) = h ∧ loW (h * 18446744073709551616 + l) = l := by
  unfold hiW loW
  omega
section
variable {H : Type} {enc : TypeId × Value → H} {w : World} {base : Nat} {spare : Nat → Bool} {held : Bool}
theorem wide_cells {cs : List Value} {fu : Nat} {x : DataW H × List MemPlace} (hl : cs.length = 2) (h : DataW.trod enc Try.prog w base spare held fu 38 cs = some x) :
    ∃ z : Int, cs = [.int .i64 (hiW z), .int .u64 (loW z)] ∧ WIn z := by
  obtain ⟨c0, c1, rfl⟩ := list2 hl
  obtain ⟨t0, f0, g0⟩ := trod_cell (j := 0) (o := 0) (k := .i) (by kernel_rfl) (by simp) h
  obtain ⟨t1, f1, g1⟩ := trod_cell (j := 1) (o := 1) (k := .u) (by kernel_rfl) (by simp) h
  obtain ⟨s0, b0⟩ := cell_int (fkB_i f0) g0
  obtain ⟨s1, b1, b2⟩ := cell_u64 (fkB_u f1) g1
  have s0 : c0 = .int .i64 (intOf c0) := s0
  have s1 : c1 = .int .u64 (intOf c1) := s1
  have b0 : IIn (intOf c0) := b0
  have b1 : 0 ≤ intOf c1 := b1
  have b2 : intOf c1 < 18446744073709551616 := b2
  obtain ⟨e0, e1⟩ := wide_back (h := intOf c0) b1 b2
  refine ⟨intOf c0 * 18446744073709551616 + intOf c1, ?_, ?_⟩
  · rw [e0, e1, ← s0, ← s1]
  · unfold IIn at b0
    unfold WIn
    omega
set_option maxRecDepth 100000 in
theorem acr_open {r : Reach} {b0 : Nat} {v : Value} {d : DataW H} {p : List MemPlace} (hv : Value.okWide Try.prog w r b0 45 v) (h : DataW.Trod enc Try.prog w base spare held 45 v d p) :
    ∃ A n c L, v = .slice A n c ∧ RowAcr w A n L ∧ ∀ k, k < n → WIn (L k).cr ∧ WIn (L k).db := by
  obtain ⟨A, n, c, rfl⟩ := okWide_slice Try.underlying45 hv
  obtain ⟨fuel, hf⟩ := h
  obtain ⟨C, hr, hd⟩ := rows_open (sz := 7) Try.underlying45 (by kernel_rfl) (by decide) hf
  have key : ∀ k, k < n → ∃ V : LAcr, C k = acrL V ∧ WIn V.cr ∧ WIn V.db := fun k hk => by
    obtain ⟨hl, fu, y, h⟩ := hd k hk
    obtain ⟨c0, c1, c2, c3, c4, c5, c6, e⟩ := list7 hl
    rw [e] at h ⊢
    obtain ⟨t0, f0, g0⟩ := trod_cell (j := 0) (o := 0) (k := .i) (by kernel_rfl) (by simp) h
    obtain ⟨t1, f1, g1⟩ := trod_cell (j := 1) (o := 1) (k := .i) (by kernel_rfl) (by simp) h
    obtain ⟨t2, f2, g2⟩ := trod_cell (j := 2) (o := 2) (k := .i) (by kernel_rfl) (by simp) h
    obtain ⟨_, _, h3⟩ := trod_sub (j := 3) (o := 3) (s := 2) (ty := 38) (by kernel_rfl) h
    obtain ⟨_, _, h4⟩ := trod_sub (j := 4) (o := 5) (s := 2) (ty := 38) (by kernel_rfl) h
    have s0 : c0 = .int .i64 (intOf c0) := (cell_int (fkB_i f0) g0).1
    have s1 : c1 = .int .i64 (intOf c1) := (cell_int (fkB_i f1) g1).1
    have s2 : c2 = .int .i64 (intOf c2) := (cell_int (fkB_i f2) g2).1
    obtain ⟨x, ex, bx⟩ := wide_cells (by simp) h3
    obtain ⟨z, ez, bz⟩ := wide_cells (by simp) h4
    simp only [List.drop_succ_cons, List.drop_zero, List.take_succ_cons, List.take_zero, List.cons.injEq, and_true] at ex ez
    refine ⟨⟨intOf c0, intOf c1, intOf c2, x, z⟩, ?_, bx, bz⟩
    show [c0, c1, c2, c3, c4, c5, c6] = [.int .i64 (intOf c0), .int .i64 (intOf c1), .int .i64 (intOf c2), .int .i64 (hiW x), .int .u64 (loW x), .int .i64 (hiW z), .int .u64 (loW z)]
    rw [← s0, ← s1, ← s2, ex.1, ex.2, ez.1, ez.2]
  obtain ⟨L, hL⟩ : ∃ L : Nat → LAcr, ∀ k, k < n → C k = acrL (L k) ∧ WIn (L k).cr ∧ WIn (L k).db :=
    ⟨fun k => if hk : k < n then Classical.choose (key k hk) else zAcr, fun k hk => by simp only [dif_pos hk]; exact Classical.choose_spec (key k hk)⟩
  refine ⟨A, n, c, L, rfl, fun hn => ?_, fun k hk => (hL k hk).2⟩
  obtain ⟨b, off, e, hlt, hc⟩ := hr hn
  refine ⟨b, off, e, hlt, fun k j hk hj => ?_⟩
  have := hc k j (acrC (L k) j) hk (by rw [(hL k hk).1]; exact acrL_at _ _ hj)
  rw [Nat.add_assoc] at this
  exact this
end
end Go.Proofs.Ytfolccncegejjaa
