/- Texts laid together: Open. -/
import Derived.Test.YtfolccncegejjaaQTierM
import Derived.Deep.Slices
import Derived.Deep.Fields
import Derived.Sort.WalkA
namespace Go.Proofs.Ytfolccncegejjaa
set_option maxRecDepth 4000
set_option linter.unusedSimpArgs false
set_option linter.unusedVariables false
open Go.ChangeShapes Go.WideShapes Go.RowKit Go.Deep
theorem cell_lt {w : World} {a : Addr} {v : Value} (h : w.cell? a = some v) : a.block < w.heap.size := by
  unfold World.cell? at h
  split at h
  · rename_i hx
    rcases Nat.lt_or_ge a.block w.heap.size with h1 | h1
    · exact h1
    · simp [Array.getElem?_eq_none h1] at hx
  · simp at h
theorem row2_open {H : Type} {enc : TypeId × Value → H} {P : Program} {w : World} {base : Nat} {spare : Nat → Bool} {held : Bool} {t e : TypeId} {fs : Array Field} {fuel : Nat} {A : Option Addr} {n c : Nat} {x : DataW H × List MemPlace}
    (ht : P.underlying t = some (.slice e)) (he : P.underlying e = some (.struct fs)) (hfs : fs.size = 2) (hone : oneCellFields P fs = true) (hC : P.cellsOf e = 2)
    (k0 : ∀ f, fs[0]? = some f → P.underlying f.type = some (.int .i64)) (k1 : ∀ f, fs[1]? = some f → P.underlying f.type = some (.int .i64))
    (h : DataW.trod enc P w base spare held fuel t [.slice A n c] = some x) : ∃ f g, Row2 w A n f g ∧ IB n f g := by
  rcases open_slice ht h with ⟨h0, _⟩ | ⟨a, len, cap, m, q, D, Pl, hcs, _, hl, hm, hmm, _, hi⟩
  · simp at h0
    obtain ⟨rfl, rfl, rfl⟩ := h0
    exact ⟨fun _ => 0, fun _ => 0, fun h => by omega, fun k hk => by omega⟩
  · simp at hcs
    obtain ⟨rfl, rfl, rfl⟩ := hcs
    have key : ∀ i, i < n → (∃ y, w.cell? (a.add (i * 2)) = some (.int .i64 y) ∧ IIn y) ∧ (∃ y, w.cell? (a.add (i * 2 + 1)) = some (.int .i64 y) ∧ IIn y) := by
      intro i hin
      obtain ⟨cs', hc, ht'⟩ := hi i (by rw [hmm]; split <;> omega)
      rw [hC] at hc
      obtain ⟨xs, q', _, _, hlen, hxl, hf⟩ := DataW.trod_struct he ht'
      obtain ⟨_, hcl, hat⟩ := World.cells?_some hc
      have one : ∀ (j : Nat) (hj : j < 2) (f : Field), fs[j]? = some f → P.underlying f.type = some (.int .i64) → ∃ y, w.cell? (a.add (i * 2 + j)) = some (.int .i64 y) ∧ IIn y := by
        intro j hj f hfj hk
        obtain ⟨ho, hk1⟩ := hone_of hone j f hfj
        have h1 := hf j f hfj
        rw [ho, hk1] at h1
        have hone' : (cs'.drop j).take 1 = [cs'[j]'(by omega)] := by
          rw [List.drop_eq_getElem_cons (by omega)]
          rfl
        rw [hone'] at h1
        have hxs : xs[j]? = some (xs[j]'(by omega)) := List.getElem?_eq_getElem (by omega)
        rw [hxs] at h1
        obtain ⟨y, hy, _, hw⟩ := DataW.trod_int hk h1
        have hv : cs'[j]? = some (cs'[j]'(by omega)) := List.getElem?_eq_getElem (by omega)
        have hcell := hat j hj
        rw [hv] at hcell
        simp only [List.cons.injEq, and_true] at hy
        rw [hy] at hcell
        refine ⟨y, by rw [← hcell, Go.Deep.add_add], ?_⟩
        simp [Lit.wf] at hw
        exact ⟨hw.1, hw.2⟩
      have f0 : fs[0]? = some (fs[0]'(by omega)) := Array.getElem?_eq_getElem (by omega)
      have f1 : fs[1]? = some (fs[1]'(by omega)) := Array.getElem?_eq_getElem (by omega)
      exact ⟨one 0 (by omega) _ f0 (k0 _ f0), one 1 (by omega) _ f1 (k1 _ f1)⟩
    obtain ⟨b, off, spot⟩ := a
    refine ⟨fun i => intOf ((w.cell? (Addr.add ⟨b, off, spot⟩ (i * 2))).getD undef), fun i => intOf ((w.cell? (Addr.add ⟨b, off, spot⟩ (i * 2 + 1))).getD undef), fun hn => ?_, fun i hi => ?_⟩
    · obtain ⟨⟨y, hy, _⟩, _⟩ := key 0 hn
      have hs : spot = none := by simpa [Addr.add] using World.cell?_spot hy
      subst hs
      refine ⟨b, off, rfl, by simpa [Addr.add] using cell_lt hy, fun i hi => ?_⟩
      obtain ⟨⟨y, hy, _⟩, ⟨z, hz, _⟩⟩ := key i hi
      have hadd : ∀ k, Addr.add ⟨b, off, none⟩ k = ⟨b, off + k, none⟩ := fun k => by
        cases k <;> simp [Addr.add]
      rw [hadd] at hy hz
      constructor
      · simp [hadd, hy, intOf]
      · rw [Nat.add_assoc]
        simp [hadd, hz, intOf]
    · obtain ⟨⟨y, hy, hy2⟩, ⟨z, hz, hz2⟩⟩ := key i hi
      simp only [hy, hz, Option.getD_some]
      exact ⟨hy2, hz2⟩
end Go.Proofs.Ytfolccncegejjaa
