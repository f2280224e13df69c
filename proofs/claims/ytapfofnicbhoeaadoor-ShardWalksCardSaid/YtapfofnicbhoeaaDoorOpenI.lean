/- Arguments that are slices of ints, opened. No law in sight. -/
import Derived.Test.YtapfofnicbhoeaaDoorRowM
import Derived.Deep.Slices
import Derived.ChangeSlices
namespace Go.Proofs.YtapfofnicbhoeaaDoor
open Go.ChangeShapes Go.WideShapes Go.RowKit Go.Deep

theorem cell_lt {w : World} {a : Addr} {v : Value} (h : w.cell? a = some v) : a.block < w.heap.size := by
  unfold World.cell? at h
  split at h
  · rename_i hx
    rcases Nat.lt_or_ge a.block w.heap.size with h1 | h1
    · exact h1
    · simp [Array.getElem?_eq_none h1] at hx
  · simp at h
theorem rowI_open {H : Type} {enc : TypeId × Value → H} {P : Program} {w : World} {base : Nat} {spare : Nat → Bool} {held : Bool} {t e : TypeId} {fuel : Nat} {A : Option Addr} {n c : Nat} {x : DataW H × List MemPlace}
    (ht : P.underlying t = some (.slice e)) (he : P.underlying e = some (.int .i64)) (hC : P.cellsOf e = 1)
    (h : DataW.trod enc P w base spare held fuel t [.slice A n c] = some x) : ∃ f, RowI w A n f ∧ ∀ k, k < n → IIn (f k) := by
  rcases open_slice ht h with ⟨h0, _⟩ | ⟨a, len, cap, m, q, D, Pl, hcs, _, hl, hm, hmm, _, hi⟩
  · simp at h0
    obtain ⟨rfl, rfl, rfl⟩ := h0
    exact ⟨fun _ => 0, fun h => by omega, fun k hk => by omega⟩
  · simp at hcs
    obtain ⟨rfl, rfl, rfl⟩ := hcs
    have key : ∀ i, i < n → ∃ y, w.cell? (a.add i) = some (.int .i64 y) ∧ IIn y := by
      intro i hin
      obtain ⟨cs', hc, ht'⟩ := hi i (by rw [hmm]; split <;> omega)
      rw [hC, Nat.mul_one] at hc
      obtain ⟨_, hcl, hat⟩ := World.cells?_some hc
      obtain ⟨y, hy, _, hw⟩ := DataW.trod_int he ht'
      have hcell := hat 0 (by omega)
      rw [hy] at hcell
      have ea : (a.add i).add 0 = a.add i := by simp [Addr.add]
      rw [ea] at hcell
      simp [Lit.wf] at hw
      exact ⟨y, by simpa using hcell, hw⟩
    obtain ⟨b, off, spot⟩ := a
    refine ⟨fun i => intOf ((w.cell? (Addr.add ⟨b, off, spot⟩ i)).getD undef), fun hn => ?_, fun i hi => ?_⟩
    · obtain ⟨y, hy, _⟩ := key 0 hn
      have hs : spot = none := by simpa [Addr.add] using World.cell?_spot hy
      subst hs
      refine ⟨b, off, rfl, by simpa [Addr.add] using cell_lt hy, fun i hi => ?_⟩
      obtain ⟨y, hy, _⟩ := key i hi
      have hadd : ∀ k, Addr.add ⟨b, off, none⟩ k = ⟨b, off + k, none⟩ := fun k => by
        cases k <;> simp [Addr.add]
      rw [hadd] at hy
      simp [hadd, hy, intOf]
    · obtain ⟨y, hy, hy2⟩ := key i hi
      simp only [hy, Option.getD_some]
      exact hy2
end Go.Proofs.YtapfofnicbhoeaaDoor
