/- Slices of structs whose fields are one cell each: as rows of cells; arguments that are such slices, opened field by field. No program in sight. -/
import Derived.Test.YtodfpfbcjiganaaDoorRowM
import Derived.Deep.Slices
import Derived.Deep.Fields
namespace Go.Proofs.YtodfpfbcjiganaaDoor
set_option linter.unusedSimpArgs false
set_option linter.unusedVariables false
open Go.RowKit Go.Deep

/-- n elements of sz cells each; cell j of element k is C k j. -/
def RowS (w : World) (A : Option Addr) (n sz : Nat) (C : Nat → Nat → Value) : Prop :=
  0 < n → ∃ b off, A = some ⟨b, off, none⟩ ∧ b < w.heap.size ∧ ∀ k j, k < n → j < sz → w.cell? ⟨b, off + (k * sz + j), none⟩ = some (C k j)
theorem RowS.below {w w' : World} {A : Option Addr} {n sz : Nat} {C : Nat → Nat → Value} (h : RowS w A n sz C) (hb : Below w.heap.size w w') : RowS w' A n sz C := fun hn => by
  obtain ⟨b, off, e, hlt, hc⟩ := h hn
  exact ⟨b, off, e, Nat.lt_of_lt_of_le hlt hb.size, fun k j hk hj => (hb.cell (p := ⟨b, _, none⟩) hlt).trans (hc k j hk hj)⟩
theorem RowS.congr {w : World} {A : Option Addr} {n sz : Nat} {C D : Nat → Nat → Value} (h : RowS w A n sz C) (e : ∀ k j, k < n → j < sz → C k j = D k j) : RowS w A n sz D := fun hn => by
  obtain ⟨b, off, e', hlt, hc⟩ := h hn
  exact ⟨b, off, e', hlt, fun k j hk hj => by rw [hc k j hk hj, e k j hk hj]⟩
/-- The element at k, in the walk's own addresses. -/
theorem RowS.at {w : World} {A : Option Addr} {n sz : Nat} {C : Nat → Nat → Value} (h : RowS w A n sz C) {k : Nat} (hk : k < n) : ∃ b off, A = some ⟨b, off, none⟩ ∧ b < w.heap.size ∧ ∀ j, j < sz → w.cell? ⟨b, off + k * sz + j, none⟩ = some (C k j) := by
  obtain ⟨b, off, e, hlt, hc⟩ := h (by omega)
  exact ⟨b, off, e, hlt, fun j hj => by rw [Nat.add_assoc]; exact hc k j hk hj⟩
def strOf : Value → ByteArray | .string s => s | _ => ByteArray.empty
def addrOf : Value → Option Addr | .slice A _ _ => A | _ => none
def lenOf : Value → Nat | .slice _ n _ => n | _ => 0
def capOf : Value → Nat | .slice _ _ c => c | _ => 0
def boolOf : Value → Bool | .bool b => b | _ => false
/-- A row of structs, opened: every cell, and what it reads as. -/
theorem rowS_open {H : Type} {enc : TypeId × Value → H} {P : Program} {w : World} {base : Nat} {spare : Nat → Bool} {held : Bool} {t e : TypeId} {fs : Array Field} {sz fuel : Nat} {A : Option Addr} {n c : Nat} {x : DataW H × List MemPlace}
    (ht : P.underlying t = some (.slice e)) (he : P.underlying e = some (.struct fs)) (hfs : fs.size = sz) (hone : oneCellFields P fs = true) (hC : P.cellsOf e = sz) (hsz : 0 < sz)
    (h : DataW.trod enc P w base spare held fuel t [.slice A n c] = some x) :
    ∃ C : Nat → Nat → Value, RowS w A n sz C ∧ ∀ k j f, k < n → fs[j]? = some f → ∃ fu y, DataW.trod enc P w base spare held fu f.type [C k j] = some y := by
  rcases Deep.open_slice ht h with ⟨h0, _⟩ | ⟨a, len, cap, m, q, D, Pl, hcs, _, hl, hm, hmm, _, hi⟩
  · simp at h0
    obtain ⟨rfl, rfl, rfl⟩ := h0
    exact ⟨fun _ _ => undef, fun h => by omega, fun k j f hk => by omega⟩
  · simp at hcs
    obtain ⟨rfl, rfl, rfl⟩ := hcs
    have key : ∀ i, i < n → ∀ j f, fs[j]? = some f → ∃ v fu y, w.cell? (a.add (i * sz + j)) = some v ∧ DataW.trod enc P w base spare held fu f.type [v] = some y := by
      intro i hin j f hfj
      have hj : j < sz := by
        have := (Array.getElem?_eq_some_iff.1 hfj).1
        omega
      obtain ⟨cs', hc, ht'⟩ := hi i (by rw [hmm]; split <;> omega)
      rw [hC] at hc
      obtain ⟨xs, q', _, _, hlen, hxl, hf⟩ := DataW.trod_struct he ht'
      obtain ⟨_, hcl, hat⟩ := World.cells?_some hc
      obtain ⟨ho, hk1⟩ := Deep.hone_of hone j f hfj
      have h1 := hf j f hfj
      rw [ho, hk1] at h1
      have hone' : (cs'.drop j).take 1 = [cs'[j]'(by omega)] := by
        rw [List.drop_eq_getElem_cons (by omega)]
        rfl
      rw [hone'] at h1
      have hxs : xs[j]? = some (xs[j]'(by omega)) := List.getElem?_eq_getElem (by omega)
      rw [hxs] at h1
      have hv : cs'[j]? = some (cs'[j]'(by omega)) := List.getElem?_eq_getElem (by omega)
      have hcell := hat j hj
      rw [hv, Deep.add_add] at hcell
      exact ⟨_, _, _, hcell, h1⟩
    obtain ⟨b, off, spot⟩ := a
    refine ⟨fun k j => (w.cell? (Addr.add ⟨b, off, spot⟩ (k * sz + j))).getD undef, fun hn => ?_, fun k j f hk hf => ?_⟩
    · have f0 : fs[0]? = some (fs[0]'(by omega)) := Array.getElem?_eq_getElem (by omega)
      obtain ⟨v, fu, y, hv, _⟩ := key 0 hn 0 _ f0
      have hs : spot = none := by simpa [Addr.add] using World.cell?_spot hv
      subst hs
      have hadd : ∀ k, Addr.add ⟨b, off, none⟩ k = ⟨b, off + k, none⟩ := fun k => by
        cases k <;> simp [Addr.add]
      rw [hadd] at hv
      refine ⟨b, off, rfl, World.block_lt_of_cell? _ _ hv, fun k j hk hj => ?_⟩
      obtain ⟨v', _, _, hv', _⟩ := key k hk j _ (Array.getElem?_eq_getElem (by omega))
      rw [hadd] at hv'
      simp only [hadd, hv', Option.getD_some]
    · obtain ⟨v', fu, y, hv', ht'⟩ := key k hk j f hf
      simp only [hv', Option.getD_some]
      exact ⟨fu, y, ht'⟩
section
variable {H : Type} {enc : TypeId × Value → H} {P : Program} {w : World} {base : Nat} {spare : Nat → Bool} {held : Bool} {t : TypeId} {v : Value}
/-- A cell that reads as an int. -/
theorem cell_int (ht : P.underlying t = some (.int .i64)) (h : ∃ fu y, DataW.trod enc P w base spare held fu t [v] = some y) : v = .int .i64 (intOf v) ∧ IIn (intOf v) := by
  obtain ⟨fu, y, h⟩ := h
  obtain ⟨n, hn, _, hw⟩ := DataW.trod_int ht h
  simp only [List.cons.injEq, and_true] at hn
  subst hn
  simp [Lit.wf] at hw
  exact ⟨rfl, hw⟩
theorem cell_str (ht : P.underlying t = some .string) (h : ∃ fu y, DataW.trod enc P w base spare held fu t [v] = some y) : v = .string (strOf v) ∧ (strOf v).size ≤ maxLen := by
  obtain ⟨fu, y, h⟩ := h
  obtain ⟨s, hs, _, hm⟩ := DataW.trod_string ht h
  simp only [List.cons.injEq, and_true] at hs
  subst hs
  exact ⟨rfl, hm⟩
theorem cell_bool (ht : P.underlying t = some .bool) (h : ∃ fu y, DataW.trod enc P w base spare held fu t [v] = some y) : v = .bool (boolOf v) := by
  obtain ⟨fu, y, h⟩ := h
  obtain ⟨b, hb, _⟩ := DataW.trod_bool ht h
  simp only [List.cons.injEq, and_true] at hb
  subst hb
  rfl
end
end Go.Proofs.YtodfpfbcjiganaaDoor
