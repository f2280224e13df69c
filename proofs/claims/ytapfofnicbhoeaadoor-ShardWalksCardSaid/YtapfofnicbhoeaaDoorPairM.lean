/- Slices of structs of two ints, as functions of the index and as lists. No program in sight. -/
import Derived.Test.YtapfofnicbhoeaaDoorRowM
namespace Go.Proofs.YtapfofnicbhoeaaDoor
open Go.RowKit

/-- A slice of structs of two ints: n elements, the fields f k and g k. -/
def Row2 (w : World) (A : Option Addr) (n : Nat) (f g : Nat → Int) : Prop :=
  0 < n → ∃ b off, A = some ⟨b, off, none⟩ ∧ b < w.heap.size ∧ ∀ k, k < n → w.cell? ⟨b, off + k * 2, none⟩ = some (.int .i64 (f k)) ∧ w.cell? ⟨b, off + k * 2 + 1, none⟩ = some (.int .i64 (g k))
theorem Row2.below {w w' : World} {A : Option Addr} {n : Nat} {f g : Nat → Int} (h : Row2 w A n f g) (hb : Below w.heap.size w w') : Row2 w' A n f g := fun hn => by
  obtain ⟨b, off, e, hlt, hc⟩ := h hn
  exact ⟨b, off, e, Nat.lt_of_lt_of_le hlt hb.size, fun k hk => ⟨(hb.cell (p := ⟨b, _, none⟩) hlt).trans (hc k hk).1, (hb.cell (p := ⟨b, _, none⟩) hlt).trans (hc k hk).2⟩⟩
/-- Both fields are ints. -/
def IB (n : Nat) (f g : Nat → Int) : Prop := ∀ k, k < n → IIn (f k) ∧ IIn (g k)

/-- The cells of a list of pairs of ints. -/
def flat (l : List (Int × Int)) : List Value := l.flatMap fun p => [.int .i64 p.1, .int .i64 p.2]
theorem flat_append (l m : List (Int × Int)) : flat (l ++ m) = flat l ++ flat m := by simp [flat]
theorem flat_one (p : Int × Int) : flat [p] = [.int .i64 p.1, .int .i64 p.2] := rfl
theorem flat_len (l : List (Int × Int)) : (flat l).length = l.length * 2 := by
  induction l with
  | nil => rfl
  | cons p l ih => simp [flat] at *; omega
theorem flat_at : ∀ (l : List (Int × Int)) (k : Nat), k < l.length → (flat l)[k * 2]? = some (.int .i64 (l.getD k (0, 0)).1) ∧ (flat l)[k * 2 + 1]? = some (.int .i64 (l.getD k (0, 0)).2)
  | p :: l, 0, _ => by simp [flat]
  | p :: l, k + 1, h => by
    have ih := flat_at l k (by simpa using h)
    have e : flat (p :: l) = .int .i64 p.1 :: .int .i64 p.2 :: flat l := by simp [flat]
    rw [e, show (k + 1) * 2 = k * 2 + 1 + 1 from by omega]
    simpa using ih
theorem flat_one_cell (l : List (Int × Int)) : ∀ u ∈ flat l, u.oneCell' = true := by
  intro u hu
  simp [flat] at hu
  obtain ⟨a, b, _, rfl | rfl⟩ := hu <;> rfl
def fsts (l : List (Int × Int)) (k : Nat) : Int := (l.getD k (0, 0)).1
def snds (l : List (Int × Int)) (k : Nat) : Int := (l.getD k (0, 0)).2
theorem own_row2 {w : World} {base : Nat} {e : TypeId} {v : Value} {l : List (Int × Int)} (h : w.ownsRow base e 2 v l.length (flat l)) :
    ∃ A c, v = .slice A l.length c ∧ Row2 w A l.length (fsts l) (snds l) := by
  obtain ⟨_, h2⟩ := h
  rcases h2 with ⟨rfl, h0⟩ | ⟨g, cap, cur, rfl, hg, hh, h3, h4, h5, h6⟩
  · exact ⟨none, 0, by rw [h0], fun hn => by omega⟩
  · refine ⟨some ⟨g, 0, none⟩, cap, rfl, fun _ => ⟨g, 0, rfl, ?_, fun k hk => ?_⟩⟩
    · rcases Nat.lt_or_ge g w.heap.size with h | h
      · exact h
      · rw [Array.getElem?_eq_none h] at hh; cases hh
    · obtain ⟨f1, f2⟩ := flat_at l k hk
      rw [← h6, List.getElem?_take] at f1 f2
      rw [if_pos (by omega)] at f1 f2
      exact ⟨(cell_of_cells hh _).trans (by simpa [fsts] using f1), (cell_of_cells hh _).trans (by simpa [snds] using f2)⟩
theorem news2 {w : World} {g : Nat} {a b : Value} (h0 : w.cell? ⟨g, 0, none⟩ = some a) (h1 : w.cell? ⟨g, 1, none⟩ = some b) (j : Nat) (u : Value) (h : [a, b][j]? = some u) : w.cell? ((⟨g, 0, none⟩ : Addr).add j) = some u := by
  match j with
  | 0 => simp at h; subst h; simpa [Addr.add] using h0
  | 1 => simp at h; subst h; simpa [Addr.add] using h1
  | j + 2 => simp at h
theorem one2 {k l : IntKind} {a b : Int} : ∀ u ∈ [Value.int k a, Value.int l b], u.oneCell' = true := by
  intro u hu; simp at hu; rcases hu with rfl | rfl <;> rfl
theorem own_block_ge2 {w : World} {base : Nat} {e : TypeId} {size n : Nat} {v : Value} {xs : List Value} (h : w.ownsRow base e size v n xs) (k : Nat) (hk : v.ownBlock = some k) : base ≤ k := by
  rcases h.2 with ⟨rfl, _⟩ | ⟨g, cap, cur, rfl, hg, _⟩
  · simp [Value.ownBlock] at hk
  · simp [Value.ownBlock] at hk; omega
theorem below_of_grown2 {B : Nat} {W w' : World} {row : Option Nat} (hg : W.grownBy w' row) (hB : B ≤ W.heap.size) (hr : ∀ k, row = some k → B ≤ k) : Below B W w' := (Below.refl B W).grown hg hB hr
theorem own_below2 {w w' : World} {base : Nat} {e : TypeId} {size n : Nat} {v : Value} {xs : List Value} (h : w.ownsRow base e size v n xs) (hb : Below w.heap.size w w') : w'.ownsRow base e size v n xs := by
  refine ⟨h.1, ?_⟩
  rcases h.2 with h2 | ⟨g, cap, cur, hv, hg, hh, r⟩
  · exact .inl h2
  · have hlt : g < w.heap.size := by
      rcases Nat.lt_or_ge g w.heap.size with h | h
      · exact h
      · rw [Array.getElem?_eq_none h] at hh; cases hh
    exact .inr ⟨g, cap, cur, hv, hg, (hb.block g hlt).trans hh, r⟩
/-- What a function that hands back such a slice leaves: the slice's cells read as the list; all old memory is as it was. -/
def SlRet (l : List (Int × Int)) (w : World) (e : Ending) (w' : World) : Prop :=
  ∃ A c, e = .returned (.slice A l.length c) ∧ Row2 w' A l.length (fsts l) (snds l) ∧ Below w.heap.size w w'
end Go.Proofs.YtapfofnicbhoeaaDoor
