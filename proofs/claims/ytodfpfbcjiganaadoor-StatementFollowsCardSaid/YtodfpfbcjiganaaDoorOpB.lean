/- Arguments by value that are structs of many cells: opened field by field. No program in sight. -/
import Derived.Test.YtodfpfbcjiganaaDoorBkO
namespace Go.Proofs.YtodfpfbcjiganaaDoor
set_option linter.unusedSimpArgs false
set_option linter.unusedVariables false
open Go.RowKit Go.Deep Go.WideShapes

/-- Field j of the struct t is one cell at offset o, of the kind k. -/
def fieldAtB (P : Program) (t : TypeId) (j o : Nat) (k : FK) : Bool := match P.underlying t with
  | some (.struct fs) => match fs[j]? with
    | some f => f.offset == o && P.cellsOf f.type == 1 && fkB P k f.type
    | none => false
  | _ => false
theorem fieldAtB_of {P : Program} {t : TypeId} {fs : Array Field} {j o : Nat} {k : FK} (he : P.underlying t = some (.struct fs)) (h : fieldAtB P t j o k = true) : ∃ f, fs[j]? = some f ∧ f.offset = o ∧ P.cellsOf f.type = 1 ∧ fkB P k f.type = true := by
  unfold fieldAtB at h
  rw [he] at h
  simp only at h
  cases hf : fs[j]? with
  | none => rw [hf] at h; cases h
  | some f =>
    rw [hf] at h
    simp only [Bool.and_eq_true, beq_iff_eq] at h
    exact ⟨f, rfl, h.1.1, h.1.2, h.2⟩
def structB (P : Program) (t : TypeId) : Bool := match P.underlying t with | some (.struct _) => true | _ => false
theorem structB_of {P : Program} {t : TypeId} (h : structB P t = true) : ∃ fs, P.underlying t = some (.struct fs) := by
  unfold structB at h
  split at h
  · exact ⟨_, by assumption⟩
  · cases h
section
variable {H : Type} {enc : TypeId × Value → H} {P : Program} {w : World} {base : Nat} {spare : Nat → Bool} {held : Bool}
theorem agg_open {r : Reach} {b0 : Nat} {t : TypeId} {v : Value} {d : DataW H} {p : List MemPlace} (hs : structB P t = true) (hv : Value.okWide P w r b0 t v) (h : DataW.Trod enc P w base spare held t v d p) :
    ∃ C : Array Value, v = .agg C ∧ C.size = P.cellsOf t ∧ ∀ (j o : Nat) (k : FK), fieldAtB P t j o k = true → o < C.size → ∃ ty, fkB P k ty = true ∧ ∃ fu y, DataW.trod enc P w base spare held fu ty [C.getD o undef] = some y := by
  obtain ⟨fs, he⟩ := structB_of hs
  obtain ⟨C, rfl, hsz⟩ := okWide_struct he hv
  obtain ⟨fuel, hf⟩ := h
  obtain ⟨xs, n, _, _, hlen, hxl, hi⟩ := DataW.trod_struct he hf
  refine ⟨C, rfl, hsz, fun j o k hk ho => ?_⟩
  obtain ⟨f, hfj, rfl, h1, hkk⟩ := fieldAtB_of he hk
  have hj : j < fs.size := (Array.getElem?_eq_some_iff.1 hfj).1
  have g := hi j f hfj
  rw [h1] at g
  have hone : ((Value.agg C).cells.toList.drop f.offset).take 1 = [C.getD f.offset undef] := by
    show (C.toList.drop f.offset).take 1 = _
    rw [List.drop_eq_getElem_cons (by simpa using ho)]
    simp [Array.getD, ho]
  rw [hone] at g
  exact ⟨f.type, hkk, n, _, g.trans (List.getElem?_eq_getElem (by omega))⟩
end
theorem getD_cell {C : Array Value} {o : Nat} {v : Value} (ho : o < C.size) (h : C.getD o undef = v) : C[o]? = some v := by
  rw [Array.getElem?_eq_getElem ho]
  simpa [Array.getD, ho] using h
theorem array7 {α : Type} {cs : Array α} (h : cs.size = 7) : ∃ c0 c1 c2 c3 c4 c5 c6, cs = #[c0, c1, c2, c3, c4, c5, c6] := by
  obtain ⟨l⟩ := cs
  match l, h with
  | [c0, c1, c2, c3, c4, c5, c6], _ => exact ⟨c0, c1, c2, c3, c4, c5, c6, rfl⟩
theorem array10 {α : Type} {cs : Array α} (h : cs.size = 10) : ∃ c0 c1 c2 c3 c4 c5 c6 c7 c8 c9, cs = #[c0, c1, c2, c3, c4, c5, c6, c7, c8, c9] := by
  obtain ⟨l⟩ := cs
  match l, h with
  | [c0, c1, c2, c3, c4, c5, c6, c7, c8, c9], _ => exact ⟨c0, c1, c2, c3, c4, c5, c6, c7, c8, c9, rfl⟩
section
variable {H : Type} {enc : TypeId × Value → H} {P : Program} {w : World} {base : Nat} {spare : Nat → Bool} {held : Bool}
/-- A cell that reads as a slice. -/
theorem cell_slice {t e : TypeId} {v : Value} (ht : P.underlying t = some (.slice e)) (h : ∃ fu y, DataW.trod enc P w base spare held fu t [v] = some y) :
    ∃ A n c, v = .slice A n c ∧ n ≤ c ∧ c ≤ maxLen ∧ ∃ fu y, DataW.trod enc P w base spare held fu t [.slice A n c] = some y := by
  obtain ⟨fu, y, h⟩ := h
  have h' := h
  rcases Deep.open_slice ht h' with ⟨h0, _⟩ | ⟨a, len, cap, m, q, D, Pl, hcs, _, hl, hm, _⟩
  · simp only [List.cons.injEq, and_true] at h0
    subst h0
    exact ⟨none, 0, 0, rfl, Nat.le_refl _, Nat.zero_le _, fu, y, h⟩
  · simp only [List.cons.injEq, and_true] at hcs
    subst hcs
    exact ⟨some a, len, cap, rfl, hl, hm, fu, y, h⟩
def posK : List FK := [.i, .i, .i, .s]
def PosIn (a : LPos) : Prop := IIn a.en ∧ IIn a.dy ∧ IIn a.am ∧ a.tx.size ≤ maxLen
def posOf (C : Nat → Value) : LPos := ⟨intOf (C 0), intOf (C 1), intOf (C 2), strOf (C 3)⟩
theorem pos_open {t e : TypeId} {fs : Array Field} {fuel : Nat} {A : Option Addr} {n c : Nat} {x : DataW H × List MemPlace}
    (ht : P.underlying t = some (.slice e)) (he : P.underlying e = some (.struct fs)) (hk : fieldsB P fs posK = true) (hone : oneCellFields P fs = true) (hC : P.cellsOf e = 4)
    (h : DataW.trod enc P w base spare held fuel t [.slice A n c] = some x) : ∃ a : Nat → LPos, RowPos w A n a ∧ ∀ k, k < n → PosIn (a k) := by
  obtain ⟨C, hr, hd⟩ := rowS_open ht he (fieldsB_size hk) hone hC (by decide) h
  have key : ∀ k, k < n → (∀ j, j < 4 → C k j = posC (posOf (C k)) j) ∧ PosIn (posOf (C k)) := by
    intro k hk2
    obtain ⟨f0, g0, k0⟩ := fieldsB_at hk (j := 0) (k := .i) rfl
    obtain ⟨f1, g1, k1⟩ := fieldsB_at hk (j := 1) (k := .i) rfl
    obtain ⟨f2, g2, k2⟩ := fieldsB_at hk (j := 2) (k := .i) rfl
    obtain ⟨f3, g3, k3⟩ := fieldsB_at hk (j := 3) (k := .s) rfl
    obtain ⟨e0, b0⟩ := cell_int (fkB_i k0) (hd k 0 _ hk2 g0)
    obtain ⟨e1, b1⟩ := cell_int (fkB_i k1) (hd k 1 _ hk2 g1)
    obtain ⟨e2, b2⟩ := cell_int (fkB_i k2) (hd k 2 _ hk2 g2)
    obtain ⟨e3, b3⟩ := cell_str (fkB_s k3) (hd k 3 _ hk2 g3)
    refine ⟨fun j hj => ?_, b0, b1, b2, b3⟩
    match j, hj with
    | 0, _ => exact e0
    | 1, _ => exact e1
    | 2, _ => exact e2
    | 3, _ => exact e3
  exact ⟨fun k => posOf (C k), hr.congr fun k j hk2 hj => (key k hk2).1 j hj, fun k hk2 => (key k hk2).2⟩
end
/-- A cell of an argument is one cell. -/
theorem cellOk_one {P : Program} {w : World} {r : Reach} {base : Nat} {t : TypeId} {v : Value} (h : Cell.okWide P w r base t v) : v.oneCell' = true := by
  cases v with
  | agg cs => exfalso; revert h; unfold Cell.okWide; split <;> simp_all [Cell.ok]
  | tuple cs => exfalso; revert h; unfold Cell.okWide; split <;> simp_all [Cell.ok]
  | _ => rfl
theorem agg_one {P : Program} {w : World} {r : Reach} {b0 : Nat} {t : TypeId} {C : Array Value} (hs : structB P t = true) (hv : Value.okWide P w r b0 t (.agg C)) : C.all (·.oneCell') = true := by
  obtain ⟨fs, he⟩ := structB_of hs
  simp only [Value.okWide, he] at hv
  obtain ⟨cs, h1, _, ts, _, _, h2⟩ := hv
  injection h1 with h1
  subst h1
  rw [Array.all_eq_true]
  intro i hi
  obtain ⟨u, _, hu⟩ := h2 i _ (Array.getElem?_eq_getElem hi)
  exact cellOk_one hu
end Go.Proofs.YtodfpfbcjiganaaDoor
