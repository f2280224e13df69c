/- Arguments that are books: accounts and journal, opened. No program in sight. -/
import Derived.Test.YtodfpfbcjiganaaDoorBkM
import Derived.Lib.SmallJoins
namespace Go.Proofs.YtodfpfbcjiganaaDoor
set_option linter.unusedSimpArgs false
set_option linter.unusedVariables false
open Go.RowKit Go.Deep Go.WideShapes

/-- The kinds of fields. -/
inductive FK where
  | i | s | b | u | sl (e : TypeId)
def fkB (P : Program) (k : FK) (t : TypeId) : Bool := match k, P.underlying t with
  | .i, some (.int .i64) => true
  | .u, some (.int .u64) => true
  | .s, some .string => true
  | .b, some .bool => true
  | .sl e, some (.slice e') => e == e'
  | _, _ => false
def fieldsB (P : Program) (fs : Array Field) (ks : List FK) : Bool := fs.size == ks.length && (List.range ks.length).all fun j => match fs[j]?, ks[j]? with
  | some f, some k => fkB P k f.type
  | _, _ => false
theorem fkB_i {P : Program} {t : TypeId} (h : fkB P .i t = true) : P.underlying t = some (.int .i64) := by unfold fkB at h; split at h <;> simp_all
theorem fkB_u {P : Program} {t : TypeId} (h : fkB P .u t = true) : P.underlying t = some (.int .u64) := by unfold fkB at h; split at h <;> simp_all
theorem fkB_s {P : Program} {t : TypeId} (h : fkB P .s t = true) : P.underlying t = some .string := by unfold fkB at h; split at h <;> simp_all
theorem fkB_b {P : Program} {t : TypeId} (h : fkB P .b t = true) : P.underlying t = some .bool := by unfold fkB at h; split at h <;> simp_all
theorem fkB_sl {P : Program} {t e : TypeId} (h : fkB P (.sl e) t = true) : P.underlying t = some (.slice e) := by unfold fkB at h; split at h <;> simp_all
theorem fieldsB_at {P : Program} {fs : Array Field} {ks : List FK} (h : fieldsB P fs ks = true) {j : Nat} {k : FK} (hk : ks[j]? = some k) : ∃ f, fs[j]? = some f ∧ fkB P k f.type = true := by
  unfold fieldsB at h
  rw [Bool.and_eq_true, List.all_eq_true] at h
  have hj : j < ks.length := (List.getElem?_eq_some_iff.1 hk).1
  have := h.2 j (List.mem_range.2 hj)
  rw [hk] at this
  cases hf : fs[j]? with
  | none => rw [hf] at this; simp at this
  | some f => rw [hf] at this; exact ⟨f, rfl, this⟩
theorem fieldsB_size {P : Program} {fs : Array Field} {ks : List FK} (h : fieldsB P fs ks = true) : fs.size = ks.length := by
  unfold fieldsB at h
  rw [Bool.and_eq_true] at h
  simpa using h.1
def accK : List FK := [.i, .i, .i, .i, .s, .s, .s]
def legK : List FK := [.i, .i, .s]
def entK (eL : TypeId) : List FK := [.i, .i, .i, .i, .i, .i, .s, .s, .sl eL, .u]
/-- The bounds of an account, a leg, an entry that is data. -/
def AccIn (a : LAcc) : Prop := IIn a.id ∧ IIn a.op ∧ IIn a.cl ∧ IIn a.ex ∧ a.ow.size ≤ maxLen ∧ a.pr.size ≤ maxLen ∧ a.nu.size ≤ maxLen
def LegIn (a : LLeg) : Prop := IIn a.ac ∧ IIn a.am ∧ a.cu.size ≤ maxLen
def EntIn (e : LEnt) : Prop := IIn e.id ∧ IIn e.bk ∧ IIn e.va ∧ IIn e.ki ∧ IIn e.au ∧ IIn e.pe ∧ e.key.size ≤ maxLen ∧ e.tx.size ≤ maxLen ∧ (0 ≤ e.ch ∧ e.ch < 18446744073709551616) ∧ ∀ i, i < e.ln → LegIn (e.legs i)
section
variable {H : Type} {enc : TypeId × Value → H} {P : Program} {w : World} {base : Nat} {spare : Nat → Bool} {held : Bool}
theorem cell_u64 {t : TypeId} {v : Value} (ht : P.underlying t = some (.int .u64)) (h : ∃ fu y, DataW.trod enc P w base spare held fu t [v] = some y) : v = .int .u64 (intOf v) ∧ 0 ≤ intOf v ∧ intOf v < 18446744073709551616 := by
  obtain ⟨fu, y, h⟩ := h
  obtain ⟨n, hn, _, hw⟩ := DataW.trod_int ht h
  simp only [List.cons.injEq, and_true] at hn
  subst hn
  simp [Lit.wf, IntKind.min, IntKind.max, IntKind.signed, IntKind.bits] at hw
  exact ⟨rfl, hw.1, by show n < 18446744073709551616; omega⟩
theorem acc_open {t e : TypeId} {fs : Array Field} {fuel : Nat} {A : Option Addr} {n c : Nat} {x : DataW H × List MemPlace}
    (ht : P.underlying t = some (.slice e)) (he : P.underlying e = some (.struct fs)) (hk : fieldsB P fs accK = true) (hone : oneCellFields P fs = true) (hC : P.cellsOf e = 7)
    (h : DataW.trod enc P w base spare held fuel t [.slice A n c] = some x) : ∃ a : Nat → LAcc, RowAcc w A n a ∧ ∀ k, k < n → AccIn (a k) := by
  obtain ⟨C, hr, hd⟩ := rowS_open ht he (fieldsB_size hk) hone hC (by decide) h
  have key : ∀ k, k < n → (∀ j, j < 7 → C k j = accC (accOf (C k)) j) ∧ AccIn (accOf (C k)) := by
    intro k hk2
    obtain ⟨f0, g0, k0⟩ := fieldsB_at hk (j := 0) (k := .i) rfl
    obtain ⟨f1, g1, k1⟩ := fieldsB_at hk (j := 1) (k := .i) rfl
    obtain ⟨f2, g2, k2⟩ := fieldsB_at hk (j := 2) (k := .i) rfl
    obtain ⟨f3, g3, k3⟩ := fieldsB_at hk (j := 3) (k := .i) rfl
    obtain ⟨f4, g4, k4⟩ := fieldsB_at hk (j := 4) (k := .s) rfl
    obtain ⟨f5, g5, k5⟩ := fieldsB_at hk (j := 5) (k := .s) rfl
    obtain ⟨f6, g6, k6⟩ := fieldsB_at hk (j := 6) (k := .s) rfl
    obtain ⟨e0, b0⟩ := cell_int (fkB_i k0) (hd k 0 _ hk2 g0)
    obtain ⟨e1, b1⟩ := cell_int (fkB_i k1) (hd k 1 _ hk2 g1)
    obtain ⟨e2, b2⟩ := cell_int (fkB_i k2) (hd k 2 _ hk2 g2)
    obtain ⟨e3, b3⟩ := cell_int (fkB_i k3) (hd k 3 _ hk2 g3)
    obtain ⟨e4, b4⟩ := cell_str (fkB_s k4) (hd k 4 _ hk2 g4)
    obtain ⟨e5, b5⟩ := cell_str (fkB_s k5) (hd k 5 _ hk2 g5)
    obtain ⟨e6, b6⟩ := cell_str (fkB_s k6) (hd k 6 _ hk2 g6)
    refine ⟨fun j hj => ?_, b0, b1, b2, b3, b4, b5, b6⟩
    match j, hj with
    | 0, _ => exact e0
    | 1, _ => exact e1
    | 2, _ => exact e2
    | 3, _ => exact e3
    | 4, _ => exact e4
    | 5, _ => exact e5
    | 6, _ => exact e6
  exact ⟨fun k => accOf (C k), hr.congr fun k j hk2 hj => (key k hk2).1 j hj, fun k hk2 => (key k hk2).2⟩
theorem leg_open {t e : TypeId} {fs : Array Field} {fuel : Nat} {A : Option Addr} {n c : Nat} {x : DataW H × List MemPlace}
    (ht : P.underlying t = some (.slice e)) (he : P.underlying e = some (.struct fs)) (hk : fieldsB P fs legK = true) (hone : oneCellFields P fs = true) (hC : P.cellsOf e = 3)
    (h : DataW.trod enc P w base spare held fuel t [.slice A n c] = some x) : ∃ a : Nat → LLeg, RowLeg w A n a ∧ ∀ k, k < n → LegIn (a k) := by
  obtain ⟨C, hr, hd⟩ := rowS_open ht he (fieldsB_size hk) hone hC (by decide) h
  have key : ∀ k, k < n → (∀ j, j < 3 → C k j = legC (legOf (C k)) j) ∧ LegIn (legOf (C k)) := by
    intro k hk2
    obtain ⟨f0, g0, k0⟩ := fieldsB_at hk (j := 0) (k := .i) rfl
    obtain ⟨f1, g1, k1⟩ := fieldsB_at hk (j := 1) (k := .i) rfl
    obtain ⟨f2, g2, k2⟩ := fieldsB_at hk (j := 2) (k := .s) rfl
    obtain ⟨e0, b0⟩ := cell_int (fkB_i k0) (hd k 0 _ hk2 g0)
    obtain ⟨e1, b1⟩ := cell_int (fkB_i k1) (hd k 1 _ hk2 g1)
    obtain ⟨e2, b2⟩ := cell_str (fkB_s k2) (hd k 2 _ hk2 g2)
    refine ⟨fun j hj => ?_, b0, b1, b2⟩
    match j, hj with
    | 0, _ => exact e0
    | 1, _ => exact e1
    | 2, _ => exact e2
  exact ⟨fun k => legOf (C k), hr.congr fun k j hk2 hj => (key k hk2).1 j hj, fun k hk2 => (key k hk2).2⟩
theorem ent_open {t e eT eL : TypeId} {fs fL : Array Field} {fuel : Nat} {A : Option Addr} {n c : Nat} {x : DataW H × List MemPlace}
    (ht : P.underlying t = some (.slice e)) (he : P.underlying e = some (.struct fs)) (hk : fieldsB P fs (entK eT) = true) (hone : oneCellFields P fs = true) (hC : P.cellsOf e = 10)
    (hL : P.underlying eT = some (.struct fL)) (hkL : fieldsB P fL legK = true) (honeL : oneCellFields P fL = true) (hCL : P.cellsOf eT = 3) (_heq : eL = eT)
    (h : DataW.trod enc P w base spare held fuel t [.slice A n c] = some x) : ∃ a : Nat → LEnt, RowEnt w A n a ∧ ∀ k, k < n → EntIn (a k) := by
  obtain ⟨C, hr, hd⟩ := rowS_open ht he (show fs.size = 10 from fieldsB_size hk) hone hC (by decide) h
  have key : ∀ k, ∃ E : LEnt, k < n → (∀ j, j < 10 → C k j = entC E j) ∧ RowLeg w E.lA E.ln E.legs ∧ EntIn E := by
    intro k
    by_cases hk2 : k < n
    · obtain ⟨f0, g0, k0⟩ := fieldsB_at hk (j := 0) (k := .i) rfl
      obtain ⟨f1, g1, k1⟩ := fieldsB_at hk (j := 1) (k := .i) rfl
      obtain ⟨f2, g2, k2⟩ := fieldsB_at hk (j := 2) (k := .i) rfl
      obtain ⟨f3, g3, k3⟩ := fieldsB_at hk (j := 3) (k := .i) rfl
      obtain ⟨f4, g4, k4⟩ := fieldsB_at hk (j := 4) (k := .i) rfl
      obtain ⟨f5, g5, k5⟩ := fieldsB_at hk (j := 5) (k := .i) rfl
      obtain ⟨f6, g6, k6⟩ := fieldsB_at hk (j := 6) (k := .s) rfl
      obtain ⟨f7, g7, k7⟩ := fieldsB_at hk (j := 7) (k := .s) rfl
      obtain ⟨f8, g8, k8⟩ := fieldsB_at hk (j := 8) (k := .sl eT) rfl
      obtain ⟨f9, g9, k9⟩ := fieldsB_at hk (j := 9) (k := .u) rfl
      obtain ⟨e0, b0⟩ := cell_int (fkB_i k0) (hd k 0 _ hk2 g0)
      obtain ⟨e1, b1⟩ := cell_int (fkB_i k1) (hd k 1 _ hk2 g1)
      obtain ⟨e2, b2⟩ := cell_int (fkB_i k2) (hd k 2 _ hk2 g2)
      obtain ⟨e3, b3⟩ := cell_int (fkB_i k3) (hd k 3 _ hk2 g3)
      obtain ⟨e4, b4⟩ := cell_int (fkB_i k4) (hd k 4 _ hk2 g4)
      obtain ⟨e5, b5⟩ := cell_int (fkB_i k5) (hd k 5 _ hk2 g5)
      obtain ⟨e6, b6⟩ := cell_str (fkB_s k6) (hd k 6 _ hk2 g6)
      obtain ⟨e7, b7⟩ := cell_str (fkB_s k7) (hd k 7 _ hk2 g7)
      obtain ⟨e9, b9⟩ := cell_u64 (fkB_u k9) (hd k 9 _ hk2 g9)
      obtain ⟨fu, y, h8⟩ := hd k 8 _ hk2 g8
      obtain ⟨lA, ln, lc, hs⟩ := Joins.slice_form (fkB_sl k8) h8
      simp only [List.cons.injEq, and_true] at hs
      rw [hs] at h8
      obtain ⟨legs, hl1, hl2⟩ := leg_open (fkB_sl k8) hL hkL honeL hCL h8
      refine ⟨⟨intOf (C k 0), intOf (C k 1), intOf (C k 2), intOf (C k 3), intOf (C k 4), intOf (C k 5), strOf (C k 6), strOf (C k 7), lA, ln, lc, intOf (C k 9), legs⟩, fun _ => ⟨fun j hj => ?_, hl1, b0, b1, b2, b3, b4, b5, b6, b7, b9, hl2⟩⟩
      match j, hj with
      | 0, _ => exact e0
      | 1, _ => exact e1
      | 2, _ => exact e2
      | 3, _ => exact e3
      | 4, _ => exact e4
      | 5, _ => exact e5
      | 6, _ => exact e6
      | 7, _ => exact e7
      | 8, _ => exact hs
      | 9, _ => exact e9
    · exact ⟨⟨0, 0, 0, 0, 0, 0, ByteArray.empty, ByteArray.empty, none, 0, 0, 0, fun _ => ⟨0, 0, ByteArray.empty⟩⟩, fun h => absurd h hk2⟩
  obtain ⟨E, hE⟩ : ∃ E : Nat → LEnt, ∀ k, k < n → (∀ j, j < 10 → C k j = entC (E k) j) ∧ RowLeg w (E k).lA (E k).ln (E k).legs ∧ EntIn (E k) := ⟨fun k => (key k).choose, fun k => (key k).choose_spec⟩
  exact ⟨E, ⟨hr.congr fun k j hk2 hj => (hE k hk2).1 j hj, fun k hk2 => (hE k hk2).2.1⟩, fun k hk2 => (hE k hk2).2.2⟩
end
end Go.Proofs.YtodfpfbcjiganaaDoor
