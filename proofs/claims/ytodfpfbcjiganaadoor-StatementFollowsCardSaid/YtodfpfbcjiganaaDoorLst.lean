/- Owned rows of records, as rows of cells; entries and postings as lists. No program in sight. -/
import Derived.Test.YtodfpfbcjiganaaDoorBkM
namespace Go.Proofs.YtodfpfbcjiganaaDoor
set_option linter.unusedSimpArgs false
set_option linter.unusedVariables false
open Go.RowKit

theorem flatC_len {α : Type} {sz : Nat} {f : α → List Value} (hsz : ∀ a, (f a).length = sz) : ∀ l : List α, (l.flatMap f).length = l.length * sz
  | [] => by simp
  | a :: l => by rw [List.flatMap_cons, List.length_append, hsz, flatC_len hsz l, List.length_cons, Nat.add_mul]; omega
theorem flatC_at {α : Type} {sz : Nat} {f : α → List Value} (hsz : ∀ a, (f a).length = sz) : ∀ (l : List α) (k j : Nat) (hk : k < l.length), j < sz → (l.flatMap f)[k * sz + j]? = (f l[k])[j]?
  | a :: l, 0, j, _, hj => by rw [List.flatMap_cons, List.getElem?_append_left (by rw [hsz]; omega)]; simp
  | a :: l, k + 1, j, hk, hj => by
    have hk' : k < l.length := by simpa using hk
    have ih := flatC_at hsz l k j hk' hj
    rw [List.flatMap_cons, List.getElem?_append_right (by rw [hsz, Nat.add_mul]; omega), hsz, show (k + 1) * sz + j - sz = k * sz + j by rw [Nat.add_mul]; omega, ih]
    simp
/-- An owned row of records is a row of cells. -/
theorem own_rowS {α : Type} {w : World} {base : Nat} {e : TypeId} {v : Value} {l : List α} {sz : Nat} {f : α → List Value} (hsz : ∀ a, (f a).length = sz) (C : Nat → Nat → Value)
    (hC : ∀ k (hk : k < l.length) j, j < sz → (f l[k])[j]? = some (C k j)) (h : w.ownsRow base e sz v l.length (l.flatMap f)) : ∃ A c, v = .slice A l.length c ∧ RowS w A l.length sz C := by
  obtain ⟨_, h2⟩ := h
  rcases h2 with ⟨rfl, h0⟩ | ⟨g, cap, cur, rfl, hg, hh, h3, h4, h5, h6⟩
  · exact ⟨none, 0, by rw [h0], fun hn => by omega⟩
  · refine ⟨some ⟨g, 0, none⟩, cap, rfl, fun _ => ⟨g, 0, rfl, heap_lt hh, fun k j hk hj => ?_⟩⟩
    have f1 := (flatC_at hsz l k j hk hj).trans (hC k hk j hj)
    rw [← h6, List.getElem?_take] at f1
    split at f1
    · exact (cell_of_cells hh _).trans (by simpa using f1)
    · cases f1
theorem news_cells {w : World} {g : Nat} {cs : Array Value} {e : TypeId} (h : w.heap[g]? = some (.cells cs e (0, 0))) (j : Nat) (u : Value) (hu : cs.toList[j]? = some u) : w.cell? ((⟨g, 0, none⟩ : Addr).add j) = some u := by
  have h2 : w.cell? ⟨g, j, none⟩ = some u := by rw [cell_of_cells h j]; simpa using hu
  have e : ((⟨g, 0, none⟩ : Addr).add j) = ⟨g, j, none⟩ := by simp [Addr.add]; intro hj; exact hj.symm
  rw [e]; exact h2
theorem ones_all {l : List Value} (h : l.all (·.oneCell') = true) : ∀ u ∈ l, u.oneCell' = true := List.all_eq_true.1 h
/-! ### Entries -/
def entL (e : LEnt) : List Value := [.int .i64 e.id, .int .i64 e.bk, .int .i64 e.va, .int .i64 e.ki, .int .i64 e.au, .int .i64 e.pe, .string e.key, .string e.tx, .slice e.lA e.ln e.lc, .int .u64 e.ch]
theorem entL_len (e : LEnt) : (entL e).length = 10 := rfl
def zEnt : LEnt := ⟨0, 0, 0, 0, 0, 0, ByteArray.empty, ByteArray.empty, none, 0, 0, 0, fun _ => ⟨0, 0, ByteArray.empty⟩⟩
def atE (l : List LEnt) (k : Nat) : LEnt := l.getD k zEnt
theorem atE_at {l : List LEnt} {k : Nat} (h : k < l.length) : atE l k = l[k] := by simp [atE, List.getD, h]
theorem atE_left {l m : List LEnt} {k : Nat} (h : k < l.length) : atE (l ++ m) k = atE l k := by rw [atE_at h, atE_at (by simp; omega), List.getElem_append_left h]
theorem atE_last (l : List LEnt) (e : LEnt) : atE (l ++ [e]) l.length = e := by rw [atE_at (by simp)]; simp
theorem entL_at (e : LEnt) (j : Nat) (h : j < 10) : (entL e)[j]? = some (entC e j) := by
  match j with
  | 0 | 1 | 2 | 3 | 4 | 5 | 6 | 7 | 8 | 9 => rfl
  | j + 10 => omega
theorem own_rowEnt {w : World} {base : Nat} {e : TypeId} {v : Value} {l : List LEnt} (h : w.ownsRow base e 10 v l.length (l.flatMap entL)) (hl : ∀ k, k < l.length → RowLeg w (atE l k).lA (atE l k).ln (atE l k).legs) :
    ∃ A c, v = .slice A l.length c ∧ RowEnt w A l.length (atE l) := by
  obtain ⟨A, c, hv, hr⟩ := own_rowS entL_len (fun k => entC (atE l k)) (fun k hk j hj => by rw [entL_at _ _ hj, atE_at hk]) h
  exact ⟨A, c, hv, hr, hl⟩
theorem sumE_congr {E F : Nat → LEnt} (id : Int) (p : LEnt → Bool) : ∀ n, (∀ k, k < n → E k = F k) → sumE E id p n = sumE F id p n
  | 0, _ => rfl
  | n + 1, h => by
    have ih := sumE_congr id p n (fun k hk => h k (by omega))
    unfold sumE
    rw [ih, h n (by omega)]
theorem sumE_snoc (l : List LEnt) (e : LEnt) (id : Int) : sumE (atE (l ++ [e])) id (fun _ => true) (l ++ [e]).length = wrap64 (sumE (atE l) id (fun _ => true) l.length + mvE e id) := by
  rw [List.length_append, List.length_singleton]
  show wrap64 (sumE (atE (l ++ [e])) id (fun _ => true) l.length + mvE (atE (l ++ [e]) l.length) id) = _
  rw [atE_last, sumE_congr (E := atE (l ++ [e])) (F := atE l) id _ l.length (fun k hk => atE_left hk)]
/-! ### Postings -/
def posL (p : LPos) : List Value := [.int .i64 p.en, .int .i64 p.dy, .int .i64 p.am, .string p.tx]
theorem posL_len (p : LPos) : (posL p).length = 4 := rfl
def zPos : LPos := ⟨0, 0, 0, ByteArray.empty⟩
def atP (l : List LPos) (k : Nat) : LPos := l.getD k zPos
theorem atP_at {l : List LPos} {k : Nat} (h : k < l.length) : atP l k = l[k] := by simp [atP, List.getD, h]
theorem posL_at (e : LPos) (j : Nat) (h : j < 4) : (posL e)[j]? = some (posC e j) := by
  match j with
  | 0 | 1 | 2 | 3 => rfl
  | j + 4 => omega
theorem own_rowPos {w : World} {base : Nat} {e : TypeId} {v : Value} {l : List LPos} (h : w.ownsRow base e 4 v l.length (l.flatMap posL)) :
    ∃ A c, v = .slice A l.length c ∧ RowPos w A l.length (atP l) :=
  own_rowS posL_len (fun k => posC (atP l k)) (fun k hk j hj => by rw [posL_at _ _ hj, atP_at hk]) h
end Go.Proofs.YtodfpfbcjiganaaDoor
