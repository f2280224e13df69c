/- Texts laid together: AdO. -/
import Derived.Test.YtfolccncegejjaaQAdH
namespace Go.Proofs.Ytfolccncegejjaa
set_option maxRecDepth 4000
set_option linter.unusedSimpArgs false
set_option linter.unusedVariables false
open Go.RowKit
/-- The plain sum of what entries move. -/
def sumZ (E : Nat → LEnt) (id : Int) (p : LEnt → Bool) : Nat → Int
  | 0 => 0
  | k + 1 => sumZ E id p k + (if p (E k) then mvE (E k) id else 0)
theorem wrap_add (x y : Int) : wrap64 (wrap64 x + y) = wrap64 (x + y) := by unfold wrap64; omega
theorem sumE_wrap (E : Nat → LEnt) (id : Int) (p : LEnt → Bool) : ∀ n, sumE E id p n = wrap64 (sumZ E id p n)
  | 0 => by show (0 : Int) = wrap64 0; decide +kernel
  | n + 1 => by
    have ih := sumE_wrap E id p n
    unfold sumE sumZ
    split
    · rw [ih, wrap_add]
    · rw [ih, Int.add_zero]
theorem sumZ_congr {E F : Nat → LEnt} (id : Int) (p : LEnt → Bool) : ∀ n, (∀ k, k < n → E k = F k) → sumZ E id p n = sumZ F id p n
  | 0, _ => rfl
  | n + 1, h => by
    have ih := sumZ_congr id p n (fun k hk => h k (by omega))
    unfold sumZ
    rw [ih, h n (by omega)]
theorem sumZ_snoc (l : List LEnt) (e : LEnt) (id : Int) (p : LEnt → Bool) : sumZ (atE (l ++ [e])) id p (l ++ [e]).length = sumZ (atE l) id p l.length + (if p e then mvE e id else 0) := by
  rw [List.length_append, List.length_singleton]
  show sumZ (atE (l ++ [e])) id p l.length + (if p (atE (l ++ [e]) l.length) then mvE (atE (l ++ [e]) l.length) id else 0) = _
  rw [atE_last, sumZ_congr (E := atE (l ++ [e])) (F := atE l) id p l.length (fun k hk => atE_left hk)]
/-- The entries with a value date up to a day, the last one first, all booked on one day. -/
def ordE (E : Nat → LEnt) (day bk : Int) (n : Nat) : Nat → List LEnt
  | 0 => []
  | k + 1 => if (E (n - 1 - k)).va ≤ day then ordE E day bk n k ++ [{ E (n - 1 - k) with bk := bk }] else ordE E day bk n k
theorem ordE_len (E : Nat → LEnt) (day bk : Int) (n : Nat) : ∀ k, (ordE E day bk n k).length ≤ k
  | 0 => Nat.le_refl _
  | k + 1 => by
    have ih := ordE_len E day bk n k
    unfold ordE
    split
    · rw [List.length_append, List.length_singleton]; omega
    · omega
theorem ordE_sum {E : Nat → LEnt} {day bk : Int} {n : Nat} (id : Int) (hE : ∀ k, k < n → (E k).bk ≤ 73048) (hb : bk ≤ 73048) : ∀ k, k ≤ n →
    sumZ (atE (ordE E day bk n k)) id (upB 73048 day) (ordE E day bk n k).length + sumZ E id (upB 73048 day) (n - k) = sumZ E id (upB 73048 day) n
  | 0, _ => by show (0 : Int) + _ = _; rw [Int.zero_add]; rfl
  | k + 1, hk => by
    have ih := ordE_sum (day := day) id hE hb k (by omega)
    obtain ⟨m, hm⟩ : ∃ m, n - k = m + 1 := ⟨n - k - 1, by omega⟩
    have e1 : n - 1 - k = m := by omega
    have e2 : n - (k + 1) = m := by omega
    have hbm := hE m (by omega)
    rw [hm] at ih
    rw [e2]
    have hs : sumZ E id (upB 73048 day) (m + 1) = sumZ E id (upB 73048 day) m + (if upB 73048 day (E m) then mvE (E m) id else 0) := rfl
    rw [hs] at ih
    unfold ordE
    rw [e1]
    by_cases hv : (E m).va ≤ day
    · rw [if_pos hv, sumZ_snoc]
      have u1 : upB 73048 day (E m) = true := by unfold upB; exact decide_eq_true ⟨hbm, hv⟩
      have u2 : upB 73048 day { E m with bk := bk } = true := by unfold upB; exact decide_eq_true ⟨hb, hv⟩
      rw [if_pos u1] at ih
      rw [if_pos u2]
      have u3 : mvE { E m with bk := bk } id = mvE (E m) id := rfl
      rw [u3]
      omega
    · rw [if_neg hv]
      have u1 : ¬ upB 73048 day (E m) = true := by unfold upB; exact fun h => hv (of_decide_eq_true h).2
      rw [if_neg u1, Int.add_zero] at ih
      exact ih
theorem ordE_legs {E : Nat → LEnt} {day bk : Int} {n : Nat} {Q : Option Addr → Nat → (Nat → LLeg) → Prop} (h : ∀ k, k < n → Q (E k).lA (E k).ln (E k).legs) : ∀ k, k ≤ n → ∀ e ∈ ordE E day bk n k, Q e.lA e.ln e.legs
  | 0, _, e, he => by cases he
  | k + 1, hk, e, he => by
    have ih := ordE_legs (E := E) (day := day) (bk := bk) h k (by omega)
    unfold ordE at he
    split at he
    · rcases List.mem_append.1 he with h1 | h1
      · exact ih e h1
      · rw [List.mem_singleton] at h1
        subst h1
        exact h (n - 1 - k) (by omega)
    · exact ih e he
/-- Books with another journal. -/
def jouB (B : LBk) (A : Option Addr) (n c : Nat) (E : Nat → LEnt) : LBk := { B with C := B.C.setIfInBounds 19 (.slice A n c), jA := A, jn := n, jc := c, E := E }
theorem all_set {C : Array Value} {i : Nat} {v : Value} (h : C.all (·.oneCell') = true) (hv : v.oneCell' = true) : (C.setIfInBounds i v).all (·.oneCell') = true := by
  rw [Array.all_eq_true] at h ⊢
  intro j hj
  have hj2 : j < C.size := by simpa using hj
  rw [Array.getElem_setIfInBounds hj2]
  split
  · exact hv
  · exact h j hj2
theorem jou_ok {B : LBk} (h : BkOK B) (A : Option Addr) (n c : Nat) (E : Nat → LEnt) (hn : n ≤ 1000000) : BkOK (jouB B A n c E) :=
  ⟨⟨by show (B.C.setIfInBounds 19 _).size = 22; rw [Array.size_setIfInBounds]; exact h.bks.size,
    by show (B.C.setIfInBounds 19 _)[18]? = some (.slice B.aA B.an B.ac); rw [Array.getElem?_setIfInBounds]; simpa using h.bks.acc,
    by show (B.C.setIfInBounds 19 _)[19]? = some (.slice A n c); rw [Array.getElem?_setIfInBounds]; simp [h.bks.size]⟩,
   by show (B.C.setIfInBounds 19 _)[17]? = some (.slice B.pA B.pn B.pc); rw [Array.getElem?_setIfInBounds]; simpa using h.pro,
   h.an, hn, h.pn, all_set h.ones rfl, h.cells, h.cr, h.db⟩
theorem jou_in {B : LBk} {w : World} (h : BkIn w B) {A : Option Addr} {n c : Nat} {E : Nat → LEnt} (hj : Jrn w A n E) : BkIn w (jouB B A n c E) := ⟨h.acc, hj, h.pro⟩
theorem jou_day {B : LBk} {A : Option Addr} {n c : Nat} {E : Nat → LEnt} {day : Int} (id : Int) (h : sumE E id (upB 73048 day) n = balB B id day) : dayE (jouB B A n c E) id day = dayE B id day ∧ dayV (jouB B A n c E) id day = dayV B id day := by
  have hb : balB (jouB B A n c E) id day = balB B id day := h
  have ha : acr (jouB B A n c E) id day = acr B id day := by
    unfold acr
    rw [hb]
    rfl
  refine ⟨rfl, ?_⟩
  unfold dayV
  rw [ha]
  rfl
theorem ord_bal {B : LBk} {day bk : Int} (id : Int) (hE : ∀ k, k < B.jn → (B.E k).bk ≤ 73048) (hb : bk ≤ 73048) : sumE (atE (ordE B.E day bk B.jn B.jn)) id (upB 73048 day) (ordE B.E day bk B.jn B.jn).length = balB B id day := by
  unfold balB
  rw [sumE_wrap, sumE_wrap, ← ordE_sum (E := B.E) (day := day) id hE hb B.jn (Nat.le_refl _), Nat.sub_self]
  show _ = wrap64 (_ + 0)
  rw [Int.add_zero]
theorem ord_jrn {w' : World} {B : LBk} {day bk : Int} {v : Value} {base : Nat} {e : TypeId} (hj : Jrn w' B.jA B.jn B.E) (h : w'.ownsRow base e 10 v (ordE B.E day bk B.jn B.jn).length ((ordE B.E day bk B.jn B.jn).flatMap entL)) :
    ∃ A c, v = .slice A (ordE B.E day bk B.jn B.jn).length c ∧ Jrn w' A (ordE B.E day bk B.jn B.jn).length (atE (ordE B.E day bk B.jn B.jn)) := by
  have hl : ∀ k, k < (ordE B.E day bk B.jn B.jn).length → RowLeg w' (atE (ordE B.E day bk B.jn B.jn) k).lA (atE (ordE B.E day bk B.jn B.jn) k).ln (atE (ordE B.E day bk B.jn B.jn) k).legs ∧ (atE (ordE B.E day bk B.jn B.jn) k).ln ≤ 1000000 := fun k hk => by
    rw [atE_at hk]
    exact ⟨ordE_legs (Q := fun A n l => RowLeg w' A n l) (fun k hk => hj.row.2 k hk) B.jn (Nat.le_refl _) _ (List.getElem_mem hk), ordE_legs (Q := fun A n l => n ≤ 1000000) (fun k hk => hj.legs k hk) B.jn (Nat.le_refl _) _ (List.getElem_mem hk)⟩
  obtain ⟨A, c, hv, hr⟩ := own_rowEnt h (fun k hk => (hl k hk).1)
  exact ⟨A, c, hv, hr, fun k hk => (hl k hk).2⟩
end Go.Proofs.Ytfolccncegejjaa
