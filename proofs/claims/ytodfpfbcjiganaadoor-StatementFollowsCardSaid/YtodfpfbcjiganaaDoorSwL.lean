/- Plain laws of statements: entries that do not touch the account; statements that follow each other. No program in sight. -/
import Derived.Test.YtodfpfbcjiganaaDoorStJ
import Derived.Test.YtodfpfbcjiganaaDoorStI
import Derived.Test.YtodfpfbcjiganaaDoorStG
namespace Go.Proofs.YtodfpfbcjiganaaDoor
set_option linter.unusedSimpArgs false
set_option linter.unusedVariables false
open Go.RowKit

theorem mvs_no {legs : Nat → LLeg} {id : Int} : ∀ n, mvb legs id n = false → mvs legs id n = 0
  | 0, _ => rfl
  | n + 1, h => by
    unfold mvb at h
    rw [Bool.or_eq_false_iff] at h
    unfold mvs
    rw [if_neg (by simpa using h.2)]
    exact mvs_no n h.1
theorem mvE_no {e : LEnt} {id : Int} (h : tchE e id = false) : mvE e id = 0 := mvs_no _ h
/-- A journal with an entry in front. -/
def consE (e : LEnt) (E : Nat → LEnt) : Nat → LEnt
  | 0 => e
  | k + 1 => E k
theorem sumE_cons {e : LEnt} {E : Nat → LEnt} {id : Int} (h : tchE e id = false) (p : LEnt → Bool) : ∀ n, sumE (consE e E) id p (n + 1) = sumE E id p n
  | 0 => by
    show (if p e = true then wrap64 (0 + mvE e id) else 0) = 0
    rw [mvE_no h]
    split
    · exact wrap64_id (by unfold IIn; decide)
    · rfl
  | n + 1 => by
    have ih := sumE_cons (e := e) (E := E) h p n
    show (if p (E n) = true then wrap64 (sumE (consE e E) id p (n + 1) + mvE (E n) id) else sumE (consE e E) id p (n + 1)) = _
    rw [ih]
    rfl
theorem lnL_cons {e : LEnt} {E : Nat → LEnt} {id : Int} (h : tchE e id = false) (f t : Int) : ∀ n, lnL (consE e E) id f t (n + 1) = lnL E id f t n
  | 0 => lnL_un (E := consE e E) (k := 0) h
  | n + 1 => by
    have ih := lnL_cons (e := e) (E := E) h f t n
    show lnL (consE e E) id f t (n + 1) ++ (if f ≤ (E n).bk ∧ (E n).bk ≤ t ∧ tchE (E n) id = true then [⟨(E n).id, (E n).bk, mvE (E n) id, (E n).tx⟩] else []) = _
    rw [ih]
    rfl
theorem mkS_cons {e : LEnt} {E : Nat → LEnt} {id : Int} (h : tchE e id = false) (n : Nat) (has : Bool) (no f t : Int) : mkS (consE e E) (n + 1) has id no f t = mkS E n has id no f t := by
  unfold mkS
  split
  · unfold opS clS
    rw [sumE_cons h, sumE_cons h, lnL_cons h]
  · rfl
/-! ### Sums -/
theorem wrap64_add (a b : Int) : wrap64 (wrap64 a + b) = wrap64 (a + b) := by unfold wrap64; omega
def usum (E : Nat → LEnt) (id : Int) (p : LEnt → Bool) : Nat → Int
  | 0 => 0
  | k + 1 => usum E id p k + (if p (E k) = true then mvE (E k) id else 0)
theorem sumE_w (E : Nat → LEnt) (id : Int) (p : LEnt → Bool) : ∀ n, sumE E id p n = wrap64 (usum E id p n)
  | 0 => (wrap64_id (show IIn 0 by unfold IIn; decide)).symm
  | n + 1 => by
    have ih := sumE_w E id p n
    unfold sumE usum
    split
    · rw [ih, wrap64_add]
    · rw [ih, Int.add_zero]
def inB (f t : Int) (e : LEnt) : Bool := decide (f ≤ e.bk ∧ e.bk ≤ t)
theorem usum_split (E : Nat → LEnt) (id : Int) {f t : Int} (hft : f ≤ t) : ∀ n, usum E id (clB t) n = usum E id (opB f) n + usum E id (inB f t) n
  | 0 => rfl
  | n + 1 => by
    have ih := usum_split E id hft n
    unfold usum
    rw [ih]
    unfold clB opB inB
    by_cases h1 : (E n).bk < f
    · rw [if_pos (by simp; omega), if_pos (by simpa using h1), if_neg (by simp; omega)]; omega
    · by_cases h2 : (E n).bk ≤ t
      · rw [if_pos (by simpa using h2), if_neg (by simpa using h1), if_pos (by simp; omega)]; omega
      · rw [if_neg (by simpa using h2), if_neg (by simpa using h1), if_neg (by simp; omega)]; omega
theorem atP_left {l m : List LPos} {k : Nat} (h : k < l.length) : atP (l ++ m) k = atP l k := by rw [atP_at h, atP_at (by simp; omega), List.getElem_append_left h]
theorem atP_last (l : List LPos) (e : LPos) : atP (l ++ [e]) l.length = e := by rw [atP_at (by simp)]; simp
theorem sumP_congr {P Q : Nat → LPos} (o : Int) : ∀ n, (∀ k, k < n → P k = Q k) → sumP P o n = sumP Q o n
  | 0, _ => rfl
  | n + 1, h => by
    have ih := sumP_congr (P := P) (Q := Q) o n (fun k hk => h k (by omega))
    unfold sumP
    rw [ih, h n (by omega)]
theorem sumP_snoc (l : List LPos) (p : LPos) (o : Int) : sumP (atP (l ++ [p])) o (l ++ [p]).length = wrap64 (sumP (atP l) o l.length + p.am) := by
  rw [List.length_append, List.length_singleton]
  show wrap64 (sumP (atP (l ++ [p])) o l.length + (atP (l ++ [p]) l.length).am) = _
  rw [atP_last, sumP_congr (P := atP (l ++ [p])) (Q := atP l) o l.length (fun k hk => atP_left hk)]
theorem sumP_ln (E : Nat → LEnt) (id f t : Int) {o : Int} (ho : IIn o) : ∀ n, sumP (atP (lnL E id f t n)) o (lnL E id f t n).length = wrap64 (o + usum E id (inB f t) n)
  | 0 => by
    show o = wrap64 (o + 0)
    rw [Int.add_zero, wrap64_id ho]
  | n + 1 => by
    have ih := sumP_ln E id f t ho n
    unfold usum
    by_cases h : f ≤ (E n).bk ∧ (E n).bk ≤ t
    · rw [if_pos (by unfold inB; simpa using h)]
      cases ht : tchE (E n) id with
      | true =>
        rw [lnL_yes h.1 h.2 ht, sumP_snoc, ih, wrap64_add, Int.add_assoc]
      | false => rw [lnL_un ht, ih, mvE_no ht, Int.add_zero]
    · rw [if_neg (by unfold inB; simpa using h), lnL_no (fun hh => h ⟨hh.1, hh.2.1⟩), ih, Int.add_zero]
theorem sum_closes (E : Nat → LEnt) (id : Int) {f t : Int} (hft : f ≤ t) (n : Nat) : sumP (atP (lnL E id f t n)) (opS E id f n) (lnL E id f t n).length = clS E id t n := by
  rw [sumP_ln E id f t (show IIn (opS E id f n) from sumE_bd E id _ n)]
  unfold opS clS
  rw [sumE_w, sumE_w, wrap64_add, usum_split E id hft]
/-! ### Lines -/
theorem lnL_mem {E : Nat → LEnt} {id f t : Int} (hid : ∀ k, (E k).id = (k : Int) + 1) : ∀ n p, p ∈ lnL E id f t n → 1 ≤ p.en ∧ p.en ≤ n ∧ f ≤ p.dy ∧ p.dy ≤ t
  | 0, p, h => by cases h
  | n + 1, p, h => by
    unfold lnL at h
    rcases List.mem_append.1 h with h | h
    · have := lnL_mem hid n p h
      omega
    · split at h
      · rename_i hc
        simp only [List.mem_singleton] at h
        subst h
        have := hid n
        dsimp only
        omega
      · cases h
theorem lnL_pair {E : Nat → LEnt} {id f t : Int} (hid : ∀ k, (E k).id = (k : Int) + 1) : ∀ n, (lnL E id f t n).Pairwise (fun p q => p.en < q.en)
  | 0 => List.Pairwise.nil
  | n + 1 => by
    unfold lnL
    refine List.pairwise_append.2 ⟨lnL_pair hid n, ?_, ?_⟩
    · split <;> simp
    · intro p hp q hq
      have h1 := lnL_mem hid n p hp
      split at hq
      · simp only [List.mem_singleton] at hq
        subst hq
        have := hid n
        dsimp only
        omega
      · cases hq
theorem ln_good {E : Nat → LEnt} {id f t : Int} (hid : ∀ k, (E k).id = (k : Int) + 1) (n k : Nat) (hk : k < (lnL E id f t n).length) : goodP (atP (lnL E id f t n)) f t k := by
  have hm := lnL_mem hid n _ (List.getElem_mem hk)
  have hp := List.pairwise_iff_getElem.1 (lnL_pair (id := id) (f := f) (t := t) hid n)
  unfold goodP
  rw [atP_at hk]
  refine ⟨?_, hm.2.2.1, hm.2.2.2⟩
  cases k with
  | zero => show (0 : Int) < _; omega
  | succ j =>
    show (atP (lnL E id f t n) j).en < _
    rw [atP_at (by omega)]
    exact hp j (j + 1) (by omega) hk (by omega)
/-- A statement that Make makes is accepted. -/
theorem mk_chk {E : Nat → LEnt} {id no f t : Int} (hid : ∀ k, (E k).id = (k : Int) + 1) (n : Nat) (h1 : 1000 ≤ id) (hm : mkE true no f t = 0) :
    chkS id no f t (opS E id f n) (clS E id t n) (atP (lnL E id f t n)) (lnL E id f t n).length = 0 := by
  unfold mkE at hm
  simp only [Bool.true_eq_false, if_false] at hm
  split at hm
  · cases hm
  · rename_i h2
    split at hm
    · cases hm
    · rename_i h3
      split at hm
      · cases hm
      · rename_i h4
        split at hm
        · cases hm
        · rename_i h5
          unfold chkS
          rw [if_neg (by omega), if_neg h2, if_neg h3, if_neg h4, if_neg h5]
          exact linE_ok (fun k hk => ln_good hid n k hk) (sum_closes E id (by omega) n)
theorem op_cl (E : Nat → LEnt) (id m : Int) (n : Nat) : opS E id (m + 1) n = clS E id m n := by
  have : opB (m + 1) = clB m := by funext e; unfold opB clB; exact decide_eq_decide.2 (by omega)
  unfold opS clS
  rw [this]
theorem sorted_le {E : Nat → LEnt} : ∀ {n : Nat}, (∀ k, k + 1 < n → (E k).bk ≤ (E (k + 1)).bk) → ∀ {i j : Nat}, i ≤ j → j < n → (E i).bk ≤ (E j).bk := by
  intro n h i j hij hj
  induction j with
  | zero => obtain rfl : i = 0 := by omega
            exact Int.le_refl _
  | succ j ih =>
    rcases Nat.lt_or_ge i (j + 1) with h1 | h1
    · exact Int.le_trans (ih (by omega) (by omega)) (h j hj)
    · obtain rfl : i = j + 1 := by omega
      exact Int.le_refl _
theorem lnL_nil {E : Nat → LEnt} {id f t : Int} : ∀ n, (∀ k, k < n → (E k).bk < f) → lnL E id f t n = []
  | 0, _ => rfl
  | n + 1, h => by
    rw [lnL_lt (h n (by omega))]
    exact lnL_nil n (fun k hk => h k (by omega))
theorem lnL_parts {E : Nat → LEnt} {id f m t : Int} (hfm : f ≤ m) (hmt : m < t) : ∀ n, (∀ k, k + 1 < n → (E k).bk ≤ (E (k + 1)).bk) → lnL E id f t n = lnL E id f m n ++ lnL E id (m + 1) t n
  | 0, _ => rfl
  | n + 1, h => by
    have ih := lnL_parts (E := E) (id := id) hfm hmt n (fun k hk => h k (by omega))
    have hs := fun k (hk : k < n) => sorted_le h (i := k) (j := n) (by omega) (by omega)
    cases ht : tchE (E n) id with
    | false => rw [lnL_un ht, lnL_un ht, lnL_un ht, ih]
    | true =>
      by_cases h1 : (E n).bk < f
      · rw [lnL_lt h1, lnL_lt h1, lnL_lt (by omega), ih]
      · by_cases h2 : (E n).bk ≤ m
        · rw [lnL_yes (by omega) (by omega) ht, lnL_yes (by omega) h2 ht, lnL_lt (f := m + 1) (by omega), ih, lnL_nil (f := m + 1) n (fun k hk => by have := hs k hk; omega), List.append_nil, List.append_nil]
        · by_cases h3 : (E n).bk ≤ t
          · rw [lnL_yes (by omega) h3 ht, lnL_gt (by omega), lnL_yes (f := m + 1) (by omega) h3 ht, ih, List.append_assoc]
          · rw [lnL_gt (by omega), lnL_gt (by omega), lnL_gt (by omega), ih]
/-! ### The errors -/
theorem mk_err {has : Bool} {no f m t : Int} (h1 : 1 ≤ no) (hfm : f ≤ m) (hmt : m < t) (h : ¬ (mkE has no f m = 0 ∧ mkE has (no + 1) (m + 1) t = 0 ∧ mkE has no f t = 0)) : has = false ∨ f < 0 ∨ t > 73048 := by
  cases has with
  | false => exact .inl rfl
  | true =>
    right
    rcases Int.lt_or_le f 0 with c | c
    · exact .inl c
    · rcases Int.lt_or_le 73048 t with d | d
      · exact .inr d
      · exfalso
        apply h
        have v1 : vday f = true := vday_iff.2 ⟨c, by omega⟩
        have v2 : vday m = true := vday_iff.2 ⟨by omega, by omega⟩
        have v3 : vday (m + 1) = true := vday_iff.2 ⟨by omega, by omega⟩
        have v4 : vday t = true := vday_iff.2 ⟨by omega, d⟩
        exact ⟨mkE_5 rfl (by omega) v1 v2 (by omega), mkE_5 rfl (by omega) v3 v4 (by omega), mkE_5 rfl (by omega) v1 v4 (by omega)⟩
theorem mk_has {has : Bool} {no f t : Int} (h : mkE has no f t = 0) : has = true := by
  cases has with
  | true => rfl
  | false => cases h
/-- A row of entries under another name. -/
theorem RowEnt.congr {w : World} {A : Option Addr} {n : Nat} {E F : Nat → LEnt} (h : RowEnt w A n E) (e : ∀ k, k < n → E k = F k) : RowEnt w A n F :=
  ⟨RowS.congr h.1 (fun k j hk _ => by rw [e k hk]), fun k hk => by rw [← e k hk]; exact h.2 k hk⟩
theorem RowPos.congr {w : World} {A : Option Addr} {n : Nat} {E F : Nat → LPos} (h : RowPos w A n E) (e : ∀ k, k < n → E k = F k) : RowPos w A n F := RowS.congr h (fun k j hk _ => by rw [e k hk])
theorem atE_cons (e : LEnt) (E : Nat → LEnt) (n k : Nat) (hk : k < 1 + n) : atE ([e] ++ (List.range n).map E) k = consE e E k := by
  rw [atE_at (by simp; omega)]
  cases k with
  | zero => rfl
  | succ j =>
    rw [List.getElem_append_right (by simp)]
    simp [consE]
end Go.Proofs.YtodfpfbcjiganaaDoor
