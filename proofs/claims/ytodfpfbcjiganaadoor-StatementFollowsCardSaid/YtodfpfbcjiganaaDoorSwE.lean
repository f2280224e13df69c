/- What the law StatementFollows needs of three statements, in plain words. -/
import Derived.Test.YtodfpfbcjiganaaDoorSwD
namespace Go.Proofs.YtodfpfbcjiganaaDoor
set_option linter.unusedSimpArgs false
set_option linter.unusedVariables false
open Go.RowKit

theorem mk_from {has : Bool} {no f t : Int} (h : mkE has no f t = 0) : 0 ≤ f ∧ f ≤ 73048 := by
  cases has with
  | false => cases h
  | true =>
    cases hv : vday f with
    | true => exact vday_iff.1 hv
    | false =>
      exfalso
      by_cases h1 : no < 1
      · rw [mkE_1 rfl f t h1] at h; cases h
      · rw [mkE_2 rfl t h1 hv] at h; cases h
theorem mk_to {has : Bool} {no f t : Int} (h : mkE has no f t = 0) : 0 ≤ t ∧ t ≤ 73048 := by
  cases has with
  | false => cases h
  | true =>
    cases hv : vday t with
    | true => exact vday_iff.1 hv
    | false =>
      exfalso
      by_cases h1 : no < 1
      · rw [mkE_1 rfl f t h1] at h; cases h
      · have hf : vday f = true := vday_iff.2 (mk_from h)
        rw [mkE_3 rfl h1 hf hv] at h; cases h
theorem mk_third {has : Bool} {no f m t : Int} (hh : has = true) (h1 : 1 ≤ no) (hfm : f ≤ m) (hmt : m < t) (ha : mkE has no f m = 0) (hb : mkE has (no + 1) (m + 1) t = 0) : mkE has no f t = 0 :=
  mkE_5 hh (by omega) (vday_iff.2 (mk_from ha)) (vday_iff.2 (mk_to hb)) (by omega)
/-- A statement that Make returns, its lines by index. -/
def StR (ac no f t op cl : Int) (n : Nat) (P : Nat → LPos) (w : World) (e : Ending) (w' : World) : Prop := ∃ A c, e = .returned (.tuple #[.agg #[.int .i64 ac, .int .i64 no, .int .i64 f, .int .i64 t, .int .i64 op, .int .i64 cl, .slice A n c], .int .i64 0]) ∧ RowPos w' A n P ∧ Below w.heap.size w w'
/-- A statement that Make refuses. -/
def StE (R : Int) (w : World) (e : Ending) (w' : World) : Prop := ∃ v0 v1 v2 v3 v4 v5 A n c, e = .returned (.tuple #[.agg #[.int .i64 v0, .int .i64 v1, .int .i64 v2, .int .i64 v3, .int .i64 v4, .int .i64 v5, .slice A n c], .int .i64 R]) ∧ Below w.heap.size w w'
theorem stE_of {S : LStm} {R : Int} {w : World} {e : Ending} {w' : World} (h : StRet S R w e w') : StE R w e w' := by
  obtain ⟨A, c, h1, _, h2⟩ := h
  exact ⟨_, _, _, _, _, _, A, _, c, h1, h2⟩
/-- Two lists of lines, one behind the other. -/
def catP (P : Nat → LPos) (n : Nat) (Q : Nat → LPos) (k : Nat) : LPos := if k < n then P k else Q (k - n)
theorem atP_cat (l m : List LPos) (k : Nat) (hk : k < l.length + m.length) : atP (l ++ m) k = catP (atP l) l.length (atP m) k := by
  unfold catP
  split
  · rename_i h; exact atP_left h
  · rename_i h
    rw [atP_at (by rw [List.length_append]; exact hk), List.getElem_append_right (by omega), atP_at (by omega)]
theorem own_cat {w : World} {base n m c : Nat} {e : TypeId} {A : Option Addr} {P Q : Nat → LPos} (h : w.ownsRow base e 4 (.slice A (n + m) c) (n + m) (cellsOfP P n ++ cellsOfP Q m)) : RowPos w A (n + m) (catP P n Q) := by
  have hlen : ((List.range n).map P ++ (List.range m).map Q).length = n + m := by simp
  have hat : ∀ k, k < n + m → atP ((List.range n).map P ++ (List.range m).map Q) k = catP P n Q k := fun k hk => by
    rw [atP_at (by rw [hlen]; exact hk)]
    unfold catP
    split
    · rename_i h; rw [List.getElem_append_left (by simpa using h)]; simp
    · rename_i h; rw [List.getElem_append_right (by simpa using h)]; simp
  have h2 : w.ownsRow base e 4 (.slice A ((List.range n).map P ++ (List.range m).map Q).length c) ((List.range n).map P ++ (List.range m).map Q).length (((List.range n).map P ++ (List.range m).map Q).flatMap posL) := by
    rw [hlen, List.flatMap_append]; exact h
  obtain ⟨A', c', hv, hrow⟩ := own_rowPos h2
  injection hv with e1 _ _
  subst e1
  rw [hlen] at hrow
  exact hrow.congr hat
/-- The three statements of the law, where Make accepts all. -/
structure Fol3 (C : Array Value) (aA : Option Addr) (an : Nat) (a : Nat → LAcc) (A : Option Addr) (jn : Nat) (F : Nat → LEnt) (x0 x1 x2 m x3 : Int) (O1 K1 K2 : Int) (n1 n2 : Nat) (P1 P2 : Nat → LPos) : Prop where
  m1 : ∀ w, RowAcc w aA an a → Jrn w A jn F → Calls Tryd.prog 10 #[.agg C, .int .i64 x0, .int .i64 x1, .int .i64 x2, .int .i64 m] w (StR x0 x1 x2 m O1 K1 n1 P1 w)
  m2 : ∀ w, RowAcc w aA an a → Jrn w A jn F → Calls Tryd.prog 10 #[.agg C, .int .i64 x0, .int .i64 (x1 + 1), .int .i64 (m + 1), .int .i64 x3] w (StR x0 (x1 + 1) (m + 1) x3 K1 K2 n2 P2 w)
  m3 : ∀ w, RowAcc w aA an a → Jrn w A jn F → Calls Tryd.prog 10 #[.agg C, .int .i64 x0, .int .i64 x1, .int .i64 x2, .int .i64 x3] w (StR x0 x1 x2 x3 O1 K2 (n1 + n2) (catP P1 n1 P2) w)
  k1 : chkS x0 x1 x2 m O1 K1 P1 n1 = 0
  k2 : chkS x0 (x1 + 1) (m + 1) x3 K1 K2 P2 n2 = 0
  k3 : chkS x0 x1 x2 x3 O1 K2 (catP P1 n1 P2) (n1 + n2) = 0
  le : n1 + n2 ≤ jn
theorem linE_congr {P Q : Nat → LPos} {f t op cl : Int} {n : Nat} (h : ∀ k, k < n → P k = Q k) : linE P f t op cl n = linE Q f t op cl n := by
  have hp : ∀ k, k < n → (goodP P f t k ↔ goodP Q f t k) := by
    intro k hk
    unfold goodP
    rw [h k hk]
    cases k with
    | zero => rfl
    | succ j => show (P j).en < _ ∧ _ ↔ (Q j).en < _ ∧ _; rw [h j (by omega)]
  have hs := sumP_congr op n h
  unfold linE
  rw [hs]
  by_cases c : ∀ k, k < n → goodP P f t k
  · rw [if_pos c, if_pos (fun k hk => (hp k hk).1 (c k hk))]
  · rw [if_neg c, if_neg (fun hh => c (fun k hk => (hp k hk).2 (hh k hk)))]
theorem chkS_congr {P Q : Nat → LPos} {ac no f t op cl : Int} {n : Nat} (h : ∀ k, k < n → P k = Q k) : chkS ac no f t op cl P n = chkS ac no f t op cl Q n := by
  unfold chkS; rw [linE_congr h]
theorem stR_of {ac no f t op cl : Int} {l : List LPos} {w : World} {e : Ending} {w' : World} (h : StRet ⟨ac, no, f, t, op, cl, l⟩ 0 w e w') : StR ac no f t op cl l.length (atP l) w e w' := h
theorem fol3 {C : Array Value} {aA : Option Addr} {an ac : Nat} {A : Option Addr} {jn c : Nat} (hC : Bks C aA an ac A jn c) (a : Nat → LAcc) (E : Nat → LEnt) (hn : an ≤ 1000000) (hjn : jn ≤ 1000000)
    (hs : ∀ k, k + 1 < jn → (E k).bk ≤ (E (k + 1)).bk) {x0 x1 x2 m x3 : Int} (h1 : 1000 ≤ x0) (hfm : x2 ≤ m) (hmt : m < x3)
    (e1 : mkE (hasA a x0 an) x1 x2 m = 0) (e2 : mkE (hasA a x0 an) (x1 + 1) (m + 1) x3 = 0) (e3 : mkE (hasA a x0 an) x1 x2 x3 = 0) :
    ∃ O1 K1 K2 n1 n2 P1 P2, Fol3 C aA an a A jn (numA E) x0 x1 x2 m x3 O1 K1 K2 n1 n2 P1 P2 := by
  have hh := mk_has e1
  have hid : ∀ k, (numA E k).id = (k : Int) + 1 := fun k => rfl
  have hp := lnL_parts (E := numA E) (id := x0) hfm hmt jn hs
  have hlen : (lnL (numA E) x0 x2 x3 jn).length = (lnL (numA E) x0 x2 m jn).length + (lnL (numA E) x0 (m + 1) x3 jn).length := by rw [hp, List.length_append]
  have hcat : ∀ k, k < (lnL (numA E) x0 x2 m jn).length + (lnL (numA E) x0 (m + 1) x3 jn).length → atP (lnL (numA E) x0 x2 x3 jn) k = catP (atP (lnL (numA E) x0 x2 m jn)) (lnL (numA E) x0 x2 m jn).length (atP (lnL (numA E) x0 (m + 1) x3 jn)) k := fun k hk => by
    rw [hp]; exact atP_cat _ _ k hk
  refine ⟨opS (numA E) x0 x2 jn, clS (numA E) x0 m jn, clS (numA E) x0 x3 jn, (lnL (numA E) x0 x2 m jn).length, (lnL (numA E) x0 (m + 1) x3 jn).length, atP (lnL (numA E) x0 x2 m jn), atP (lnL (numA E) x0 (m + 1) x3 jn), ?_, ?_, ?_, ?_, ?_, ?_, ?_⟩
  · intro w hr hj
    have h := make_any C aA an ac A jn c hC a (numA E) x0 x1 x2 m hn hjn w hr hj
    rw [mkS_yes e1, e1] at h
    exact h.mono fun _ _ hh => stR_of hh
  · intro w hr hj
    have h := make_any C aA an ac A jn c hC a (numA E) x0 (x1 + 1) (m + 1) x3 hn hjn w hr hj
    rw [mkS_yes e2, e2, op_cl] at h
    exact h.mono fun _ _ hh => stR_of hh
  · intro w hr hj
    have h := make_any C aA an ac A jn c hC a (numA E) x0 x1 x2 x3 hn hjn w hr hj
    rw [mkS_yes e3, e3] at h
    refine h.mono fun e w' hh => ?_
    obtain ⟨A', c', g1, g2, g3⟩ := stR_of hh
    rw [hlen] at g1 g2
    exact ⟨A', c', g1, g2.congr hcat, g3⟩
  · rw [hh] at e1; exact mk_chk hid jn h1 e1
  · rw [hh] at e2
    have := mk_chk (f := m + 1) (t := x3) hid jn h1 e2
    rw [op_cl] at this
    exact this
  · rw [hh] at e3
    have := mk_chk (f := x2) (t := x3) hid jn h1 e3
    rw [hlen, chkS_congr hcat] at this
    exact this
  · rw [← hlen]; exact lnL_len ..
end Go.Proofs.YtodfpfbcjiganaaDoor
