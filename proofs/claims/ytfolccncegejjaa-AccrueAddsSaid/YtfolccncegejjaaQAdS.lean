/- Texts laid together: AdS. -/
import Derived.Test.YtfolccncegejjaaQAcU
import Derived.Test.YtfolccncegejjaaQAcS
import Derived.Test.YtfolccncegejjaaQAdH
namespace Go.Proofs.Ytfolccncegejjaa
set_option maxRecDepth 4000
set_option linter.unusedSimpArgs false
set_option linter.unusedVariables false
open Go.RowKit
def sumC (L : Nat → LAcr) : Nat → Int
  | 0 => 0
  | k + 1 => sumC L k + (L k).cr
def sumD (L : Nat → LAcr) : Nat → Int
  | 0 => 0
  | k + 1 => sumD L k + (L k).db
theorem sum_bd {L : Nat → LAcr} : ∀ {k : Nat}, (∀ i, i < k → AcrOk (L i)) → (0 ≤ sumC L k ∧ sumC L k ≤ 354859277876187696016453440000000000 * k) ∧ 0 ≤ sumD L k ∧ sumD L k ≤ 354859277876187696016453440000000000 * k
  | 0, _ => ⟨⟨Int.le_refl _, by show (0 : Int) ≤ _; omega⟩, Int.le_refl _, by show (0 : Int) ≤ _; omega⟩
  | k + 1, h => by
    have ih := sum_bd (L := L) (k := k) (fun i hi => h i (by omega))
    have hk := h k (by omega)
    have h0 := hk.c0
    have h1 := hk.c1
    have h2 := hk.d0
    have h3 := hk.d1
    unfold sumC sumD
    refine ⟨⟨?_, ?_⟩, ?_, ?_⟩
    all_goals omega
theorem sum_in {L : Nat → LAcr} {k : Nat} (hk : k ≤ 200) (h : ∀ i, i < k → AcrOk (L i)) : WIn (sumC L k) ∧ WIn (sumD L k) := by
  have t := sum_bd h
  unfold WIn
  omega
theorem tot_sum {L : Nat → LAcr} : ∀ {k : Nat}, k ≤ 200 → (∀ i, i < k → AcrOk (L i)) → totS L k = some (sumC L k, sumD L k)
  | 0, _, _ => rfl
  | k + 1, hk, h => by
    have ih := tot_sum (L := L) (k := k) (by omega) (fun i hi => h i (by omega))
    have t := sum_in hk h
    exact tot_step ih (fitE_of t.1) (fitE_of t.2)
theorem sum_split (L : Nat → LAcr) (a : Nat) : ∀ b, sumC L (a + b) = sumC L a + sumC (fun i => L (a + i)) b ∧ sumD L (a + b) = sumD L a + sumD (fun i => L (a + i)) b
  | 0 => ⟨by show sumC L a = _ + 0; rw [Int.add_zero], by show sumD L a = _ + 0; rw [Int.add_zero]⟩
  | b + 1 => by
    have ih := sum_split L a b
    rw [← Nat.add_assoc]
    show sumC L (a + b) + _ = _ + (_ + _) ∧ sumD L (a + b) + _ = _ + (_ + _)
    rw [ih.1, ih.2, Int.add_assoc, Int.add_assoc]
    exact ⟨rfl, rfl⟩
theorem serL_at (B : LBk) (id f : Int) : ∀ n k, k < n → atR (serL B id f n) k = acr B id (f + k)
  | 0, k, h => by omega
  | n + 1, k, h => by
    unfold serL
    by_cases hk : k < n
    · rw [← serL_at B id f n k hk]
      unfold atR
      rw [List.getD_eq_getElem?_getD, List.getD_eq_getElem?_getD, List.getElem?_append_left (by rw [serL_len]; exact hk)]
    · obtain rfl : k = n := by omega
      unfold atR
      rw [List.getD_eq_getElem?_getD, List.getElem?_append_right (by rw [serL_len]; exact Nat.le_refl _), serL_len, Nat.sub_self]
      rfl
/-- The accruals of a span of days. -/
noncomputable def acrN (B : LBk) (id f : Int) (k : Nat) : LAcr := acr B id (f + k)
theorem acrN_add (B : LBk) (id f : Int) (a : Nat) : acrN B id (f + a) = fun i => acrN B id f (a + i) := by
  funext i
  unfold acrN
  congr 1
  omega
theorem ser_row {w : World} {A : Option Addr} {B : LBk} {id f t : Int} {n : Nat} (h : serE B id f t = 0) (hn : (n : Int) = t - f + 1) (hr : RowAcr w A (serV B id f t).length (atR (serV B id f t))) : (serV B id f t).length = n ∧ RowAcr w A n (acrN B id f) := by
  rw [ser_ok h hn, serL_len] at hr ⊢
  exact ⟨rfl, RowS.congr hr fun k j hk _ => by rw [serL_at B id f n k hk]; rfl⟩
theorem ser_fine {B : LBk} {id f t : Int} (h : serE B id f t = 0) : hasB B id = true ∧ vday f = true ∧ vday t = true := by
  cases h1 : hasB B id with
  | false => rw [ser_0 f t h1] at h; cases h
  | true =>
    cases h2 : vday f with
    | false => rw [ser_1 t h1 h2] at h; cases h
    | true =>
      cases h3 : vday t with
      | false => rw [ser_2 h1 h2 h3] at h; cases h
      | true => exact ⟨rfl, rfl, rfl⟩
theorem ser_part {B : LBk} {id f t : Int} (h : serE B id f t = 0) {g u : Int} (h1 : f ≤ g) (h2 : g ≤ u) (h3 : u ≤ t) (h4 : u - g < 4000) : serE B id g u = 0 := by
  obtain ⟨a, b, c⟩ := ser_fine h
  rw [vday_iff] at b c
  exact ser_5 a (vday_iff.2 ⟨by omega, by omega⟩) (vday_iff.2 ⟨by omega, by omega⟩) (by omega) (by omega)
theorem ser_day {B : LBk} {id f t : Int} (h : serE B id f t = 0) {d : Int} (h1 : f ≤ d) (h2 : d ≤ t) : dayE B id d = 0 ∧ dayV B id d = acr B id d := by
  obtain ⟨a, b, c⟩ := ser_fine h
  rw [vday_iff] at b c
  have hd : vday d = true := vday_iff.2 ⟨by omega, by omega⟩
  have he : dayE B id d = 0 := by
    unfold dayE
    rw [if_neg (by rw [a]; decide), if_neg (by rw [hd]; decide)]
  exact ⟨he, if_pos he⟩
theorem ser_bad {B : LBk} {id f t : Int} (h : serE B id f t ≠ 0) (h0 : 0 ≤ f) (h1 : f ≤ 73048) (h2 : f ≤ t) (h3 : t - f < 4000) : (serE B id f t = 11 ∨ (serE B id f t = 1 ∧ 73048 < t)) ∧ (serV B id f t).length = 0 := by
  refine ⟨?_, by unfold serV; rw [if_neg h]; rfl⟩
  cases a : hasB B id with
  | false => exact .inl (ser_0 f t a)
  | true =>
    have b : vday f = true := vday_iff.2 ⟨h0, h1⟩
    cases c : vday t with
    | false =>
      refine .inr ⟨ser_2 a b c, ?_⟩
      by_cases d : 73048 < t
      · exact d
      · exact absurd (vday_iff.2 ⟨by omega, by omega⟩ : vday t = true) (by rw [c]; decide)
    | true => exact absurd (ser_5 a b c (by omega) (by omega)) h
end Go.Proofs.Ytfolccncegejjaa
