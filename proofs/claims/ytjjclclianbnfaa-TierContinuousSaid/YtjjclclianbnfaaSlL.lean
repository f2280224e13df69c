/- The slices of a balance: their sum, their interest, and how it grows. No program in sight. -/
import Derived.Test.YtjjclclianbnfaaSlM
import Derived.Test.YtjjclclianbnfaaGrM
namespace Go.Proofs.Ytjjclclianbnfaa
open Go.RowKit

/-- Where tier k begins, cut at the balance's size. -/
def top (n : Nat) (f : Nat → Int) (z : Int) (k : Nat) : Int := if k < n ∧ f k < z then f k else z
theorem sl1_top {n : Nat} {f g : Nat → Int} {z : Int} {k : Nat} (ha : ascB n f) (hk : k < n) :
    (f k < z ∧ sl1 n f g z k = some (top n f z (k + 1) - top n f z k, g k) ∧ 1 ≤ top n f z (k + 1) - top n f z k) ∨ (¬ f k < z ∧ sl1 n f g z k = none ∧ top n f z (k + 1) - top n f z k = 0) := by
  have hasc : k + 1 < n → f k < f (k + 1) := fun h => ha k (by omega)
  by_cases hz : f k < z
  · left
    refine ⟨hz, ?_⟩
    unfold sl1 top
    rw [if_pos (show k < n ∧ f k < z from ⟨hk, hz⟩)]
    by_cases h1 : k + 1 < n ∧ f (k + 1) < z
    · rw [if_pos h1]
      have := hasc h1.1
      exact ⟨if_pos this, by omega⟩
    · rw [if_neg h1]
      exact ⟨if_pos hz, by omega⟩
  · right
    refine ⟨hz, ?_⟩
    unfold sl1 top
    rw [if_neg (show ¬ (k < n ∧ f k < z) from fun h => hz h.2)]
    by_cases h1 : k + 1 < n ∧ f (k + 1) < z
    · have := hasc h1.1
      omega
    · rw [if_neg h1, if_neg hz]
      exact ⟨rfl, by omega⟩
theorem top_zero {n : Nat} {f : Nat → Int} {z : Int} (hn : 0 < n) (h0 : f 0 = 0) (hz : 0 ≤ z) : top n f z 0 = 0 := by
  unfold top; split <;> omega
theorem top_end (n : Nat) (f : Nat → Int) (z : Int) : top n f z n = z := by unfold top; rw [if_neg (by omega)]
/-- Each part is not less for a balance of greater size. -/
theorem top_mono {n : Nat} {f : Nat → Int} {y z : Int} {k : Nat} (ha : ascB n f) (hk : k < n) (hyz : y ≤ z) : top n f y (k + 1) - top n f y k ≤ top n f z (k + 1) - top n f z k := by
  have hasc : k + 1 < n → f k < f (k + 1) := fun h => ha k (by omega)
  unfold top
  by_cases h1 : k + 1 < n
  · have := hasc h1
    simp only [h1, hk, true_and]
    split <;> split <;> split <;> split <;> omega
  · simp only [h1, hk, true_and, false_and, if_false]
    split <;> split <;> omega
theorem fsts_lt {l : List (Int × Int)} {p : Int × Int} {k : Nat} (h : k < l.length) : fsts (l ++ [p]) k = fsts l k ∧ snds (l ++ [p]) k = snds l k := by
  unfold fsts snds
  simp only [List.getD_eq_getElem?_getD, List.getElem?_append_left h, and_self]
theorem fsts_end {l : List (Int × Int)} {p : Int × Int} : fsts (l ++ [p]) l.length = p.1 ∧ snds (l ++ [p]) l.length = p.2 := by
  unfold fsts snds
  simp [List.getD_eq_getElem?_getD]
theorem gsum_congr {f g f' g' : Nat → Int} {t : Int} : ∀ {n : Nat}, (∀ k, k < n → f k = f' k ∧ g k = g' k) → gsum f g t n = gsum f' g' t n
  | 0, _ => rfl
  | n + 1, h => by
    unfold gsum
    rw [gsum_congr (fun k hk => h k (by omega)), (h n (by omega)).1, (h n (by omega)).2]
/-- The interest of a list of parts. -/
def lsum (t : Int) (l : List (Int × Int)) : Int := gsum (fsts l) (snds l) t l.length
theorem lsum_append {t : Int} {l : List (Int × Int)} {p : Int × Int} : lsum t (l ++ [p]) = lsum t l + p.1 * p.2 * t := by
  unfold lsum
  rw [List.length_append, show [p].length = 1 from rfl]
  show gsum _ _ _ l.length + _ = _
  rw [gsum_congr (fun k hk => fsts_lt (p := p) hk), fsts_end.1, fsts_end.2]
/-- The same by tiers. -/
def tsum (n : Nat) (f g : Nat → Int) (z t : Int) : Nat → Int
  | 0 => 0
  | k + 1 => tsum n f g z t k + (top n f z (k + 1) - top n f z k) * g k * t
theorem lsum_sls {n : Nat} {f g : Nat → Int} {z t : Int} (ha : ascB n f) : ∀ {k : Nat}, k ≤ n → lsum t (sls n f g z k) = tsum n f g z t k
  | 0, _ => rfl
  | k + 1, hk => by
    have ih := lsum_sls (g := g) (z := z) (t := t) ha (k := k) (by omega)
    rcases sl1_top (g := g) (z := z) ha (show k < n by omega) with ⟨_, h, _⟩ | ⟨_, h, hd⟩
    · rw [sls_some h, lsum_append, ih]; rfl
    · rw [sls_none h, ih]
      show _ = tsum n f g z t k + (top n f z (k + 1) - top n f z k) * g k * t
      rw [hd]; simp
theorem tsum_flat {n : Nat} {f : Nat → Int} {z t p : Int} (k : Nat) : tsum n f (fun _ => p) z t k = (top n f z k - top n f z 0) * p * t := by
  induction k with
  | zero => simp [tsum]
  | succ k ih =>
    unfold tsum
    rw [ih, ← Int.add_mul, ← Int.add_mul]
    congr 2
    omega
theorem tsum_mono {n : Nat} {f g : Nat → Int} {y z t : Int} (ha : ascB n f) (hg : allB n f g) (ht : 0 ≤ t) (hyz : y ≤ z) : ∀ {k : Nat}, k ≤ n → tsum n f g y t k ≤ tsum n f g z t k
  | 0, _ => by simp [tsum]
  | k + 1, hk => by
    have ih := tsum_mono (t := t) ha hg ht hyz (k := k) (by omega)
    have h1 := top_mono ha (show k < n by omega) hyz
    unfold tsum
    exact Int.add_le_add ih (Int.mul_le_mul_of_nonneg_right (Int.mul_le_mul_of_nonneg_right h1 (hg k (by omega)).2.2.1) ht)
/-- Every part of a list is one that the interest is defined for, and at least 1. -/
def good (l : List (Int × Int)) : Prop := ∀ k, k < l.length → 1 ≤ fsts l k ∧ 0 ≤ snds l k ∧ snds l k ≤ 1000000
theorem good_nil : good [] := fun k hk => by simp at hk
theorem good_append {l : List (Int × Int)} {p : Int × Int} (h : good l) (hp : 1 ≤ p.1 ∧ 0 ≤ p.2 ∧ p.2 ≤ 1000000) : good (l ++ [p]) := fun k hk => by
  rcases Nat.lt_or_ge k l.length with h1 | h1
  · rw [(fsts_lt h1).1, (fsts_lt h1).2]; exact h k h1
  · obtain rfl : k = l.length := by simp at hk; omega
    rw [fsts_end.1, fsts_end.2]; exact hp
theorem good_sls {n : Nat} {f g : Nat → Int} {z : Int} (ha : ascB n f) (hg : allB n f g) : ∀ {k : Nat}, k ≤ n → good (sls n f g z k)
  | 0, _ => good_nil
  | k + 1, hk => by
    have ih := good_sls (g := g) (z := z) ha hg (k := k) (by omega)
    rcases sl1_top (g := g) (z := z) ha (show k < n by omega) with ⟨_, h, hd⟩ | ⟨_, h, hd⟩
    · rw [sls_some h]; exact good_append ih ⟨hd, (hg k (by omega)).2.2⟩
    · rw [sls_none h]; exact ih
theorem good_allS {l : List (Int × Int)} (h : good l) : allS l.length (fsts l) (snds l) := fun k hk => ⟨by have := (h k hk).1; omega, (h k hk).2⟩
/-- The sum of the first k amounts. -/
def psum (f : Nat → Int) : Nat → Int
  | 0 => 0
  | k + 1 => psum f k + f k
theorem psum_congr {f f' : Nat → Int} : ∀ {n : Nat}, (∀ k, k < n → f k = f' k) → psum f n = psum f' n
  | 0, _ => rfl
  | n + 1, h => by unfold psum; rw [psum_congr (fun k hk => h k (by omega)), h n (by omega)]
theorem psum_append {l : List (Int × Int)} {p : Int × Int} : psum (fsts (l ++ [p])) (l ++ [p]).length = psum (fsts l) l.length + p.1 := by
  rw [List.length_append, show [p].length = 1 from rfl]
  show psum _ l.length + _ = _
  rw [psum_congr (fun k hk => (fsts_lt (p := p) hk).1), fsts_end.1]
theorem psum_sls {n : Nat} {f g : Nat → Int} {z : Int} (ha : ascB n f) : ∀ {k : Nat}, k ≤ n → psum (fsts (sls n f g z k)) (sls n f g z k).length = top n f z k - top n f z 0
  | 0, _ => by simp [sls_zero, psum]
  | k + 1, hk => by
    have ih := psum_sls (g := g) (z := z) ha (k := k) (by omega)
    rcases sl1_top (g := g) (z := z) ha (show k < n by omega) with ⟨_, h, _⟩ | ⟨_, h, hd⟩
    · rw [sls_some h, psum_append, ih]; show _ + (_ - _) = _; omega
    · rw [sls_none h, ih]; omega
theorem psum_le {l : List (Int × Int)} (h : good l) : ∀ {j k : Nat}, j + k ≤ l.length → psum (fsts l) j ≤ psum (fsts l) (j + k)
  | j, 0, _ => Int.le_refl _
  | j, k + 1, hk => by
    have ih := psum_le h (j := j) (k := k) (by omega)
    have h1 := (h (j + k) (by omega)).1
    show psum (fsts l) j ≤ psum (fsts l) (j + k) + fsts l (j + k)
    omega
/-- The parts of a balance: at most six, good, and their sum is the balance's size. -/
theorem slices_good {n : Nat} {f g : Nat → Int} {m : Bool} {b : Int} (hn : 0 < n) (hc : chk n f g = 0) (hz : 0 ≤ tsz b) (hr : 0 ≤ rate n f g b ∧ rate n f g b ≤ 1000000) :
    (slices n f g m b (rate n f g b)).length ≤ 6 ∧ good (slices n f g m b (rate n f g b)) ∧ psum (fsts (slices n f g m b (rate n f g b))) (slices n f g m b (rate n f g b)).length = tsz b := by
  obtain ⟨h6, hg, ha, h0⟩ := chk_ok hc
  unfold slices
  by_cases h : n = 0 ∨ chk n f g ≠ 0 ∨ tsz b = 0
  · rw [if_pos h]
    have hb : tsz b = 0 := by omega
    exact ⟨by simp, good_nil, by rw [hb]; rfl⟩
  · rw [if_neg h]
    cases m
    · rw [if_pos rfl]
      refine ⟨by simp, good_append good_nil ⟨by show 1 ≤ tsz b; omega, hr⟩, ?_⟩
      show 0 + tsz b = tsz b
      omega
    · rw [if_neg (by decide)]
      refine ⟨Nat.le_trans (sls_le n f g _ n) h6, good_sls ha hg (Nat.le_refl _), ?_⟩
      rw [psum_sls ha (Nat.le_refl _), top_zero hn (h0 hn) hz, top_end]; omega
theorem rateTo_bd {f g : Nat → Int} {z : Int} : ∀ {k : Nat}, (∀ j, j < k → 0 ≤ g j ∧ g j ≤ 1000000) → 0 ≤ rateTo f g z k ∧ rateTo f g z k ≤ 1000000
  | 0, _ => by simp [rateTo]
  | k + 1, h => by
    unfold rateTo
    split
    · exact h k (by omega)
    · exact rateTo_bd (fun j hj => h j (by omega))
theorem rate_bd {n : Nat} {f g : Nat → Int} {b : Int} (hc : chk n f g = 0) : 0 ≤ rate n f g b ∧ rate n f g b ≤ 1000000 := by
  obtain ⟨_, hg, _, _⟩ := chk_ok hc
  unfold rate
  rw [if_neg (by omega)]
  exact rateTo_bd (fun j hj => (hg j hj).2.2)
theorem rateTo_flat {f : Nat → Int} {p z : Int} : ∀ {k : Nat}, 0 < k → f 0 ≤ z → rateTo f (fun _ => p) z k = p
  | 0, h, _ => by omega
  | 1, _, h0 => by unfold rateTo; rw [if_pos h0]
  | k + 2, _, h0 => by
    unfold rateTo
    split
    · rfl
    · exact rateTo_flat (by omega) h0
theorem rate_flat {n : Nat} {f : Nat → Int} {p b : Int} (hn : 0 < n) (hc : chk n f (fun _ => p) = 0) (hz : 0 ≤ tsz b) : rate n f (fun _ => p) b = p := by
  have h0 := (chk_ok hc).2.2.2 hn
  unfold rate
  rw [if_neg (by omega)]
  exact rateTo_flat hn (by omega)
theorem chk_flat {n : Nat} {f g : Nat → Int} {p : Int} (hc : chk n f g = 0) (h1 : 0 ≤ p) (h2 : p ≤ 1000000) : chk n f (fun _ => p) = 0 := by
  obtain ⟨h6, hg, ha, h0⟩ := chk_ok hc
  exact chk_0 h6 (fun k hk => ⟨(hg k hk).1, (hg k hk).2.1, h1, h2⟩) ha h0
/-- Flat tiers: the interest is the same, marginal or not. -/
theorem flat_same {n : Nat} {f : Nat → Int} {p b t : Int} (hc : chk n f (fun _ => p) = 0) (hz : 0 ≤ tsz b) :
    lsum t (slices n f (fun _ => p) true b (rate n f (fun _ => p) b)) = lsum t (slices n f (fun _ => p) false b (rate n f (fun _ => p) b)) := by
  obtain ⟨h6, hg, ha, h0⟩ := chk_ok hc
  unfold slices
  by_cases h : n = 0 ∨ chk n f (fun _ => p) ≠ 0 ∨ tsz b = 0
  · rw [if_pos h, if_pos h]
  · rw [if_neg h, if_neg h, if_neg (by decide), if_pos rfl]
    have hn : 0 < n := by omega
    rw [lsum_sls ha (Nat.le_refl _), tsum_flat, top_zero hn (h0 hn) hz, top_end, rate_flat hn hc hz]
    show _ = 0 + tsz b * p * t
    simp
/-- Marginal interest is not less for a balance of greater size. -/
theorem slices_mono {n : Nat} {f g : Nat → Int} {a b t r s : Int} (hn : 0 < n) (hc : chk n f g = 0) (ht : 0 ≤ t) (h1 : 0 ≤ tsz a) (hab : tsz a ≤ tsz b) : lsum t (slices n f g true a r) ≤ lsum t (slices n f g true b s) := by
  obtain ⟨h6, hg, ha, h0⟩ := chk_ok hc
  have hz : ∀ c q, 0 ≤ tsz c → lsum t (slices n f g true c q) = tsum n f g (tsz c) t n := by
    intro c q hcz
    unfold slices
    by_cases h : n = 0 ∨ chk n f g ≠ 0 ∨ tsz c = 0
    · rw [if_pos h]
      have hb : tsz c = 0 := by omega
      have key : ∀ k, k ≤ n → tsum n f g 0 t k = 0 := by
        intro k hk
        induction k with
        | zero => rfl
        | succ k ih =>
          unfold tsum
          rw [ih (by omega)]
          have hfk := (hg k (by omega)).1
          rcases sl1_top (g := g) (z := 0) ha (show k < n by omega) with ⟨h, _⟩ | ⟨_, _, hd⟩
          · omega
          · rw [hd]; simp
      rw [hb, key n (Nat.le_refl _)]; rfl
    · rw [if_neg h, if_neg (by decide), lsum_sls ha (Nat.le_refl _)]
  rw [hz a r h1, hz b s (by omega)]
  exact tsum_mono ha hg ht hab (Nat.le_refl _)
theorem gsum_adds {f g : Nat → Int} {a b : Int} : ∀ (n : Nat), gsum f g (a + b) n = gsum f g a n + gsum f g b n
  | 0 => rfl
  | n + 1 => by
    unfold gsum
    rw [gsum_adds n, Int.mul_add]
    omega
/-- What the interest of a list of parts needs. -/
def goodSl (l : List (Int × Int)) : Prop := l.length ≤ 6 ∧ good l ∧ IB l.length (fsts l) (snds l)
theorem good_IB {l : List (Int × Int)} (h : good l) {z : Int} (hz : z ≤ 9223372036854775807) (hp : psum (fsts l) l.length = z) : IB l.length (fsts l) (snds l) := fun k hk => by
  obtain ⟨h1, h2, h3⟩ := h k hk
  have a := psum_le h (j := 0) (k := k) (by omega)
  have b := psum_le h (j := k + 1) (k := l.length - (k + 1)) (by omega)
  rw [show k + 1 + (l.length - (k + 1)) = l.length from by omega, hp] at b
  rw [Nat.zero_add] at a
  have c : psum (fsts l) (k + 1) = psum (fsts l) k + fsts l k := rfl
  have d : psum (fsts l) 0 = 0 := rfl
  exact ⟨⟨by omega, by omega⟩, ⟨by omega, by omega⟩⟩
theorem slices_ok {n : Nat} {f g : Nat → Int} {m : Bool} {b : Int} (hc : chk n f g = 0) (b1 : -9223372036854775808 ≤ b) (b2 : b ≤ 9223372036854775807) : goodSl (slices n f g m b (rate n f g b)) := by
  obtain ⟨z1, z2⟩ := tsz_bd b1 b2
  rcases Nat.eq_zero_or_pos n with h0 | h0
  · unfold slices
    rw [if_pos (.inl h0)]
    exact ⟨by simp, good_nil, fun k hk => by simp at hk⟩
  · obtain ⟨h1, h2, h3⟩ := slices_good (m := m) h0 hc z1 (rate_bd hc)
    exact ⟨h1, h2, good_IB h2 z2 h3⟩
theorem grains_sl {l : List (Int × Int)} {t : Int} (h : goodSl l) (ht : wtOk t) : grE l.length (fsts l) (snds l) t = 0 ∧ grR l.length (fsts l) (snds l) t = lsum t l := gr_0 h.1 ⟨good_allS h.2.1, ht⟩
theorem Row2.congr {w : World} {A : Option Addr} {n : Nat} {f g f' g' : Nat → Int} (h : Row2 w A n f g) (e : ∀ k, k < n → f k = f' k ∧ g k = g' k) : Row2 w A n f' g' := fun hn => by
  obtain ⟨b, off, hA, hb, hc⟩ := h hn
  exact ⟨b, off, hA, hb, fun k hk => by rw [← (e k hk).1, ← (e k hk).2]; exact hc k hk⟩
/-- Tiers that begin as the first k do, all of the same rate. -/
def fl (f : Nat → Int) (p : Int) (k : Nat) : List (Int × Int) := (List.range k).map fun i => (f i, p)
theorem fl_len (f : Nat → Int) (p : Int) (k : Nat) : (fl f p k).length = k := by simp [fl]
theorem fl_succ (f : Nat → Int) (p : Int) (k : Nat) : fl f p (k + 1) = fl f p k ++ [(f k, p)] := by simp [fl, List.range_succ]
theorem fl_at {f : Nat → Int} {p : Int} {n k : Nat} (h : k < n) : fsts (fl f p n) k = f k ∧ snds (fl f p n) k = p := by
  simp [fsts, snds, fl, List.getD_eq_getElem?_getD, h]
end Go.Proofs.Ytjjclclianbnfaa
