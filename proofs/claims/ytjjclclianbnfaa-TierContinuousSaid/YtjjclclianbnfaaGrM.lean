/- The interest of slices. No program in sight. -/
import Derived.Test.YtjjclclianbnfaaTierM
import Derived.Test.YtjjclclianbnfaaWideM
namespace Go.Proofs.Ytjjclclianbnfaa
open Go.RowKit

def inS (x y : Int) : Prop := 0 ≤ x ∧ 0 ≤ y ∧ y ≤ 1000000
instance (x y : Int) : Decidable (inS x y) := by unfold inS; exact inferInstance
def allS (n : Nat) (f g : Nat → Int) : Prop := ∀ k, k < n → inS (f k) (g k)
instance (n : Nat) (f g : Nat → Int) : Decidable (allS n f g) := by unfold allS; exact inferInstance
def wtOk (t : Int) : Prop := 0 ≤ t ∧ t ≤ 6412320000
instance (t : Int) : Decidable (wtOk t) := by unfold wtOk; exact inferInstance
/-- The sum over the first k slices. -/
def gsum (f g : Nat → Int) (t : Int) : Nat → Int
  | 0 => 0
  | k + 1 => gsum f g t k + f k * g k * t
def grE (n : Nat) (f g : Nat → Int) (t : Int) : Int := if 6 < n then 5 else if allS n f g ∧ wtOk t then 0 else 1
def grR (n : Nat) (f g : Nat → Int) (t : Int) : Int := if n ≤ 6 ∧ allS n f g ∧ wtOk t then gsum f g t n else 0
theorem gr_5 {n : Nat} {f g : Nat → Int} {t : Int} (h : 6 < n) : grE n f g t = 5 ∧ grR n f g t = 0 := ⟨if_pos h, if_neg (by omega)⟩
theorem gr_1 {n : Nat} {f g : Nat → Int} {t : Int} (hn : n ≤ 6) (h : ¬ (allS n f g ∧ wtOk t)) : grE n f g t = 1 ∧ grR n f g t = 0 := by
  unfold grE grR; rw [if_neg (by omega), if_neg h, if_neg (fun hh => h hh.2)]; exact ⟨rfl, rfl⟩
theorem gr_0 {n : Nat} {f g : Nat → Int} {t : Int} (hn : n ≤ 6) (h : allS n f g ∧ wtOk t) : grE n f g t = 0 ∧ grR n f g t = gsum f g t n := by
  unfold grE grR; rw [if_neg (by omega), if_pos h, if_pos ⟨hn, h⟩]; exact ⟨rfl, rfl⟩
theorem allS_succ {k : Nat} {f g : Nat → Int} (h : allS k f g) (hk : inS (f k) (g k)) : allS (k + 1) f g := fun j hj => by
  rcases Nat.lt_or_ge j k with h1 | h1
  · exact h j h1
  · obtain rfl : j = k := by omega
    exact hk
theorem gterm_bd {x y t : Int} (hi : IIn x) (h : inS x y) (ht : wtOk t) : 0 ≤ x * y * t ∧ x * y * t ≤ 59143212979364616002742240000000000 := by
  obtain ⟨h1, h2, h3⟩ := h
  obtain ⟨t1, t2⟩ := ht
  have hx := hi.2
  have p0 : 0 ≤ x * y := Int.mul_nonneg h1 h2
  have p1 := Int.mul_le_mul hx h3 h2 (by decide)
  have q1 := Int.mul_le_mul p1 t2 t1 (by decide)
  exact ⟨Int.mul_nonneg p0 t1, Int.le_trans q1 (by decide)⟩
theorem gsum_bd {f g : Nat → Int} {t : Int} : ∀ (k : Nat), k ≤ 6 → (∀ j, j < k → IIn (f j)) → allS k f g → wtOk t → 0 ≤ gsum f g t k ∧ gsum f g t k ≤ 59143212979364616002742240000000000 * k
  | 0, _, _, _, _ => by simp [gsum]
  | k + 1, hk, hi, ha, ht => by
    have ih := gsum_bd k (by omega) (fun j hj => hi j (by omega)) (fun j hj => ha j (by omega)) ht
    have hb := gterm_bd (hi k (by omega)) (ha k (by omega)) ht
    unfold gsum
    refine ⟨by omega, ?_⟩
    rw [show ((k + 1 : Nat) : Int) = (k : Int) + 1 from rfl, Int.mul_add, Int.mul_one]
    omega
theorem gsum_win {f g : Nat → Int} {t : Int} {k : Nat} (hk : k ≤ 6) (hi : ∀ j, j < k → IIn (f j)) (ha : allS k f g) (ht : wtOk t) : WIn (gsum f g t k) := by
  have h := gsum_bd k hk hi ha ht
  unfold WIn
  have : 59143212979364616002742240000000000 * (k : Int) ≤ 59143212979364616002742240000000000 * 6 := Int.mul_le_mul_of_nonneg_left (by omega) (by decide)
  omega
theorem gterm_win {x y t : Int} (hi : IIn x) (h : inS x y) (ht : wtOk t) : WIn (x * y * t) := by
  have := gterm_bd hi h ht
  unfold WIn; omega
theorem gmul_win {x y : Int} (hi : IIn x) (h : inS x y) : WIn (x * y) := by
  obtain ⟨h1, h2, h3⟩ := h
  have p0 : 0 ≤ x * y := Int.mul_nonneg h1 h2
  have p1 := Int.mul_le_mul hi.2 h3 h2 (by decide)
  unfold WIn; omega
end Go.Proofs.Ytjjclclianbnfaa
