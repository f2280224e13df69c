/- Tiers as two functions of the index: what Check answers, the size of a balance. No program in sight. -/
import Derived.Test.YtjjclclianbnfaaKeep
namespace Go.Proofs.Ytjjclclianbnfaa
open Go.RowKit

/-- A slice of structs of two ints: n elements, the fields f k and g k. -/
def Row2 (w : World) (A : Option Addr) (n : Nat) (f g : Nat → Int) : Prop :=
  0 < n → ∃ b off, A = some ⟨b, off, none⟩ ∧ b < w.heap.size ∧ ∀ k, k < n → w.cell? ⟨b, off + k * 2, none⟩ = some (.int .i64 (f k)) ∧ w.cell? ⟨b, off + k * 2 + 1, none⟩ = some (.int .i64 (g k))
theorem Row2.below {w w' : World} {A : Option Addr} {n : Nat} {f g : Nat → Int} (h : Row2 w A n f g) (hb : Below w.heap.size w w') : Row2 w' A n f g := fun hn => by
  obtain ⟨b, off, e, hlt, hc⟩ := h hn
  exact ⟨b, off, e, Nat.lt_of_lt_of_le hlt hb.size, fun k hk => ⟨(hb.cell (p := ⟨b, _, none⟩) hlt).trans (hc k hk).1, (hb.cell (p := ⟨b, _, none⟩) hlt).trans (hc k hk).2⟩⟩
/-- Both fields are ints. -/
def IB (n : Nat) (f g : Nat → Int) : Prop := ∀ k, k < n → IIn (f k) ∧ IIn (g k)

def inB (x y : Int) : Prop := 0 ≤ x ∧ x ≤ 1000000000000 ∧ 0 ≤ y ∧ y ≤ 1000000
instance (x y : Int) : Decidable (inB x y) := by unfold inB; exact inferInstance
def allB (n : Nat) (f g : Nat → Int) : Prop := ∀ k, k < n → inB (f k) (g k)
instance (n : Nat) (f g : Nat → Int) : Decidable (allB n f g) := by unfold allB; exact inferInstance
def ascB (n : Nat) (f : Nat → Int) : Prop := ∀ k, k < n - 1 → f k < f (k + 1)
instance (n : Nat) (f : Nat → Int) : Decidable (ascB n f) := by unfold ascB; exact inferInstance
/-- What Check answers. -/
def chk (n : Nat) (f g : Nat → Int) : Int := if 6 < n then 5 else if ¬ allB n f g then 1 else if ¬ ascB n f then 10 else if 0 < n ∧ f 0 ≠ 0 then 1 else 0
theorem chk_5 {n : Nat} {f g : Nat → Int} (h : 6 < n) : chk n f g = 5 := if_pos h
theorem chk_1 {n k : Nat} {f g : Nat → Int} (h : n ≤ 6) (hk : k < n) (hn : ¬ inB (f k) (g k)) : chk n f g = 1 := by
  unfold chk; rw [if_neg (by omega), if_pos (fun ha => hn (ha k hk))]
theorem chk_10 {n k : Nat} {f g : Nat → Int} (h : n ≤ 6) (ha : allB n f g) (hk : 1 ≤ k) (hk' : k < n) (hn : ¬ f (k - 1) < f k) : chk n f g = 10 := by
  unfold chk
  rw [if_neg (by omega), if_neg (not_not_intro ha), if_pos (fun hs => hn (by have := hs (k - 1) (by omega); rwa [show k - 1 + 1 = k from by omega] at this))]
theorem chk_01 {n : Nat} {f g : Nat → Int} (h : n ≤ 6) (ha : allB n f g) (hs : ascB n f) (hn : 0 < n) (h0 : f 0 ≠ 0) : chk n f g = 1 := by
  unfold chk; rw [if_neg (by omega), if_neg (not_not_intro ha), if_neg (not_not_intro hs), if_pos ⟨hn, h0⟩]
theorem chk_0 {n : Nat} {f g : Nat → Int} (h : n ≤ 6) (ha : allB n f g) (hs : ascB n f) (h0 : 0 < n → f 0 = 0) : chk n f g = 0 := by
  unfold chk; rw [if_neg (by omega), if_neg (not_not_intro ha), if_neg (not_not_intro hs), if_neg (fun hh => hh.2 (h0 hh.1))]
theorem chk_ok {n : Nat} {f g : Nat → Int} (h : chk n f g = 0) : n ≤ 6 ∧ allB n f g ∧ ascB n f ∧ (0 < n → f 0 = 0) := by
  unfold chk at h
  split at h
  · omega
  · split at h
    · omega
    · split at h
      · omega
      · split at h
        · omega
        · rename_i h1 h2 h3 h4
          refine ⟨by omega, Classical.not_not.1 h2, Classical.not_not.1 h3, fun hn => Classical.byContradiction fun hh => h4 ⟨hn, hh⟩⟩
theorem allB_succ {k : Nat} {f g : Nat → Int} (h : allB k f g) (hk : inB (f k) (g k)) : allB (k + 1) f g := fun j hj => by
  rcases Nat.lt_or_ge j k with h1 | h1
  · exact h j h1
  · obtain rfl : j = k := by omega
    exact hk
theorem ascB_succ {k : Nat} {f : Nat → Int} (hk1 : 1 ≤ k) (h : ascB k f) (hk : f (k - 1) < f k) : ascB (k + 1) f := fun j hj => by
  rcases Nat.lt_or_ge j (k - 1) with h1 | h1
  · exact h j (by omega)
  · obtain rfl : j = k - 1 := by omega
    rwa [show k - 1 + 1 = k from by omega]

/-- The size of a balance: its absolute value, the least int's is the greatest int. -/
def tsz (b : Int) : Int := if b < -9223372036854775807 then 9223372036854775807 else if b < 0 then -b else b
theorem tsz_bd {b : Int} (_h1 : -9223372036854775808 ≤ b) (h2 : b ≤ 9223372036854775807) : 0 ≤ tsz b ∧ tsz b ≤ 9223372036854775807 := by unfold tsz; split; omega; split <;> omega
end Go.Proofs.Ytjjclclianbnfaa
