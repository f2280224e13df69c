/- Contracts of package tier and of its reference, 6: Slices, all ways. -/
import Derived.Test.YtjjclclianbnfaaTe
namespace Go.Proofs.Ytjjclclianbnfaa
open Go.RowKit

theorem slRet_one {w w1 : World} {a r : Int} {t : TypeId} (hB : Below w.heap.size w w1) :
    SlRet [(a, r)] w (.returned (.slice (some ⟨w1.heap.size, 0, none⟩) 1 1)) (w1.alloc (.cells #[.int .i64 a, .int .i64 r] t)) := by
  refine ⟨some ⟨w1.heap.size, 0, none⟩, 1, rfl, fun _ => ⟨w1.heap.size, 0, rfl, by simp, fun k hk => ?_⟩, hB.alloc hB.size _⟩
  obtain rfl : k = 0 := by simp at hk; exact hk
  exact ⟨by simp [go_sem, fsts], by simp [go_sem, snds]⟩
set_option maxHeartbeats 400000 in
theorem tslices_nil (A : Option Addr) (n c : Nat) (f g : Nat → Int) (m : Bool) (b : Int) (b1 : -9223372036854775808 ≤ b) (b2 : b ≤ 9223372036854775807) (hl : n ≤ 140737488355328) (h : n = 0 ∨ chk n f g ≠ 0 ∨ tsz b = 0) (w : World) (hr : Row2 w A n f g) :
    Calls Try.prog 16 #[.slice A n c, .bool m, .int .i64 b] w (SlRet [] w) := by
  by_cases h0 : n = 0
  · subst h0
    clear h
    go_enter Try.func16, Try.ntmps16
    go_wp2_with fail
    refine (tsize_any b b1 b2 _).mono ?_
    rintro e w1 ⟨rfl, rfl⟩
    go_wp2_with fail
    go_ret
    exact slRet_nil (Below.refl _ _)
  have hnb : ((n : Int) == 0) = false := beq_eq_false_iff_ne.2 (by omega)
  by_cases hc0 : chk n f g = 0
  · have hz0 : tsz b = 0 := by omega
    have hzb : (tsz b == 0) = true := beq_iff_eq.2 hz0
    have HC := hide hc0
    clear hc0 hz0 h h0
    go_enter Try.func16, Try.ntmps16
    go_wp2_with fail
    refine (tsize_any b b1 b2 _).mono ?_
    rintro e w1 ⟨rfl, rfl⟩
    go_wp2_with fail
    refine (tcheck_any A n c f g hl _ hr).mono ?_
    rintro e w1 ⟨rfl, hb⟩
    rw [HC.out]
    have q1B : Below w.heap.size w w1 := (by refine Below.trans ?_ (hb.mono (by first | omega | (simp <;> omega))); (repeat (first | (with_reducible exact Below.refl _ _) | (with_reducible assumption) | ((with_reducible refine Below.alloc ?_ ?_ _); (rotate_left); (first | omega | (simp <;> omega))) | ((with_reducible refine Below.setCell ?_ ?_ _); (rotate_left); (first | omega | (simp <;> omega))) | (with_reducible refine Below.drew ?_) | (with_reducible refine below_drewN ?_ _))))
    have q1z := hb.size
    try simp at q1z
    have q1t : w.heap.size ≤ w1.heap.size := (by omega)
    have q1o : ∀ b o, b < w.heap.size → w1.cell? ⟨b, o, none⟩ = w.cell? ⟨b, o, none⟩ := fun b o h => q1B.cell (p := ⟨b, o, none⟩) h
    clear hb
    go_wp2_with fail
    go_ret
    exact slRet_nil q1B
  · have hcb : (chk n f g == 0) = false := beq_eq_false_iff_ne.2 hc0
    clear hc0 h h0
    go_enter Try.func16, Try.ntmps16
    go_wp2_with fail
    refine (tsize_any b b1 b2 _).mono ?_
    rintro e w1 ⟨rfl, rfl⟩
    go_wp2_with fail
    refine (tcheck_any A n c f g hl _ hr).mono ?_
    rintro e w1 ⟨rfl, hb⟩
    have q1B : Below w.heap.size w w1 := (by refine Below.trans ?_ (hb.mono (by first | omega | (simp <;> omega))); (repeat (first | (with_reducible exact Below.refl _ _) | (with_reducible assumption) | ((with_reducible refine Below.alloc ?_ ?_ _); (rotate_left); (first | omega | (simp <;> omega))) | ((with_reducible refine Below.setCell ?_ ?_ _); (rotate_left); (first | omega | (simp <;> omega))) | (with_reducible refine Below.drew ?_) | (with_reducible refine below_drewN ?_ _))))
    have q1z := hb.size
    try simp at q1z
    have q1t : w.heap.size ≤ w1.heap.size := (by omega)
    have q1o : ∀ b o, b < w.heap.size → w1.cell? ⟨b, o, none⟩ = w.cell? ⟨b, o, none⟩ := fun b o h => q1B.cell (p := ⟨b, o, none⟩) h
    clear hb
    go_wp2_with fail
    go_ret
    exact slRet_nil q1B
set_option maxHeartbeats 400000 in
theorem tslices_one (A : Option Addr) (n c : Nat) (f g : Nat → Int) (b : Int) (b1 : -9223372036854775808 ≤ b) (b2 : b ≤ 9223372036854775807) (hn0 : 0 < n) (hc0 : chk n f g = 0) (hz0 : tsz b ≠ 0) (w : World) (hr : Row2 w A n f g) :
    Calls Try.prog 16 #[.slice A n c, .bool false, .int .i64 b] w (SlRet [(tsz b, rate n f g b)] w) := by
  have hn := (chk_ok hc0).1
  have hzb : (tsz b == 0) = false := beq_eq_false_iff_ne.2 hz0
  have hnb : ((n : Int) == 0) = false := beq_eq_false_iff_ne.2 (by omega)
  have HC := hide hc0
  clear hc0 hz0
  go_enter Try.func16, Try.ntmps16
  go_wp2_with fail
  refine (tsize_any b b1 b2 _).mono ?_
  rintro e w1 ⟨rfl, rfl⟩
  go_wp2_with fail
  refine (tcheck_any A n c f g (by omega) _ hr).mono ?_
  rintro e w1 ⟨rfl, hb⟩
  rw [HC.out]
  have q1B : Below w.heap.size w w1 := (by refine Below.trans ?_ (hb.mono (by first | omega | (simp <;> omega))); (repeat (first | (with_reducible exact Below.refl _ _) | (with_reducible assumption) | ((with_reducible refine Below.alloc ?_ ?_ _); (rotate_left); (first | omega | (simp <;> omega))) | ((with_reducible refine Below.setCell ?_ ?_ _); (rotate_left); (first | omega | (simp <;> omega))) | (with_reducible refine Below.drew ?_) | (with_reducible refine below_drewN ?_ _))))
  have q1z := hb.size
  try simp at q1z
  have q1t : w.heap.size ≤ w1.heap.size := (by omega)
  have q1o : ∀ b o, b < w.heap.size → w1.cell? ⟨b, o, none⟩ = w.cell? ⟨b, o, none⟩ := fun b o h => q1B.cell (p := ⟨b, o, none⟩) h
  clear hb
  go_wp2_with fail
  refine (trate_any A n c f g b b1 b2 (by omega) _ (hr.below q1B)).mono ?_
  rintro e w2 ⟨rfl, hb⟩
  have q2B := q1B.trans (hb.mono q1t)
  clear hb
  go_wp2_with fail
  go_ret
  exact slRet_one q2B
/-- tier.Slices: the parts of a balance. -/
theorem tslices_any (A : Option Addr) (n c : Nat) (f g : Nat → Int) (m : Bool) (b : Int) (b1 : -9223372036854775808 ≤ b) (b2 : b ≤ 9223372036854775807) (hl : n ≤ 140737488355328) (w : World) (hr : Row2 w A n f g) :
    Calls Try.prog 16 #[.slice A n c, .bool m, .int .i64 b] w (SlRet (slices n f g m b (rate n f g b)) w) := by
  by_cases h : n = 0 ∨ chk n f g ≠ 0 ∨ tsz b = 0
  · rw [slices_nil h]
    exact tslices_nil A n c f g m b b1 b2 hl h w hr
  · have h0 : 0 < n := by omega
    have h1 : chk n f g = 0 := by omega
    have h2 : tsz b ≠ 0 := by omega
    cases m
    · rw [slices_one h0 h1 h2]
      exact tslices_one A n c f g b b1 b2 h0 h1 h2 w hr
    · rw [slices_all h0 h1 h2]
      exact tslices_all A n c f g b b1 b2 h0 h1 h2 w hr
end Go.Proofs.Ytjjclclianbnfaa
