/- The walks of the first statements about package tier: each returns true, whatever the input, and writes nothing that was there. -/
import Derived.Test.YtjjclclianbnfaaTi
namespace Go.Proofs.Ytjjclclianbnfaa
open Go.RowKit

theorem tcheck_all (A : Option Addr) (n c : Nat) (f g : Nat → Int) (w : World) (hr : Row2 w A n f g) :
    Calls Try.prog 10 #[.slice A n c] w fun e w' => e = .returned (.int .i64 (chk n f g)) ∧ Below w.heap.size w w' := by
  by_cases hn : 6 < n
  · have HC := hide (chk_5 (f := f) (g := g) hn)
    go_enter Try.func10, Try.ntmps10
    go_wp2_with fail
    go_ret
    exact ⟨ret_int HC.out.symm, by (repeat (first | (with_reducible exact Below.refl _ _) | (with_reducible assumption) | ((with_reducible refine Below.alloc ?_ ?_ _); (rotate_left); (first | omega | (simp <;> omega))) | ((with_reducible refine Below.setCell ?_ ?_ _); (rotate_left); (first | omega | (simp <;> omega))) | (with_reducible refine Below.drew ?_) | (with_reducible refine below_drewN ?_ _)))⟩
  · exact tcheck_any A n c f g (by omega) w hr
theorem rcheck_all (A : Option Addr) (n c : Nat) (f g : Nat → Int) (w : World) (hr : Row2 w A n f g) :
    Calls Try.prog 11 #[.slice A n c] w fun e w' => e = .returned (.int .i64 (chk n f g)) ∧ Below w.heap.size w w' := by
  by_cases hn : 6 < n
  · have HC := hide (chk_5 (f := f) (g := g) hn)
    go_enter Try.func11, Try.ntmps11
    go_wp2_with fail
    go_ret
    exact ⟨ret_int HC.out.symm, by (repeat (first | (with_reducible exact Below.refl _ _) | (with_reducible assumption) | ((with_reducible refine Below.alloc ?_ ?_ _); (rotate_left); (first | omega | (simp <;> omega))) | ((with_reducible refine Below.setCell ?_ ?_ _); (rotate_left); (first | omega | (simp <;> omega))) | (with_reducible refine Below.drew ?_) | (with_reducible refine below_drewN ?_ _)))⟩
  · exact rcheck_any A n c f g (by omega) w hr
theorem tgrains_all (A : Option Addr) (n c : Nat) (f g : Nat → Int) (t : Int) (w : World) (hr : Row2 w A n f g) (hib : IB n f g) :
    Calls Try.prog 18 #[.slice A n c, .int .i64 t] w fun e w' => e = .returned (.tuple #[.agg #[.int .i64 (hiW (grR n f g t)), .int .u64 (loW (grR n f g t))], .int .i64 (grE n f g t)]) ∧ Below w.heap.size w w' := by
  by_cases hn : 6 < n
  · have HC := hide (gr_5 (f := f) (g := g) (t := t) hn)
    go_enter Try.func18, Try.ntmps18
    go_wp2_with fail
    refine bodyPost_ret (by simp [results, Try.results18, go_sem, *] <;> rfl) rfl ⟨?_, ?_⟩
    · rw [HC.out.1, HC.out.2]; rfl
    (repeat (first | (with_reducible exact Below.refl _ _) | (with_reducible assumption) | ((with_reducible refine Below.alloc ?_ ?_ _); (rotate_left); (first | omega | (simp <;> omega))) | ((with_reducible refine Below.setCell ?_ ?_ _); (rotate_left); (first | omega | (simp <;> omega))) | (with_reducible refine Below.drew ?_) | (with_reducible refine below_drewN ?_ _)))
  · exact tgrains_any A n c f g t (by omega) w hr hib
theorem rgrains_all (A : Option Addr) (n c : Nat) (f g : Nat → Int) (t : Int) (w : World) (hr : Row2 w A n f g) (hib : IB n f g) :
    Calls Try.prog 19 #[.slice A n c, .int .i64 t] w fun e w' => e = .returned (.tuple #[.agg #[.int .i64 (hiW (grR n f g t)), .int .u64 (loW (grR n f g t))], .int .i64 (grE n f g t)]) ∧ Below w.heap.size w w' := by
  by_cases hn : 6 < n
  · have HC := hide (gr_5 (f := f) (g := g) (t := t) hn)
    go_enter Try.func19, Try.ntmps19
    go_wp2_with fail
    refine bodyPost_ret (by simp [results, Try.results19, go_sem, *] <;> rfl) rfl ⟨?_, ?_⟩
    · rw [HC.out.1, HC.out.2]; rfl
    (repeat (first | (with_reducible exact Below.refl _ _) | (with_reducible assumption) | ((with_reducible refine Below.alloc ?_ ?_ _); (rotate_left); (first | omega | (simp <;> omega))) | ((with_reducible refine Below.setCell ?_ ?_ _); (rotate_left); (first | omega | (simp <;> omega))) | (with_reducible refine Below.drew ?_) | (with_reducible refine below_drewN ?_ _)))
  · exact rgrains_any A n c f g t (by omega) w hr hib
theorem sls_len (n : Nat) (f g : Nat → Int) (sz : Int) : ∀ k, (sls n f g sz k).length ≤ k
  | 0 => by simp [sls]
  | k + 1 => by
    have ih := sls_len n f g sz k
    cases h : sl1 n f g sz k with
    | none => rw [sls_none h]; omega
    | some p => rw [sls_some h, List.length_append]; simp; exact ih
theorem slices_len (n : Nat) (f g : Nat → Int) (m : Bool) (b r : Int) : (slices n f g m b r).length ≤ n + 1 := by
  unfold slices
  split
  · simp
  · split
    · simp
    · exact Nat.le_trans (sls_len n f g _ n) (by omega)
theorem walk_checks (A : Option Addr) (n c : Nat) (f g : Nat → Int) (w : World) (hr : Row2 w A n f g) :
    Calls Try.prog 3 #[.slice A n c] w fun e w' => e = .returned (.bool true) ∧ Below w.heap.size w w' := by
  by_cases hn : 100 < n
  · go_enter Try.func3, Try.ntmps3
    go_wp2_with fail
    refine (live_any _).mono ?_
    rintro e w1 ⟨rfl, hb⟩
    go_wp2_with fail
    go_ret
    exact ⟨rfl, hb⟩
  · go_enter Try.func3, Try.ntmps3
    go_wp2_with fail
    refine (tcheck_all A n c f g _ hr).mono ?_
    rintro e w1 ⟨rfl, hb1⟩
    go_wp2_with fail
    refine (rcheck_all A n c f g _ (hr.below hb1)).mono ?_
    rintro e w2 ⟨rfl, hb2⟩
    go_wp2_with fail
    refine (live_any _).mono ?_
    rintro e w3 ⟨rfl, hb3⟩
    go_wp2_with fail
    go_ret
    exact ⟨rfl, (hb1.trans (hb2.mono hb1.size)).trans (hb3.mono (Nat.le_trans hb1.size hb2.size))⟩
theorem walk_rates (A : Option Addr) (n c : Nat) (f g : Nat → Int) (b : Int) (b1 : -9223372036854775808 ≤ b) (b2 : b ≤ 9223372036854775807) (w : World) (hr : Row2 w A n f g) :
    Calls Try.prog 4 #[.slice A n c, .int .i64 b] w fun e w' => e = .returned (.bool true) ∧ Below w.heap.size w w' := by
  by_cases hn : 100 < n
  · go_enter Try.func4, Try.ntmps4
    go_wp2_with fail
    refine (live_any _).mono ?_
    rintro e w1 ⟨rfl, hb⟩
    go_wp2_with fail
    go_ret
    exact ⟨rfl, hb⟩
  · have hl : n ≤ 140737488355328 := by omega
    go_enter Try.func4, Try.ntmps4
    go_wp2_with fail
    refine (trate_any A n c f g b b1 b2 hl _ hr).mono ?_
    rintro e w1 ⟨rfl, hb1⟩
    go_wp2_with fail
    refine (rrate_any A n c f g b b1 b2 hl _ (hr.below hb1)).mono ?_
    rintro e w2 ⟨rfl, hb2⟩
    go_wp2_with fail
    refine (live_any _).mono ?_
    rintro e w3 ⟨rfl, hb3⟩
    go_wp2_with fail
    go_ret
    exact ⟨rfl, (hb1.trans (hb2.mono hb1.size)).trans (hb3.mono (Nat.le_trans hb1.size hb2.size))⟩
theorem walk_slices (A : Option Addr) (n c : Nat) (f g : Nat → Int) (m : Bool) (b : Int) (b1 : -9223372036854775808 ≤ b) (b2 : b ≤ 9223372036854775807) (w : World) (hr : Row2 w A n f g) :
    Calls Try.prog 5 #[.slice A n c, .bool m, .int .i64 b] w fun e w' => e = .returned (.bool true) ∧ Below w.heap.size w w' := by
  by_cases hn : 100 < n
  · go_enter Try.func5, Try.ntmps5
    go_wp2_with fail
    refine (live_any _).mono ?_
    rintro e w1 ⟨rfl, hb⟩
    go_wp2_with fail
    go_ret
    exact ⟨rfl, hb⟩
  · have hl : n ≤ 140737488355328 := by omega
    have hk : (slices n f g m b (rate n f g b)).length ≤ 140737488355328 := Nat.le_trans (slices_len n f g m b _) (by omega)
    generalize hL : slices n f g m b (rate n f g b) = L at hk
    have HL := hide hL
    clear hL
    go_enter Try.func5, Try.ntmps5
    go_wp2_with fail
    refine (tslices_any A n c f g m b b1 b2 hl _ hr).mono ?_
    rw [HL.out]
    rintro e w1 ⟨A1, c1, rfl, hA1, hb1⟩
    go_wp2_with fail
    refine (rslices_any A n c f g m b b1 b2 hl _ (hr.below hb1)).mono ?_
    rw [HL.out]
    rintro e w2 ⟨A2, c2, rfl, hA2, hb2⟩
    go_wp2_with fail
    refine (live_same hk A1 A2 _ (hA1.below hb2) hA2).mono ?_
    rintro e w3 ⟨rfl, hb3⟩
    go_wp2_with fail
    refine (live_any _).mono ?_
    rintro e w4 ⟨rfl, hb4⟩
    go_wp2_with fail
    go_ret
    exact ⟨rfl, ((hb1.trans (hb2.mono hb1.size)).trans (hb3.mono (Nat.le_trans hb1.size hb2.size))).trans (hb4.mono (Nat.le_trans hb1.size (Nat.le_trans hb2.size hb3.size)))⟩
theorem walk_grains (A : Option Addr) (n c : Nat) (f g : Nat → Int) (t : Int) (w : World) (hr : Row2 w A n f g) (hib : IB n f g) :
    Calls Try.prog 6 #[.slice A n c, .int .i64 t] w fun e w' => e = .returned (.bool true) ∧ Below w.heap.size w w' := by
  by_cases hn : 100 < n
  · go_enter Try.func6, Try.ntmps6
    go_wp2_with fail
    refine (live_any _).mono ?_
    rintro e w1 ⟨rfl, hb⟩
    go_wp2_with fail
    go_ret
    exact ⟨rfl, hb⟩
  · go_enter Try.func6, Try.ntmps6
    go_wp2_with fail
    refine (tgrains_all A n c f g t _ hr hib).mono ?_
    rintro e w1 ⟨rfl, hb⟩
    have q1B : Below w.heap.size w w1 := (by refine Below.trans ?_ (hb.mono (by first | omega | (simp <;> omega))); (repeat (first | (with_reducible exact Below.refl _ _) | (with_reducible assumption) | ((with_reducible refine Below.alloc ?_ ?_ _); (rotate_left); (first | omega | (simp <;> omega))) | ((with_reducible refine Below.setCell ?_ ?_ _); (rotate_left); (first | omega | (simp <;> omega))) | (with_reducible refine Below.drew ?_) | (with_reducible refine below_drewN ?_ _))))
    have q1z := hb.size
    try simp at q1z
    have q1t : w.heap.size ≤ w1.heap.size := (by omega)
    have q1o : ∀ b o, b < w.heap.size → w1.cell? ⟨b, o, none⟩ = w.cell? ⟨b, o, none⟩ := fun b o h => q1B.cell (p := ⟨b, o, none⟩) h
    clear hb
    have hr1 := hr.below q1B
    have hnn : ¬ w1.heap.size + 1 = w1.heap.size := by omega
    go_wp2_with fail
    refine (rgrains_all A n c f g t _ (hr1.below (by (repeat (first | (with_reducible exact Below.refl _ _) | (with_reducible assumption) | ((with_reducible refine Below.alloc ?_ ?_ _); (rotate_left); (first | omega | (simp <;> omega))) | ((with_reducible refine Below.setCell ?_ ?_ _); (rotate_left); (first | omega | (simp <;> omega))) | (with_reducible refine Below.drew ?_) | (with_reducible refine below_drewN ?_ _))))) hib).mono ?_
    rintro e w2 ⟨rfl, hb⟩
    have q2B : Below w.heap.size w w2 := (by refine Below.trans ?_ (hb.mono (by first | omega | (simp <;> omega))); (repeat (first | (with_reducible exact Below.refl _ _) | (with_reducible assumption) | ((with_reducible refine Below.alloc ?_ ?_ _); (rotate_left); (first | omega | (simp <;> omega))) | ((with_reducible refine Below.setCell ?_ ?_ _); (rotate_left); (first | omega | (simp <;> omega))) | (with_reducible refine Below.drew ?_) | (with_reducible refine below_drewN ?_ _))))
    have q2z := hb.size
    try simp at q2z
    have q2t : w.heap.size ≤ w2.heap.size := (by omega)
    have q2s0 : w1.heap.size < w2.heap.size := (by omega)
    have q2n0_0 : ¬ w2.heap.size = w1.heap.size := (by omega)
    have q2n0_1 : ¬ w2.heap.size + 1 = w1.heap.size := (by omega)
    have q2n0_2 : ¬ w2.heap.size + 2 = w1.heap.size := (by omega)
    have q2c0_0 := hb.cell (p := ⟨w1.heap.size, 0, none⟩) (by first | omega | (simp <;> omega))
    simp [go_sem, *] at q2c0_0
    have q2c0_1 := hb.cell (p := ⟨w1.heap.size, 1, none⟩) (by first | omega | (simp <;> omega))
    simp [go_sem, *] at q2c0_1
    have q2f0 := fun o => hb.frozen (p := ⟨w1.heap.size, o, none⟩) (by first | omega | (simp <;> omega))
    simp [go_sem, *] at q2f0
    have q2o : ∀ b o, b < w.heap.size → w2.cell? ⟨b, o, none⟩ = w.cell? ⟨b, o, none⟩ := fun b o h => q2B.cell (p := ⟨b, o, none⟩) h
    clear hb q1o q1z q1B
    go_wp2_with fail
    refine (live_any _).mono ?_
    rintro e w3 ⟨rfl, hb⟩
    have q3B : Below w.heap.size w w3 := (by refine Below.trans ?_ (hb.mono (by first | omega | (simp <;> omega))); (repeat (first | (with_reducible exact Below.refl _ _) | (with_reducible assumption) | ((with_reducible refine Below.alloc ?_ ?_ _); (rotate_left); (first | omega | (simp <;> omega))) | ((with_reducible refine Below.setCell ?_ ?_ _); (rotate_left); (first | omega | (simp <;> omega))) | (with_reducible refine Below.drew ?_) | (with_reducible refine below_drewN ?_ _))))
    have q3z := hb.size
    try simp at q3z
    have q3t : w.heap.size ≤ w3.heap.size := (by omega)
    have q3o : ∀ b o, b < w.heap.size → w3.cell? ⟨b, o, none⟩ = w.cell? ⟨b, o, none⟩ := fun b o h => q3B.cell (p := ⟨b, o, none⟩) h
    clear hb q2o q2f0 q2c0_1 q2c0_0 q2s0 q2z q2B
    go_wp2_with fail
    go_ret
    exact ⟨rfl, by (repeat (first | (with_reducible exact Below.refl _ _) | (with_reducible assumption) | ((with_reducible refine Below.alloc ?_ ?_ _); (rotate_left); (first | omega | (simp <;> omega))) | ((with_reducible refine Below.setCell ?_ ?_ _); (rotate_left); (first | omega | (simp <;> omega))) | (with_reducible refine Below.drew ?_) | (with_reducible refine below_drewN ?_ _)))⟩
end Go.Proofs.Ytjjclclianbnfaa
