/- Contracts of package shard and its reference, 8: Check. -/
import Derived.Test.YtapfofnicbhoeaaDoorShG
import Derived.Laws.StructEq
namespace Go.Proofs.YtapfofnicbhoeaaDoor
open Go.RowKit

theorem chkR_off {nx sh rs : Int} (h : ¬ (nx = 0 ∧ sh = 0 ∧ rs = 0)) : chkR false nx sh rs = 1 := by unfold chkR; rw [if_neg (by simp), if_neg h]
theorem chkR_ok {ac : Bool} {nx sh rs : Int} (h : nxB ac nx sh = true) (hr : 0 ≤ rs) : chkR ac nx sh rs = 0 := by
  unfold chkR; rw [if_pos (nxB_yes h).1, if_pos ⟨h, hr⟩]
theorem chkR_bad {nx sh rs : Int} (h : nxB true nx sh = true → rs < 0) : chkR true nx sh rs = 1 := by
  unfold chkR; rw [if_pos rfl, if_neg (fun hh => by have := h hh.1; omega)]
theorem check_any (ac : Bool) (nx sh rs : Int) (w : World) :
    Calls Tryd.prog 18 #[.agg #[.bool ac, .int .i64 nx, .int .i64 sh, .int .i64 rs]] w fun e w' => e = .returned (.int .i64 (chkR ac nx sh rs)) ∧ Below w.heap.size w w' := by
  cases ac with
  | false =>
    by_cases h : nx = 0 ∧ sh = 0 ∧ rs = 0
    · obtain ⟨rfl, rfl, rfl⟩ := h
      go_enter Tryd.func18, Tryd.ntmps18
      go_wp2_with fail
      go_ret
      exact ⟨rfl, by (repeat (first | (with_reducible exact Below.refl _ _) | (with_reducible assumption) | ((with_reducible refine Below.alloc ?_ ?_ _); (rotate_left); (first | omega | (simp <;> omega))) | ((with_reducible refine Below.setCell ?_ ?_ _); (rotate_left); (first | omega | (simp <;> omega))) | (with_reducible refine Below.drew ?_) | (with_reducible refine below_drewN ?_ _)))⟩
    · have HC := hide (chkR_off h)
      have HB := hide (show nxB false nx sh = false from rfl)
      have hcase : (nx == 0) = false ∨ nx = 0 ∧ (sh == 0) = false ∨ nx = 0 ∧ sh = 0 ∧ (rs == 0) = false := by
        rcases Decidable.em (nx = 0) with h1 | h1
        · rcases Decidable.em (sh = 0) with h2 | h2
          · exact .inr (.inr ⟨h1, h2, beq_eq_false_iff_ne.2 (fun h3 => h ⟨h1, h2, h3⟩)⟩)
          · exact .inr (.inl ⟨h1, beq_eq_false_iff_ne.2 h2⟩)
        · exact .inl (beq_eq_false_iff_ne.2 h1)
      clear h
      rcases hcase with h1 | ⟨rfl, h1⟩ | ⟨rfl, rfl, h1⟩
      · go_enter Tryd.func18, Tryd.ntmps18
        go_wp2_with fail
        go_ret
        exact ⟨by rw [HC.out]; rfl, by (repeat (first | (with_reducible exact Below.refl _ _) | (with_reducible assumption) | ((with_reducible refine Below.alloc ?_ ?_ _); (rotate_left); (first | omega | (simp <;> omega))) | ((with_reducible refine Below.setCell ?_ ?_ _); (rotate_left); (first | omega | (simp <;> omega))) | (with_reducible refine Below.drew ?_) | (with_reducible refine below_drewN ?_ _)))⟩
      · go_enter Tryd.func18, Tryd.ntmps18
        go_wp2_with fail
        go_ret
        exact ⟨by rw [HC.out]; rfl, by (repeat (first | (with_reducible exact Below.refl _ _) | (with_reducible assumption) | ((with_reducible refine Below.alloc ?_ ?_ _); (rotate_left); (first | omega | (simp <;> omega))) | ((with_reducible refine Below.setCell ?_ ?_ _); (rotate_left); (first | omega | (simp <;> omega))) | (with_reducible refine Below.drew ?_) | (with_reducible refine below_drewN ?_ _)))⟩
      · go_enter Tryd.func18, Tryd.ntmps18
        go_wp2_with fail
        go_ret
        exact ⟨by rw [HC.out]; rfl, by (repeat (first | (with_reducible exact Below.refl _ _) | (with_reducible assumption) | ((with_reducible refine Below.alloc ?_ ?_ _); (rotate_left); (first | omega | (simp <;> omega))) | ((with_reducible refine Below.setCell ?_ ?_ _); (rotate_left); (first | omega | (simp <;> omega))) | (with_reducible refine Below.drew ?_) | (with_reducible refine below_drewN ?_ _)))⟩
  | true =>
    by_cases hok : nxB true nx sh = true
    · have HB := hide hok
      by_cases hr : 0 ≤ rs
      · have HC := hide (chkR_ok hok hr)
        clear hok
        go_enter Tryd.func18, Tryd.ntmps18
        go_wp2_with fail
        refine (next_any _ _ _ _ _).mono ?_
        rintro e w1 ⟨rfl, hb⟩
        have q1B : Below w.heap.size w w1 := (by refine Below.trans ?_ (hb.mono (by first | omega | (simp <;> omega))); (repeat (first | (with_reducible exact Below.refl _ _) | (with_reducible assumption) | ((with_reducible refine Below.alloc ?_ ?_ _); (rotate_left); (first | omega | (simp <;> omega))) | ((with_reducible refine Below.setCell ?_ ?_ _); (rotate_left); (first | omega | (simp <;> omega))) | (with_reducible refine Below.drew ?_) | (with_reducible refine below_drewN ?_ _))))
        have q1z := hb.size
        try simp at q1z
        have q1t : w.heap.size ≤ w1.heap.size := (by omega)
        have q1s0 : w.heap.size < w1.heap.size := (by omega)
        have q1n0_0 : ¬ w1.heap.size = w.heap.size := (by omega)
        have q1n0_1 : ¬ w1.heap.size + 1 = w.heap.size := (by omega)
        have q1n0_2 : ¬ w1.heap.size + 2 = w.heap.size := (by omega)
        have q1c0_0 := hb.cell (p := ⟨w.heap.size, 0, none⟩) (by first | omega | (simp <;> omega))
        simp [go_sem, *] at q1c0_0
        have q1c0_1 := hb.cell (p := ⟨w.heap.size, 1, none⟩) (by first | omega | (simp <;> omega))
        simp [go_sem, *] at q1c0_1
        have q1c0_2 := hb.cell (p := ⟨w.heap.size, 2, none⟩) (by first | omega | (simp <;> omega))
        simp [go_sem, *] at q1c0_2
        have q1c0_3 := hb.cell (p := ⟨w.heap.size, 3, none⟩) (by first | omega | (simp <;> omega))
        simp [go_sem, *] at q1c0_3
        have q1f0 := fun o => hb.frozen (p := ⟨w.heap.size, o, none⟩) (by first | omega | (simp <;> omega))
        simp [go_sem, *] at q1f0
        have q1o : ∀ b o, b < w.heap.size → w1.cell? ⟨b, o, none⟩ = w.cell? ⟨b, o, none⟩ := fun b o h => q1B.cell (p := ⟨b, o, none⟩) h
        clear hb
        rw [HB.out]
        go_wp2_with fail
        go_ret
        exact ⟨by rw [HC.out]; rfl, by (repeat (first | (with_reducible exact Below.refl _ _) | (with_reducible assumption) | ((with_reducible refine Below.alloc ?_ ?_ _); (rotate_left); (first | omega | (simp <;> omega))) | ((with_reducible refine Below.setCell ?_ ?_ _); (rotate_left); (first | omega | (simp <;> omega))) | (with_reducible refine Below.drew ?_) | (with_reducible refine below_drewN ?_ _)))⟩
      · have HC := hide (chkR_bad (nx := nx) (sh := sh) (rs := rs) (fun _ => by omega))
        have hr2 : rs < 0 := by omega
        clear hok hr
        go_enter Tryd.func18, Tryd.ntmps18
        go_wp2_with fail
        refine (next_any _ _ _ _ _).mono ?_
        rintro e w1 ⟨rfl, hb⟩
        have q1B : Below w.heap.size w w1 := (by refine Below.trans ?_ (hb.mono (by first | omega | (simp <;> omega))); (repeat (first | (with_reducible exact Below.refl _ _) | (with_reducible assumption) | ((with_reducible refine Below.alloc ?_ ?_ _); (rotate_left); (first | omega | (simp <;> omega))) | ((with_reducible refine Below.setCell ?_ ?_ _); (rotate_left); (first | omega | (simp <;> omega))) | (with_reducible refine Below.drew ?_) | (with_reducible refine below_drewN ?_ _))))
        have q1z := hb.size
        try simp at q1z
        have q1t : w.heap.size ≤ w1.heap.size := (by omega)
        have q1s0 : w.heap.size < w1.heap.size := (by omega)
        have q1n0_0 : ¬ w1.heap.size = w.heap.size := (by omega)
        have q1n0_1 : ¬ w1.heap.size + 1 = w.heap.size := (by omega)
        have q1n0_2 : ¬ w1.heap.size + 2 = w.heap.size := (by omega)
        have q1c0_0 := hb.cell (p := ⟨w.heap.size, 0, none⟩) (by first | omega | (simp <;> omega))
        simp [go_sem, *] at q1c0_0
        have q1c0_1 := hb.cell (p := ⟨w.heap.size, 1, none⟩) (by first | omega | (simp <;> omega))
        simp [go_sem, *] at q1c0_1
        have q1c0_2 := hb.cell (p := ⟨w.heap.size, 2, none⟩) (by first | omega | (simp <;> omega))
        simp [go_sem, *] at q1c0_2
        have q1c0_3 := hb.cell (p := ⟨w.heap.size, 3, none⟩) (by first | omega | (simp <;> omega))
        simp [go_sem, *] at q1c0_3
        have q1f0 := fun o => hb.frozen (p := ⟨w.heap.size, o, none⟩) (by first | omega | (simp <;> omega))
        simp [go_sem, *] at q1f0
        have q1o : ∀ b o, b < w.heap.size → w1.cell? ⟨b, o, none⟩ = w.cell? ⟨b, o, none⟩ := fun b o h => q1B.cell (p := ⟨b, o, none⟩) h
        clear hb
        rw [HB.out]
        go_wp2_with fail
        go_ret
        exact ⟨by rw [HC.out]; rfl, by (repeat (first | (with_reducible exact Below.refl _ _) | (with_reducible assumption) | ((with_reducible refine Below.alloc ?_ ?_ _); (rotate_left); (first | omega | (simp <;> omega))) | ((with_reducible refine Below.setCell ?_ ?_ _); (rotate_left); (first | omega | (simp <;> omega))) | (with_reducible refine Below.drew ?_) | (with_reducible refine below_drewN ?_ _)))⟩
    · have HB := hide (show nxB true nx sh = false by simpa using hok)
      have HC := hide (chkR_bad (nx := nx) (sh := sh) (rs := rs) (fun h => absurd h hok))
      clear hok
      go_enter Tryd.func18, Tryd.ntmps18
      go_wp2_with fail
      refine (next_any _ _ _ _ _).mono ?_
      rintro e w1 ⟨rfl, hb⟩
      have q1B : Below w.heap.size w w1 := (by refine Below.trans ?_ (hb.mono (by first | omega | (simp <;> omega))); (repeat (first | (with_reducible exact Below.refl _ _) | (with_reducible assumption) | ((with_reducible refine Below.alloc ?_ ?_ _); (rotate_left); (first | omega | (simp <;> omega))) | ((with_reducible refine Below.setCell ?_ ?_ _); (rotate_left); (first | omega | (simp <;> omega))) | (with_reducible refine Below.drew ?_) | (with_reducible refine below_drewN ?_ _))))
      have q1z := hb.size
      try simp at q1z
      have q1t : w.heap.size ≤ w1.heap.size := (by omega)
      have q1s0 : w.heap.size < w1.heap.size := (by omega)
      have q1n0_0 : ¬ w1.heap.size = w.heap.size := (by omega)
      have q1n0_1 : ¬ w1.heap.size + 1 = w.heap.size := (by omega)
      have q1n0_2 : ¬ w1.heap.size + 2 = w.heap.size := (by omega)
      have q1c0_0 := hb.cell (p := ⟨w.heap.size, 0, none⟩) (by first | omega | (simp <;> omega))
      simp [go_sem, *] at q1c0_0
      have q1c0_1 := hb.cell (p := ⟨w.heap.size, 1, none⟩) (by first | omega | (simp <;> omega))
      simp [go_sem, *] at q1c0_1
      have q1c0_2 := hb.cell (p := ⟨w.heap.size, 2, none⟩) (by first | omega | (simp <;> omega))
      simp [go_sem, *] at q1c0_2
      have q1c0_3 := hb.cell (p := ⟨w.heap.size, 3, none⟩) (by first | omega | (simp <;> omega))
      simp [go_sem, *] at q1c0_3
      have q1f0 := fun o => hb.frozen (p := ⟨w.heap.size, o, none⟩) (by first | omega | (simp <;> omega))
      simp [go_sem, *] at q1f0
      have q1o : ∀ b o, b < w.heap.size → w1.cell? ⟨b, o, none⟩ = w.cell? ⟨b, o, none⟩ := fun b o h => q1B.cell (p := ⟨b, o, none⟩) h
      clear hb
      rw [HB.out]
      go_wp2_with fail
      go_ret
      exact ⟨by rw [HC.out]; rfl, by (repeat (first | (with_reducible exact Below.refl _ _) | (with_reducible assumption) | ((with_reducible refine Below.alloc ?_ ?_ _); (rotate_left); (first | omega | (simp <;> omega))) | ((with_reducible refine Below.setCell ?_ ?_ _); (rotate_left); (first | omega | (simp <;> omega))) | (with_reducible refine Below.drew ?_) | (with_reducible refine below_drewN ?_ _)))⟩
theorem rcheck_any (ac : Bool) (nx sh rs : Int) (w : World) :
    Calls Tryd.prog 19 #[.agg #[.bool ac, .int .i64 nx, .int .i64 sh, .int .i64 rs]] w fun e w' => e = .returned (.int .i64 (chkR ac nx sh rs)) ∧ Below w.heap.size w w' := by
  cases ac with
  | false =>
    by_cases h : nx = 0 ∧ sh = 0 ∧ rs = 0
    · obtain ⟨rfl, rfl, rfl⟩ := h
      go_enter Tryd.func19, Tryd.ntmps19
      go_wp2_with fail
      go_ret
      exact ⟨rfl, by (repeat (first | (with_reducible exact Below.refl _ _) | (with_reducible assumption) | ((with_reducible refine Below.alloc ?_ ?_ _); (rotate_left); (first | omega | (simp <;> omega))) | ((with_reducible refine Below.setCell ?_ ?_ _); (rotate_left); (first | omega | (simp <;> omega))) | (with_reducible refine Below.drew ?_) | (with_reducible refine below_drewN ?_ _)))⟩
    · have HC := hide (chkR_off h)
      have HB := hide (show nxB false nx sh = false from rfl)
      have hcase : (nx == 0) = false ∨ nx = 0 ∧ (sh == 0) = false ∨ nx = 0 ∧ sh = 0 ∧ (rs == 0) = false := by
        rcases Decidable.em (nx = 0) with h1 | h1
        · rcases Decidable.em (sh = 0) with h2 | h2
          · exact .inr (.inr ⟨h1, h2, beq_eq_false_iff_ne.2 (fun h3 => h ⟨h1, h2, h3⟩)⟩)
          · exact .inr (.inl ⟨h1, beq_eq_false_iff_ne.2 h2⟩)
        · exact .inl (beq_eq_false_iff_ne.2 h1)
      clear h
      rcases hcase with h1 | ⟨rfl, h1⟩ | ⟨rfl, rfl, h1⟩
      · go_enter Tryd.func19, Tryd.ntmps19
        go_wp2_with fail
        refine (rnext_any _ _ _ _ _).mono ?_
        rintro e w1 ⟨rfl, hb⟩
        have q1B : Below w.heap.size w w1 := (by refine Below.trans ?_ (hb.mono (by first | omega | (simp <;> omega))); (repeat (first | (with_reducible exact Below.refl _ _) | (with_reducible assumption) | ((with_reducible refine Below.alloc ?_ ?_ _); (rotate_left); (first | omega | (simp <;> omega))) | ((with_reducible refine Below.setCell ?_ ?_ _); (rotate_left); (first | omega | (simp <;> omega))) | (with_reducible refine Below.drew ?_) | (with_reducible refine below_drewN ?_ _))))
        have q1z := hb.size
        try simp at q1z
        have q1t : w.heap.size ≤ w1.heap.size := (by omega)
        have q1s0 : w.heap.size < w1.heap.size := (by omega)
        have q1n0_0 : ¬ w1.heap.size = w.heap.size := (by omega)
        have q1n0_1 : ¬ w1.heap.size + 1 = w.heap.size := (by omega)
        have q1n0_2 : ¬ w1.heap.size + 2 = w.heap.size := (by omega)
        have q1c0_0 := hb.cell (p := ⟨w.heap.size, 0, none⟩) (by first | omega | (simp <;> omega))
        simp [go_sem, *] at q1c0_0
        have q1c0_1 := hb.cell (p := ⟨w.heap.size, 1, none⟩) (by first | omega | (simp <;> omega))
        simp [go_sem, *] at q1c0_1
        have q1c0_2 := hb.cell (p := ⟨w.heap.size, 2, none⟩) (by first | omega | (simp <;> omega))
        simp [go_sem, *] at q1c0_2
        have q1c0_3 := hb.cell (p := ⟨w.heap.size, 3, none⟩) (by first | omega | (simp <;> omega))
        simp [go_sem, *] at q1c0_3
        have q1f0 := fun o => hb.frozen (p := ⟨w.heap.size, o, none⟩) (by first | omega | (simp <;> omega))
        simp [go_sem, *] at q1f0
        have q1o : ∀ b o, b < w.heap.size → w1.cell? ⟨b, o, none⟩ = w.cell? ⟨b, o, none⟩ := fun b o h => q1B.cell (p := ⟨b, o, none⟩) h
        clear hb
        rw [HB.out]
        go_wp2_with fail
        go_ret
        exact ⟨by rw [HC.out]; rfl, by (repeat (first | (with_reducible exact Below.refl _ _) | (with_reducible assumption) | ((with_reducible refine Below.alloc ?_ ?_ _); (rotate_left); (first | omega | (simp <;> omega))) | ((with_reducible refine Below.setCell ?_ ?_ _); (rotate_left); (first | omega | (simp <;> omega))) | (with_reducible refine Below.drew ?_) | (with_reducible refine below_drewN ?_ _)))⟩
      · go_enter Tryd.func19, Tryd.ntmps19
        go_wp2_with fail
        refine (rnext_any _ _ _ _ _).mono ?_
        rintro e w1 ⟨rfl, hb⟩
        have q1B : Below w.heap.size w w1 := (by refine Below.trans ?_ (hb.mono (by first | omega | (simp <;> omega))); (repeat (first | (with_reducible exact Below.refl _ _) | (with_reducible assumption) | ((with_reducible refine Below.alloc ?_ ?_ _); (rotate_left); (first | omega | (simp <;> omega))) | ((with_reducible refine Below.setCell ?_ ?_ _); (rotate_left); (first | omega | (simp <;> omega))) | (with_reducible refine Below.drew ?_) | (with_reducible refine below_drewN ?_ _))))
        have q1z := hb.size
        try simp at q1z
        have q1t : w.heap.size ≤ w1.heap.size := (by omega)
        have q1s0 : w.heap.size < w1.heap.size := (by omega)
        have q1n0_0 : ¬ w1.heap.size = w.heap.size := (by omega)
        have q1n0_1 : ¬ w1.heap.size + 1 = w.heap.size := (by omega)
        have q1n0_2 : ¬ w1.heap.size + 2 = w.heap.size := (by omega)
        have q1c0_0 := hb.cell (p := ⟨w.heap.size, 0, none⟩) (by first | omega | (simp <;> omega))
        simp [go_sem, *] at q1c0_0
        have q1c0_1 := hb.cell (p := ⟨w.heap.size, 1, none⟩) (by first | omega | (simp <;> omega))
        simp [go_sem, *] at q1c0_1
        have q1c0_2 := hb.cell (p := ⟨w.heap.size, 2, none⟩) (by first | omega | (simp <;> omega))
        simp [go_sem, *] at q1c0_2
        have q1c0_3 := hb.cell (p := ⟨w.heap.size, 3, none⟩) (by first | omega | (simp <;> omega))
        simp [go_sem, *] at q1c0_3
        have q1f0 := fun o => hb.frozen (p := ⟨w.heap.size, o, none⟩) (by first | omega | (simp <;> omega))
        simp [go_sem, *] at q1f0
        have q1o : ∀ b o, b < w.heap.size → w1.cell? ⟨b, o, none⟩ = w.cell? ⟨b, o, none⟩ := fun b o h => q1B.cell (p := ⟨b, o, none⟩) h
        clear hb
        rw [HB.out]
        go_wp2_with fail
        go_ret
        exact ⟨by rw [HC.out]; rfl, by (repeat (first | (with_reducible exact Below.refl _ _) | (with_reducible assumption) | ((with_reducible refine Below.alloc ?_ ?_ _); (rotate_left); (first | omega | (simp <;> omega))) | ((with_reducible refine Below.setCell ?_ ?_ _); (rotate_left); (first | omega | (simp <;> omega))) | (with_reducible refine Below.drew ?_) | (with_reducible refine below_drewN ?_ _)))⟩
      · go_enter Tryd.func19, Tryd.ntmps19
        go_wp2_with fail
        refine (rnext_any _ _ _ _ _).mono ?_
        rintro e w1 ⟨rfl, hb⟩
        have q1B : Below w.heap.size w w1 := (by refine Below.trans ?_ (hb.mono (by first | omega | (simp <;> omega))); (repeat (first | (with_reducible exact Below.refl _ _) | (with_reducible assumption) | ((with_reducible refine Below.alloc ?_ ?_ _); (rotate_left); (first | omega | (simp <;> omega))) | ((with_reducible refine Below.setCell ?_ ?_ _); (rotate_left); (first | omega | (simp <;> omega))) | (with_reducible refine Below.drew ?_) | (with_reducible refine below_drewN ?_ _))))
        have q1z := hb.size
        try simp at q1z
        have q1t : w.heap.size ≤ w1.heap.size := (by omega)
        have q1s0 : w.heap.size < w1.heap.size := (by omega)
        have q1n0_0 : ¬ w1.heap.size = w.heap.size := (by omega)
        have q1n0_1 : ¬ w1.heap.size + 1 = w.heap.size := (by omega)
        have q1n0_2 : ¬ w1.heap.size + 2 = w.heap.size := (by omega)
        have q1c0_0 := hb.cell (p := ⟨w.heap.size, 0, none⟩) (by first | omega | (simp <;> omega))
        simp [go_sem, *] at q1c0_0
        have q1c0_1 := hb.cell (p := ⟨w.heap.size, 1, none⟩) (by first | omega | (simp <;> omega))
        simp [go_sem, *] at q1c0_1
        have q1c0_2 := hb.cell (p := ⟨w.heap.size, 2, none⟩) (by first | omega | (simp <;> omega))
        simp [go_sem, *] at q1c0_2
        have q1c0_3 := hb.cell (p := ⟨w.heap.size, 3, none⟩) (by first | omega | (simp <;> omega))
        simp [go_sem, *] at q1c0_3
        have q1f0 := fun o => hb.frozen (p := ⟨w.heap.size, o, none⟩) (by first | omega | (simp <;> omega))
        simp [go_sem, *] at q1f0
        have q1o : ∀ b o, b < w.heap.size → w1.cell? ⟨b, o, none⟩ = w.cell? ⟨b, o, none⟩ := fun b o h => q1B.cell (p := ⟨b, o, none⟩) h
        clear hb
        rw [HB.out]
        go_wp2_with fail
        go_ret
        exact ⟨by rw [HC.out]; rfl, by (repeat (first | (with_reducible exact Below.refl _ _) | (with_reducible assumption) | ((with_reducible refine Below.alloc ?_ ?_ _); (rotate_left); (first | omega | (simp <;> omega))) | ((with_reducible refine Below.setCell ?_ ?_ _); (rotate_left); (first | omega | (simp <;> omega))) | (with_reducible refine Below.drew ?_) | (with_reducible refine below_drewN ?_ _)))⟩
  | true =>
    by_cases hok : nxB true nx sh = true
    · have HB := hide hok
      by_cases hr : 0 ≤ rs
      · have HC := hide (chkR_ok hok hr)
        clear hok
        go_enter Tryd.func19, Tryd.ntmps19
        go_wp2_with fail
        refine (rnext_any _ _ _ _ _).mono ?_
        rintro e w1 ⟨rfl, hb⟩
        have q1B : Below w.heap.size w w1 := (by refine Below.trans ?_ (hb.mono (by first | omega | (simp <;> omega))); (repeat (first | (with_reducible exact Below.refl _ _) | (with_reducible assumption) | ((with_reducible refine Below.alloc ?_ ?_ _); (rotate_left); (first | omega | (simp <;> omega))) | ((with_reducible refine Below.setCell ?_ ?_ _); (rotate_left); (first | omega | (simp <;> omega))) | (with_reducible refine Below.drew ?_) | (with_reducible refine below_drewN ?_ _))))
        have q1z := hb.size
        try simp at q1z
        have q1t : w.heap.size ≤ w1.heap.size := (by omega)
        have q1s0 : w.heap.size < w1.heap.size := (by omega)
        have q1n0_0 : ¬ w1.heap.size = w.heap.size := (by omega)
        have q1n0_1 : ¬ w1.heap.size + 1 = w.heap.size := (by omega)
        have q1n0_2 : ¬ w1.heap.size + 2 = w.heap.size := (by omega)
        have q1c0_0 := hb.cell (p := ⟨w.heap.size, 0, none⟩) (by first | omega | (simp <;> omega))
        simp [go_sem, *] at q1c0_0
        have q1c0_1 := hb.cell (p := ⟨w.heap.size, 1, none⟩) (by first | omega | (simp <;> omega))
        simp [go_sem, *] at q1c0_1
        have q1c0_2 := hb.cell (p := ⟨w.heap.size, 2, none⟩) (by first | omega | (simp <;> omega))
        simp [go_sem, *] at q1c0_2
        have q1c0_3 := hb.cell (p := ⟨w.heap.size, 3, none⟩) (by first | omega | (simp <;> omega))
        simp [go_sem, *] at q1c0_3
        have q1f0 := fun o => hb.frozen (p := ⟨w.heap.size, o, none⟩) (by first | omega | (simp <;> omega))
        simp [go_sem, *] at q1f0
        have q1o : ∀ b o, b < w.heap.size → w1.cell? ⟨b, o, none⟩ = w.cell? ⟨b, o, none⟩ := fun b o h => q1B.cell (p := ⟨b, o, none⟩) h
        clear hb
        rw [HB.out]
        go_wp2_with fail
        go_ret
        exact ⟨by rw [HC.out]; rfl, by (repeat (first | (with_reducible exact Below.refl _ _) | (with_reducible assumption) | ((with_reducible refine Below.alloc ?_ ?_ _); (rotate_left); (first | omega | (simp <;> omega))) | ((with_reducible refine Below.setCell ?_ ?_ _); (rotate_left); (first | omega | (simp <;> omega))) | (with_reducible refine Below.drew ?_) | (with_reducible refine below_drewN ?_ _)))⟩
      · have HC := hide (chkR_bad (nx := nx) (sh := sh) (rs := rs) (fun _ => by omega))
        have hr2 : rs < 0 := by omega
        clear hok hr
        go_enter Tryd.func19, Tryd.ntmps19
        go_wp2_with fail
        refine (rnext_any _ _ _ _ _).mono ?_
        rintro e w1 ⟨rfl, hb⟩
        have q1B : Below w.heap.size w w1 := (by refine Below.trans ?_ (hb.mono (by first | omega | (simp <;> omega))); (repeat (first | (with_reducible exact Below.refl _ _) | (with_reducible assumption) | ((with_reducible refine Below.alloc ?_ ?_ _); (rotate_left); (first | omega | (simp <;> omega))) | ((with_reducible refine Below.setCell ?_ ?_ _); (rotate_left); (first | omega | (simp <;> omega))) | (with_reducible refine Below.drew ?_) | (with_reducible refine below_drewN ?_ _))))
        have q1z := hb.size
        try simp at q1z
        have q1t : w.heap.size ≤ w1.heap.size := (by omega)
        have q1s0 : w.heap.size < w1.heap.size := (by omega)
        have q1n0_0 : ¬ w1.heap.size = w.heap.size := (by omega)
        have q1n0_1 : ¬ w1.heap.size + 1 = w.heap.size := (by omega)
        have q1n0_2 : ¬ w1.heap.size + 2 = w.heap.size := (by omega)
        have q1c0_0 := hb.cell (p := ⟨w.heap.size, 0, none⟩) (by first | omega | (simp <;> omega))
        simp [go_sem, *] at q1c0_0
        have q1c0_1 := hb.cell (p := ⟨w.heap.size, 1, none⟩) (by first | omega | (simp <;> omega))
        simp [go_sem, *] at q1c0_1
        have q1c0_2 := hb.cell (p := ⟨w.heap.size, 2, none⟩) (by first | omega | (simp <;> omega))
        simp [go_sem, *] at q1c0_2
        have q1c0_3 := hb.cell (p := ⟨w.heap.size, 3, none⟩) (by first | omega | (simp <;> omega))
        simp [go_sem, *] at q1c0_3
        have q1f0 := fun o => hb.frozen (p := ⟨w.heap.size, o, none⟩) (by first | omega | (simp <;> omega))
        simp [go_sem, *] at q1f0
        have q1o : ∀ b o, b < w.heap.size → w1.cell? ⟨b, o, none⟩ = w.cell? ⟨b, o, none⟩ := fun b o h => q1B.cell (p := ⟨b, o, none⟩) h
        clear hb
        rw [HB.out]
        go_wp2_with fail
        go_ret
        exact ⟨by rw [HC.out]; rfl, by (repeat (first | (with_reducible exact Below.refl _ _) | (with_reducible assumption) | ((with_reducible refine Below.alloc ?_ ?_ _); (rotate_left); (first | omega | (simp <;> omega))) | ((with_reducible refine Below.setCell ?_ ?_ _); (rotate_left); (first | omega | (simp <;> omega))) | (with_reducible refine Below.drew ?_) | (with_reducible refine below_drewN ?_ _)))⟩
    · have HB := hide (show nxB true nx sh = false by simpa using hok)
      have HC := hide (chkR_bad (nx := nx) (sh := sh) (rs := rs) (fun h => absurd h hok))
      clear hok
      go_enter Tryd.func19, Tryd.ntmps19
      go_wp2_with fail
      refine (rnext_any _ _ _ _ _).mono ?_
      rintro e w1 ⟨rfl, hb⟩
      have q1B : Below w.heap.size w w1 := (by refine Below.trans ?_ (hb.mono (by first | omega | (simp <;> omega))); (repeat (first | (with_reducible exact Below.refl _ _) | (with_reducible assumption) | ((with_reducible refine Below.alloc ?_ ?_ _); (rotate_left); (first | omega | (simp <;> omega))) | ((with_reducible refine Below.setCell ?_ ?_ _); (rotate_left); (first | omega | (simp <;> omega))) | (with_reducible refine Below.drew ?_) | (with_reducible refine below_drewN ?_ _))))
      have q1z := hb.size
      try simp at q1z
      have q1t : w.heap.size ≤ w1.heap.size := (by omega)
      have q1s0 : w.heap.size < w1.heap.size := (by omega)
      have q1n0_0 : ¬ w1.heap.size = w.heap.size := (by omega)
      have q1n0_1 : ¬ w1.heap.size + 1 = w.heap.size := (by omega)
      have q1n0_2 : ¬ w1.heap.size + 2 = w.heap.size := (by omega)
      have q1c0_0 := hb.cell (p := ⟨w.heap.size, 0, none⟩) (by first | omega | (simp <;> omega))
      simp [go_sem, *] at q1c0_0
      have q1c0_1 := hb.cell (p := ⟨w.heap.size, 1, none⟩) (by first | omega | (simp <;> omega))
      simp [go_sem, *] at q1c0_1
      have q1c0_2 := hb.cell (p := ⟨w.heap.size, 2, none⟩) (by first | omega | (simp <;> omega))
      simp [go_sem, *] at q1c0_2
      have q1c0_3 := hb.cell (p := ⟨w.heap.size, 3, none⟩) (by first | omega | (simp <;> omega))
      simp [go_sem, *] at q1c0_3
      have q1f0 := fun o => hb.frozen (p := ⟨w.heap.size, o, none⟩) (by first | omega | (simp <;> omega))
      simp [go_sem, *] at q1f0
      have q1o : ∀ b o, b < w.heap.size → w1.cell? ⟨b, o, none⟩ = w.cell? ⟨b, o, none⟩ := fun b o h => q1B.cell (p := ⟨b, o, none⟩) h
      clear hb
      rw [HB.out]
      go_wp2_with fail
      go_ret
      exact ⟨by rw [HC.out]; rfl, by (repeat (first | (with_reducible exact Below.refl _ _) | (with_reducible assumption) | ((with_reducible refine Below.alloc ?_ ?_ _); (rotate_left); (first | omega | (simp <;> omega))) | ((with_reducible refine Below.setCell ?_ ?_ _); (rotate_left); (first | omega | (simp <;> omega))) | (with_reducible refine Below.drew ?_) | (with_reducible refine below_drewN ?_ _)))⟩
end Go.Proofs.YtapfofnicbhoeaaDoor
