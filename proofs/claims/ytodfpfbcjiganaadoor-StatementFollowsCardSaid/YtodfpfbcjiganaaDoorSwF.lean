/- The walk of the law StatementFollows. -/
import Derived.Test.YtodfpfbcjiganaaDoorSwE

namespace Go.Proofs.YtodfpfbcjiganaaDoor
set_option linter.unusedSimpArgs false
set_option linter.unusedVariables false
open Go.RowKit

def FlI (E : Nat → LEnt) (n : Nat) (W : World) (v : Value) (wr : World) : Prop := ∃ k : Nat, (k + 1 ≤ n ∨ k = 0) ∧ v = .int .i64 ((k : Int) + 1) ∧ (∀ i, i + 1 < k + 1 → (E i).bk ≤ (E (i + 1)).bk) ∧ Below W.heap.size W wr
theorem own_row17 {w : World} {base g : Nat} {e : TypeId} {v : Value} {n : Nat} {xs : List Value} (h : w.ownsRow base e 4 v n xs) (hne : v.ownBlock ≠ some g) (j : Nat) (u : Value) : (w.setCell ⟨g, j, none⟩ u).ownsRow base e 4 v n xs := ownsRow_setCell_other h hne u
set_option maxRecDepth 8000 in
set_option maxHeartbeats 40000000 in
theorem walk_follows (C : Array Value) (aA : Option Addr) (an ac : Nat) (jA : Option Addr) (jn jc : Nat) (hC : Bks C aA an ac jA jn jc) (hO : C.all (·.oneCell') = true) (a : Nat → LAcc) (E : Nat → LEnt) (x0 x1 x2 x3 m : Int) (im : IIn m) (i1 : IIn x1) (i3 : IIn x3) (w : World) (hr : RowAcc w aA an a) (he : RowEnt w jA jn E) (ht : Tab w) :
    Calls Tryd.prog 6 #[.agg C, .agg #[.int .i64 x0, .int .i64 x1, .int .i64 x2, .int .i64 x3], .int .i64 m] w fun e w' => e = .returned (.bool true) ∧ Below w.heap.size w w' := by
  have HW := hide (show (Tryd.prog.info? 33).map (·.size) = some C.size by rw [hC.size]; kernel_rfl)
  have HC := hide hC
  have HO := hide hO
  have HR := hide hr
  have HE := hide he
  have HT := hide ht
  have HI := hide (And.intro im (And.intro i1 i3))
  have h19 := hC.jou
  clear hC hO hr he ht im i1 i3
  cases hf : fewB an jn E with
  | false =>
    have HF := hide hf
    clear hf h19
    go_enter Tryd.func6, Tryd.ntmps6
    go_wp2_with (with_reducible refine wpList_load_row rfl 33 (.tmp 3) rfl w.heap.size rfl 33 C (0, 0) _ (two_boxes _ _ _) Tryd.underlying33 rfl HW.out ?_)
    refine (few_any C aA an ac jA jn jc HC.out E _ (HE.out.below (by (repeat (first | (with_reducible exact Below.refl _ _) | (with_reducible assumption) | ((with_reducible refine Below.alloc ?_ ?_ _); (rotate_left); (first | omega | (simp <;> omega))) | ((with_reducible refine Below.setCell ?_ ?_ _); (rotate_left); (first | omega | (simp <;> omega))) | (with_reducible refine Below.drew ?_) | (with_reducible refine below_drewN ?_ _)))))).mono ?_
    rintro e w1 ⟨rfl, hb⟩
    rw [HF.out]
    have q1B : Below w.heap.size w w1 := (by refine Below.trans ?_ (hb.mono (by first | omega | (simp <;> omega))); (repeat (first | (with_reducible exact Below.refl _ _) | (with_reducible assumption) | ((with_reducible refine Below.alloc ?_ ?_ _); (rotate_left); (first | omega | (simp <;> omega))) | ((with_reducible refine Below.setCell ?_ ?_ _); (rotate_left); (first | omega | (simp <;> omega))) | (with_reducible refine Below.drew ?_) | (with_reducible refine below_drewN ?_ _))))
    have q1z := hb.size
    try simp at q1z
    have q1t : w.heap.size ≤ w1.heap.size := (by omega)
    have q1o : ∀ b o, b < w.heap.size → w1.cell? ⟨b, o, none⟩ = w.cell? ⟨b, o, none⟩ := fun b o h => q1B.cell (p := ⟨b, o, none⟩) h
    clear hb
    have B1 := hide q1B
    go_wp2_with fail
    refine (lives_any _ (HT.out.below B1.out)).mono ?_
    rintro e w2 ⟨rfl, hb⟩
    go_wp2_with fail
    go_ret
    exact ⟨rfl, B1.out.trans (hb.mono q1t)⟩
  | true =>
    obtain ⟨hn, hjn, _⟩ := few_jrn hf HE.out
    have HJ := hide (few_jrn hf HE.out).2.2
    have HF := hide hf
    clear hf
    by_cases t0 : x0 < 1000
    · clear h19
      go_enter Tryd.func6, Tryd.ntmps6
      go_wp2_with (with_reducible refine wpList_load_row rfl 33 (.tmp 3) rfl w.heap.size rfl 33 C (0, 0) _ (two_boxes _ _ _) Tryd.underlying33 rfl HW.out ?_)
      refine (few_any C aA an ac jA jn jc HC.out E _ (HE.out.below (by (repeat (first | (with_reducible exact Below.refl _ _) | (with_reducible assumption) | ((with_reducible refine Below.alloc ?_ ?_ _); (rotate_left); (first | omega | (simp <;> omega))) | ((with_reducible refine Below.setCell ?_ ?_ _); (rotate_left); (first | omega | (simp <;> omega))) | (with_reducible refine Below.drew ?_) | (with_reducible refine below_drewN ?_ _)))))).mono ?_
      rintro e w1 ⟨rfl, hb⟩
      rw [HF.out]
      have q1B : Below w.heap.size w w1 := (by refine Below.trans ?_ (hb.mono (by first | omega | (simp <;> omega))); (repeat (first | (with_reducible exact Below.refl _ _) | (with_reducible assumption) | ((with_reducible refine Below.alloc ?_ ?_ _); (rotate_left); (first | omega | (simp <;> omega))) | ((with_reducible refine Below.setCell ?_ ?_ _); (rotate_left); (first | omega | (simp <;> omega))) | (with_reducible refine Below.drew ?_) | (with_reducible refine below_drewN ?_ _))))
      have q1z := hb.size
      try simp at q1z
      have q1t : w.heap.size ≤ w1.heap.size := (by omega)
      have q1s0 : w.heap.size + 1 < w1.heap.size := (by omega)
      have q1n0_0 : ¬ w1.heap.size = w.heap.size + 1 := (by omega)
      have q1n0_1 : ¬ w1.heap.size + 1 = w.heap.size + 1 := (by omega)
      have q1n0_2 : ¬ w1.heap.size + 2 = w.heap.size + 1 := (by omega)
      have q1c0_0 := hb.cell (p := ⟨w.heap.size + 1, 0, none⟩) (by first | omega | (simp <;> omega))
      simp [go_sem, *] at q1c0_0
      have q1c0_1 := hb.cell (p := ⟨w.heap.size + 1, 1, none⟩) (by first | omega | (simp <;> omega))
      simp [go_sem, *] at q1c0_1
      have q1c0_2 := hb.cell (p := ⟨w.heap.size + 1, 2, none⟩) (by first | omega | (simp <;> omega))
      simp [go_sem, *] at q1c0_2
      have q1c0_3 := hb.cell (p := ⟨w.heap.size + 1, 3, none⟩) (by first | omega | (simp <;> omega))
      simp [go_sem, *] at q1c0_3
      have q1f0 := fun o => hb.frozen (p := ⟨w.heap.size + 1, o, none⟩) (by first | omega | (simp <;> omega))
      simp [go_sem, *] at q1f0
      have q1o : ∀ b o, b < w.heap.size → w1.cell? ⟨b, o, none⟩ = w.cell? ⟨b, o, none⟩ := fun b o h => q1B.cell (p := ⟨b, o, none⟩) h
      clear hb
      have B1 := hide q1B
      go_wp2_with fail
      refine (lives_any _ (HT.out.below B1.out)).mono ?_
      rintro e w2 ⟨rfl, hb⟩
      go_wp2_with fail
      go_ret
      exact ⟨rfl, B1.out.trans (hb.mono q1t)⟩
    · have g0 : 1000 ≤ x0 := by omega
      clear t0
      by_cases t1 : x1 < 1
      · clear h19
        go_enter Tryd.func6, Tryd.ntmps6
        go_wp2_with (with_reducible refine wpList_load_row rfl 33 (.tmp 3) rfl w.heap.size rfl 33 C (0, 0) _ (two_boxes _ _ _) Tryd.underlying33 rfl HW.out ?_)
        refine (few_any C aA an ac jA jn jc HC.out E _ (HE.out.below (by (repeat (first | (with_reducible exact Below.refl _ _) | (with_reducible assumption) | ((with_reducible refine Below.alloc ?_ ?_ _); (rotate_left); (first | omega | (simp <;> omega))) | ((with_reducible refine Below.setCell ?_ ?_ _); (rotate_left); (first | omega | (simp <;> omega))) | (with_reducible refine Below.drew ?_) | (with_reducible refine below_drewN ?_ _)))))).mono ?_
        rintro e w1 ⟨rfl, hb⟩
        rw [HF.out]
        have q1B : Below w.heap.size w w1 := (by refine Below.trans ?_ (hb.mono (by first | omega | (simp <;> omega))); (repeat (first | (with_reducible exact Below.refl _ _) | (with_reducible assumption) | ((with_reducible refine Below.alloc ?_ ?_ _); (rotate_left); (first | omega | (simp <;> omega))) | ((with_reducible refine Below.setCell ?_ ?_ _); (rotate_left); (first | omega | (simp <;> omega))) | (with_reducible refine Below.drew ?_) | (with_reducible refine below_drewN ?_ _))))
        have q1z := hb.size
        try simp at q1z
        have q1t : w.heap.size ≤ w1.heap.size := (by omega)
        have q1s0 : w.heap.size + 1 < w1.heap.size := (by omega)
        have q1n0_0 : ¬ w1.heap.size = w.heap.size + 1 := (by omega)
        have q1n0_1 : ¬ w1.heap.size + 1 = w.heap.size + 1 := (by omega)
        have q1n0_2 : ¬ w1.heap.size + 2 = w.heap.size + 1 := (by omega)
        have q1c0_0 := hb.cell (p := ⟨w.heap.size + 1, 0, none⟩) (by first | omega | (simp <;> omega))
        simp [go_sem, *] at q1c0_0
        have q1c0_1 := hb.cell (p := ⟨w.heap.size + 1, 1, none⟩) (by first | omega | (simp <;> omega))
        simp [go_sem, *] at q1c0_1
        have q1c0_2 := hb.cell (p := ⟨w.heap.size + 1, 2, none⟩) (by first | omega | (simp <;> omega))
        simp [go_sem, *] at q1c0_2
        have q1c0_3 := hb.cell (p := ⟨w.heap.size + 1, 3, none⟩) (by first | omega | (simp <;> omega))
        simp [go_sem, *] at q1c0_3
        have q1f0 := fun o => hb.frozen (p := ⟨w.heap.size + 1, o, none⟩) (by first | omega | (simp <;> omega))
        simp [go_sem, *] at q1f0
        have q1o : ∀ b o, b < w.heap.size → w1.cell? ⟨b, o, none⟩ = w.cell? ⟨b, o, none⟩ := fun b o h => q1B.cell (p := ⟨b, o, none⟩) h
        clear hb
        have B1 := hide q1B
        go_wp2_with fail
        refine (lives_any _ (HT.out.below B1.out)).mono ?_
        rintro e w2 ⟨rfl, hb⟩
        go_wp2_with fail
        go_ret
        exact ⟨rfl, B1.out.trans (hb.mono q1t)⟩
      · have g1 : 1 ≤ x1 := by omega
        clear t1
        by_cases t2 : 4611686018427387904 ≤ x1
        · clear h19
          go_enter Tryd.func6, Tryd.ntmps6
          go_wp2_with (with_reducible refine wpList_load_row rfl 33 (.tmp 3) rfl w.heap.size rfl 33 C (0, 0) _ (two_boxes _ _ _) Tryd.underlying33 rfl HW.out ?_)
          refine (few_any C aA an ac jA jn jc HC.out E _ (HE.out.below (by (repeat (first | (with_reducible exact Below.refl _ _) | (with_reducible assumption) | ((with_reducible refine Below.alloc ?_ ?_ _); (rotate_left); (first | omega | (simp <;> omega))) | ((with_reducible refine Below.setCell ?_ ?_ _); (rotate_left); (first | omega | (simp <;> omega))) | (with_reducible refine Below.drew ?_) | (with_reducible refine below_drewN ?_ _)))))).mono ?_
          rintro e w1 ⟨rfl, hb⟩
          rw [HF.out]
          have q1B : Below w.heap.size w w1 := (by refine Below.trans ?_ (hb.mono (by first | omega | (simp <;> omega))); (repeat (first | (with_reducible exact Below.refl _ _) | (with_reducible assumption) | ((with_reducible refine Below.alloc ?_ ?_ _); (rotate_left); (first | omega | (simp <;> omega))) | ((with_reducible refine Below.setCell ?_ ?_ _); (rotate_left); (first | omega | (simp <;> omega))) | (with_reducible refine Below.drew ?_) | (with_reducible refine below_drewN ?_ _))))
          have q1z := hb.size
          try simp at q1z
          have q1t : w.heap.size ≤ w1.heap.size := (by omega)
          have q1s0 : w.heap.size + 1 < w1.heap.size := (by omega)
          have q1n0_0 : ¬ w1.heap.size = w.heap.size + 1 := (by omega)
          have q1n0_1 : ¬ w1.heap.size + 1 = w.heap.size + 1 := (by omega)
          have q1n0_2 : ¬ w1.heap.size + 2 = w.heap.size + 1 := (by omega)
          have q1c0_0 := hb.cell (p := ⟨w.heap.size + 1, 0, none⟩) (by first | omega | (simp <;> omega))
          simp [go_sem, *] at q1c0_0
          have q1c0_1 := hb.cell (p := ⟨w.heap.size + 1, 1, none⟩) (by first | omega | (simp <;> omega))
          simp [go_sem, *] at q1c0_1
          have q1c0_2 := hb.cell (p := ⟨w.heap.size + 1, 2, none⟩) (by first | omega | (simp <;> omega))
          simp [go_sem, *] at q1c0_2
          have q1c0_3 := hb.cell (p := ⟨w.heap.size + 1, 3, none⟩) (by first | omega | (simp <;> omega))
          simp [go_sem, *] at q1c0_3
          have q1f0 := fun o => hb.frozen (p := ⟨w.heap.size + 1, o, none⟩) (by first | omega | (simp <;> omega))
          simp [go_sem, *] at q1f0
          have q1o : ∀ b o, b < w.heap.size → w1.cell? ⟨b, o, none⟩ = w.cell? ⟨b, o, none⟩ := fun b o h => q1B.cell (p := ⟨b, o, none⟩) h
          clear hb
          have B1 := hide q1B
          go_wp2_with fail
          refine (lives_any _ (HT.out.below B1.out)).mono ?_
          rintro e w2 ⟨rfl, hb⟩
          go_wp2_with fail
          go_ret
          exact ⟨rfl, B1.out.trans (hb.mono q1t)⟩
        · have g2 : x1 < 4611686018427387904 := by omega
          clear t2
          by_cases t3 : m < x2
          · clear h19
            go_enter Tryd.func6, Tryd.ntmps6
            go_wp2_with (with_reducible refine wpList_load_row rfl 33 (.tmp 3) rfl w.heap.size rfl 33 C (0, 0) _ (two_boxes _ _ _) Tryd.underlying33 rfl HW.out ?_)
            refine (few_any C aA an ac jA jn jc HC.out E _ (HE.out.below (by (repeat (first | (with_reducible exact Below.refl _ _) | (with_reducible assumption) | ((with_reducible refine Below.alloc ?_ ?_ _); (rotate_left); (first | omega | (simp <;> omega))) | ((with_reducible refine Below.setCell ?_ ?_ _); (rotate_left); (first | omega | (simp <;> omega))) | (with_reducible refine Below.drew ?_) | (with_reducible refine below_drewN ?_ _)))))).mono ?_
            rintro e w1 ⟨rfl, hb⟩
            rw [HF.out]
            have q1B : Below w.heap.size w w1 := (by refine Below.trans ?_ (hb.mono (by first | omega | (simp <;> omega))); (repeat (first | (with_reducible exact Below.refl _ _) | (with_reducible assumption) | ((with_reducible refine Below.alloc ?_ ?_ _); (rotate_left); (first | omega | (simp <;> omega))) | ((with_reducible refine Below.setCell ?_ ?_ _); (rotate_left); (first | omega | (simp <;> omega))) | (with_reducible refine Below.drew ?_) | (with_reducible refine below_drewN ?_ _))))
            have q1z := hb.size
            try simp at q1z
            have q1t : w.heap.size ≤ w1.heap.size := (by omega)
            have q1s0 : w.heap.size + 1 < w1.heap.size := (by omega)
            have q1n0_0 : ¬ w1.heap.size = w.heap.size + 1 := (by omega)
            have q1n0_1 : ¬ w1.heap.size + 1 = w.heap.size + 1 := (by omega)
            have q1n0_2 : ¬ w1.heap.size + 2 = w.heap.size + 1 := (by omega)
            have q1c0_0 := hb.cell (p := ⟨w.heap.size + 1, 0, none⟩) (by first | omega | (simp <;> omega))
            simp [go_sem, *] at q1c0_0
            have q1c0_1 := hb.cell (p := ⟨w.heap.size + 1, 1, none⟩) (by first | omega | (simp <;> omega))
            simp [go_sem, *] at q1c0_1
            have q1c0_2 := hb.cell (p := ⟨w.heap.size + 1, 2, none⟩) (by first | omega | (simp <;> omega))
            simp [go_sem, *] at q1c0_2
            have q1c0_3 := hb.cell (p := ⟨w.heap.size + 1, 3, none⟩) (by first | omega | (simp <;> omega))
            simp [go_sem, *] at q1c0_3
            have q1f0 := fun o => hb.frozen (p := ⟨w.heap.size + 1, o, none⟩) (by first | omega | (simp <;> omega))
            simp [go_sem, *] at q1f0
            have q1o : ∀ b o, b < w.heap.size → w1.cell? ⟨b, o, none⟩ = w.cell? ⟨b, o, none⟩ := fun b o h => q1B.cell (p := ⟨b, o, none⟩) h
            clear hb
            have B1 := hide q1B
            go_wp2_with fail
            refine (lives_any _ (HT.out.below B1.out)).mono ?_
            rintro e w2 ⟨rfl, hb⟩
            go_wp2_with fail
            go_ret
            exact ⟨rfl, B1.out.trans (hb.mono q1t)⟩
          · have g3 : x2 ≤ m := by omega
            clear t3
            by_cases t4 : x3 ≤ m
            · clear h19
              go_enter Tryd.func6, Tryd.ntmps6
              go_wp2_with (with_reducible refine wpList_load_row rfl 33 (.tmp 3) rfl w.heap.size rfl 33 C (0, 0) _ (two_boxes _ _ _) Tryd.underlying33 rfl HW.out ?_)
              refine (few_any C aA an ac jA jn jc HC.out E _ (HE.out.below (by (repeat (first | (with_reducible exact Below.refl _ _) | (with_reducible assumption) | ((with_reducible refine Below.alloc ?_ ?_ _); (rotate_left); (first | omega | (simp <;> omega))) | ((with_reducible refine Below.setCell ?_ ?_ _); (rotate_left); (first | omega | (simp <;> omega))) | (with_reducible refine Below.drew ?_) | (with_reducible refine below_drewN ?_ _)))))).mono ?_
              rintro e w1 ⟨rfl, hb⟩
              rw [HF.out]
              have q1B : Below w.heap.size w w1 := (by refine Below.trans ?_ (hb.mono (by first | omega | (simp <;> omega))); (repeat (first | (with_reducible exact Below.refl _ _) | (with_reducible assumption) | ((with_reducible refine Below.alloc ?_ ?_ _); (rotate_left); (first | omega | (simp <;> omega))) | ((with_reducible refine Below.setCell ?_ ?_ _); (rotate_left); (first | omega | (simp <;> omega))) | (with_reducible refine Below.drew ?_) | (with_reducible refine below_drewN ?_ _))))
              have q1z := hb.size
              try simp at q1z
              have q1t : w.heap.size ≤ w1.heap.size := (by omega)
              have q1s0 : w.heap.size + 1 < w1.heap.size := (by omega)
              have q1n0_0 : ¬ w1.heap.size = w.heap.size + 1 := (by omega)
              have q1n0_1 : ¬ w1.heap.size + 1 = w.heap.size + 1 := (by omega)
              have q1n0_2 : ¬ w1.heap.size + 2 = w.heap.size + 1 := (by omega)
              have q1c0_0 := hb.cell (p := ⟨w.heap.size + 1, 0, none⟩) (by first | omega | (simp <;> omega))
              simp [go_sem, *] at q1c0_0
              have q1c0_1 := hb.cell (p := ⟨w.heap.size + 1, 1, none⟩) (by first | omega | (simp <;> omega))
              simp [go_sem, *] at q1c0_1
              have q1c0_2 := hb.cell (p := ⟨w.heap.size + 1, 2, none⟩) (by first | omega | (simp <;> omega))
              simp [go_sem, *] at q1c0_2
              have q1c0_3 := hb.cell (p := ⟨w.heap.size + 1, 3, none⟩) (by first | omega | (simp <;> omega))
              simp [go_sem, *] at q1c0_3
              have q1f0 := fun o => hb.frozen (p := ⟨w.heap.size + 1, o, none⟩) (by first | omega | (simp <;> omega))
              simp [go_sem, *] at q1f0
              have q1o : ∀ b o, b < w.heap.size → w1.cell? ⟨b, o, none⟩ = w.cell? ⟨b, o, none⟩ := fun b o h => q1B.cell (p := ⟨b, o, none⟩) h
              clear hb
              have B1 := hide q1B
              go_wp2_with fail
              refine (lives_any _ (HT.out.below B1.out)).mono ?_
              rintro e w2 ⟨rfl, hb⟩
              go_wp2_with fail
              go_ret
              exact ⟨rfl, B1.out.trans (hb.mono q1t)⟩
            · have g4 : m < x3 := by omega
              clear t4
              go_enter Tryd.func6, Tryd.ntmps6
              go_wp2_with (with_reducible refine wpList_load_row rfl 33 (.tmp 3) rfl w.heap.size rfl 33 C (0, 0) _ (two_boxes _ _ _) Tryd.underlying33 rfl HW.out ?_)
              refine (few_any C aA an ac jA jn jc HC.out E _ (HE.out.below (by (repeat (first | (with_reducible exact Below.refl _ _) | (with_reducible assumption) | ((with_reducible refine Below.alloc ?_ ?_ _); (rotate_left); (first | omega | (simp <;> omega))) | ((with_reducible refine Below.setCell ?_ ?_ _); (rotate_left); (first | omega | (simp <;> omega))) | (with_reducible refine Below.drew ?_) | (with_reducible refine below_drewN ?_ _)))))).mono ?_
              rintro e w1 ⟨rfl, hb⟩
              rw [HF.out]
              have X1 := hide ((hb.block w.heap.size (by simp; omega)).trans (two_boxes _ _ _))
              have q1B : Below w.heap.size w w1 := (by refine Below.trans ?_ (hb.mono (by first | omega | (simp <;> omega))); (repeat (first | (with_reducible exact Below.refl _ _) | (with_reducible assumption) | ((with_reducible refine Below.alloc ?_ ?_ _); (rotate_left); (first | omega | (simp <;> omega))) | ((with_reducible refine Below.setCell ?_ ?_ _); (rotate_left); (first | omega | (simp <;> omega))) | (with_reducible refine Below.drew ?_) | (with_reducible refine below_drewN ?_ _))))
              have q1z := hb.size
              try simp at q1z
              have q1t : w.heap.size ≤ w1.heap.size := (by omega)
              have q1s0 : w.heap.size < w1.heap.size := (by omega)
              have q1n0_0 : ¬ w1.heap.size = w.heap.size := (by omega)
              have q1n0_1 : ¬ w1.heap.size + 1 = w.heap.size := (by omega)
              have q1n0_2 : ¬ w1.heap.size + 2 = w.heap.size := (by omega)
              have q1c0_19 := hb.cell (p := ⟨w.heap.size, 19, none⟩) (by first | omega | (simp <;> omega))
              simp [go_sem, *] at q1c0_19
              have q1f0 := fun o => hb.frozen (p := ⟨w.heap.size, o, none⟩) (by first | omega | (simp <;> omega))
              simp [go_sem, *] at q1f0
              have q1s1 : w.heap.size + 1 < w1.heap.size := (by omega)
              have q1n1_0 : ¬ w1.heap.size = w.heap.size + 1 := (by omega)
              have q1n1_1 : ¬ w1.heap.size + 1 = w.heap.size + 1 := (by omega)
              have q1n1_2 : ¬ w1.heap.size + 2 = w.heap.size + 1 := (by omega)
              have q1c1_0 := hb.cell (p := ⟨w.heap.size + 1, 0, none⟩) (by first | omega | (simp <;> omega))
              simp [go_sem, *] at q1c1_0
              have q1c1_1 := hb.cell (p := ⟨w.heap.size + 1, 1, none⟩) (by first | omega | (simp <;> omega))
              simp [go_sem, *] at q1c1_1
              have q1c1_2 := hb.cell (p := ⟨w.heap.size + 1, 2, none⟩) (by first | omega | (simp <;> omega))
              simp [go_sem, *] at q1c1_2
              have q1c1_3 := hb.cell (p := ⟨w.heap.size + 1, 3, none⟩) (by first | omega | (simp <;> omega))
              simp [go_sem, *] at q1c1_3
              have q1f1 := fun o => hb.frozen (p := ⟨w.heap.size + 1, o, none⟩) (by first | omega | (simp <;> omega))
              simp [go_sem, *] at q1f1
              have q1o : ∀ b o, b < w.heap.size → w1.cell? ⟨b, o, none⟩ = w.cell? ⟨b, o, none⟩ := fun b o h => q1B.cell (p := ⟨b, o, none⟩) h
              clear hb
              have B1 := hide q1B
              clear h19
              go_wp2_with fail
              go_loopw [7] (fun v wr => FlI E jn w1 v wr) (fun v _ => jn - (intOf v).toNat)
              case atStart => exact ⟨0, .inr rfl, rfl, fun i hi => by omega, Below.refl _ _⟩
              case round =>
                obtain ⟨k, hk, rfl, hall, hb⟩ := hrel
                have H0 := hide hb
                have HA := hide hall
                have X2 := hide (blk_below hb (by omega) X1.out)
                clear hall
                have q2B : Below w1.heap.size w1 wr := (by refine Below.trans ?_ (hb.mono (by first | omega | (simp <;> omega))); (repeat (first | (with_reducible exact Below.refl _ _) | (with_reducible assumption) | ((with_reducible refine Below.alloc ?_ ?_ _); (rotate_left); (first | omega | (simp <;> omega))) | ((with_reducible refine Below.setCell ?_ ?_ _); (rotate_left); (first | omega | (simp <;> omega))) | (with_reducible refine Below.drew ?_) | (with_reducible refine below_drewN ?_ _))))
                have q2z := hb.size
                try simp at q2z
                have q2t : w1.heap.size ≤ wr.heap.size := (by omega)
                have q2s0 : w.heap.size < wr.heap.size := (by omega)
                have q2n0_0 : ¬ wr.heap.size = w.heap.size := (by omega)
                have q2n0_1 : ¬ wr.heap.size + 1 = w.heap.size := (by omega)
                have q2n0_2 : ¬ wr.heap.size + 2 = w.heap.size := (by omega)
                have q2c0_19 := hb.cell (p := ⟨w.heap.size, 19, none⟩) (by first | omega | (simp <;> omega))
                simp [go_sem, *] at q2c0_19
                have q2f0 := fun o => hb.frozen (p := ⟨w.heap.size, o, none⟩) (by first | omega | (simp <;> omega))
                simp [go_sem, *] at q2f0
                have q2s1 : w.heap.size + 1 < wr.heap.size := (by omega)
                have q2n1_0 : ¬ wr.heap.size = w.heap.size + 1 := (by omega)
                have q2n1_1 : ¬ wr.heap.size + 1 = w.heap.size + 1 := (by omega)
                have q2n1_2 : ¬ wr.heap.size + 2 = w.heap.size + 1 := (by omega)
                have q2c1_0 := hb.cell (p := ⟨w.heap.size + 1, 0, none⟩) (by first | omega | (simp <;> omega))
                simp [go_sem, *] at q2c1_0
                have q2c1_1 := hb.cell (p := ⟨w.heap.size + 1, 1, none⟩) (by first | omega | (simp <;> omega))
                simp [go_sem, *] at q2c1_1
                have q2c1_2 := hb.cell (p := ⟨w.heap.size + 1, 2, none⟩) (by first | omega | (simp <;> omega))
                simp [go_sem, *] at q2c1_2
                have q2c1_3 := hb.cell (p := ⟨w.heap.size + 1, 3, none⟩) (by first | omega | (simp <;> omega))
                simp [go_sem, *] at q2c1_3
                have q2f1 := fun o => hb.frozen (p := ⟨w.heap.size + 1, o, none⟩) (by first | omega | (simp <;> omega))
                simp [go_sem, *] at q2f1
                have q2o : ∀ b o, b < w1.heap.size → wr.cell? ⟨b, o, none⟩ = w1.cell? ⟨b, o, none⟩ := fun b o h => q2B.cell (p := ⟨b, o, none⟩) h
                clear hb q1o q1f1 q1c1_3 q1c1_2 q1c1_1 q1c1_0 q1s1 q1f0 q1c0_19 q1s0 q1z q1B
                have B2 := hide (B1.out.trans (q2B.mono q1t))
                by_cases hlt : k + 1 < jn
                · have hm : (k : Int) + 1 < jn := by omega
                  have HK := hide hlt
                  have hk0 : (0 : Int) ≤ (k : Int) + 1 := by omega
                  have hk00 : (0 : Int) ≤ (k : Int) := by omega
                  have hm2 : (k : Int) < jn := by omega
                  obtain ⟨b, off, rfl, hbl, c0, c1, _, _, _, _, _, _, _, _⟩ := (HE.out.below B2.out).at hlt
                  obtain ⟨b', off', e', _, d0, d1, _, _, _, _, _, _, _, _⟩ := (HE.out.below B2.out).at (k := k) (by omega)
                  injection e' with e'
                  injection e' with e1 e2
                  subst e1 e2
                  clear c0 d0 hlt hk
                  by_cases hd : (E (k + 1)).bk < (E k).bk
                  · go_wp2_with fail
                    have n1 : IntKind.i64.wrap ((k : Int) + 1 - 1) = k := by rw [i64w]; unfold wrap64; omega
                    have n2 : ((k : Int) + 1).toNat = k + 1 := by omega
                    have n3 : IntKind.i64.wrap (k : Int) = k := by rw [i64w]; unfold wrap64; omega
                    refine ord_start (SB (wr.heap.size) [] _) 14 #[false, false, false, false, false, false, false, false, false, false, false, false, false, false] (by kernel_rfl) (by kernel_rfl) (by kernel_rfl) SB.refl.drew (fun hHeld => ?_)
                    refine ord_take (i := 0) #[true, false, false, false, false, false, false, false, false, false, false, false, false, false] ?_ rfl (by kernel_rfl) (by kernel_rfl) (by kernel_rfl) (by kernel_rfl) (fun _ _ _ h => h) hHeld (by rfl) (fun wx hSx => ?_) ?_
                    rotate_left
                    · (unfold SB at hSx; go_simp; (try with_reducible rfl))
                    (try simp only [Act.put, List.setIfInBounds_toArray, List.set_cons_zero, List.set_cons_succ])
                    refine ord_take (i := 1) #[true, true, false, false, false, false, false, false, false, false, false, false, false, false] ?_ rfl (by kernel_rfl) (by kernel_rfl) (by kernel_rfl) (by kernel_rfl) (fun _ _ _ h => h) hHeld (by rfl) (fun wx hSx => ?_) ?_
                    rotate_left
                    · (unfold SB at hSx; go_simp; (try with_reducible rfl))
                    (try simp only [Act.put, List.setIfInBounds_toArray, List.set_cons_zero, List.set_cons_succ])
                    refine ord_take (i := 2) #[true, true, true, false, false, false, false, false, false, false, false, false, false, false] ?_ rfl (by kernel_rfl) (by kernel_rfl) (by kernel_rfl) (by kernel_rfl) (fun _ _ _ h => h) hHeld (by rfl) (fun wx hSx => ?_) ?_
                    rotate_left
                    · (unfold SB at hSx; go_simp; (try with_reducible rfl))
                    (try simp only [Act.put, List.setIfInBounds_toArray, List.set_cons_zero, List.set_cons_succ])
                    refine ord_take (i := 3) #[true, true, true, true, false, false, false, false, false, false, false, false, false, false] ?_ rfl (by kernel_rfl) (by kernel_rfl) (by kernel_rfl) (by kernel_rfl) (fun _ _ _ h => h) hHeld (by rfl) (fun wx hSx => ?_) ?_
                    rotate_left
                    · (unfold SB at hSx; go_simp; (try with_reducible rfl))
                    (try simp only [Act.put, List.setIfInBounds_toArray, List.set_cons_zero, List.set_cons_succ])
                    refine ord_take (i := 4) #[true, true, true, true, true, false, false, false, false, false, false, false, false, false] ?_ rfl (by kernel_rfl) (by kernel_rfl) (by kernel_rfl) (by kernel_rfl) (fun _ _ _ h => h) hHeld (by rfl) (fun wx hSx => ?_) ?_
                    rotate_left
                    · (unfold SB at hSx; go_simp; (try with_reducible rfl))
                    (try simp only [Act.put, List.setIfInBounds_toArray, List.set_cons_zero, List.set_cons_succ])
                    refine ord_take (i := 5) #[true, true, true, true, true, true, false, false, false, false, false, false, false, false] ?_ rfl (by kernel_rfl) (by kernel_rfl) (by kernel_rfl) (by kernel_rfl) (fun _ _ _ h => h) hHeld (by rfl) (fun wx hSx => ?_) ?_
                    rotate_left
                    · (unfold SB at hSx; go_simp; (try with_reducible rfl))
                    (try simp only [Act.put, List.setIfInBounds_toArray, List.set_cons_zero, List.set_cons_succ])
                    refine ord_take (i := 6) #[true, true, true, true, true, true, true, false, false, false, false, false, false, false] ?_ rfl (by kernel_rfl) (by kernel_rfl) (by kernel_rfl) (by kernel_rfl) (fun _ _ _ h => h) hHeld (by rfl) (fun wx hSx => ?_) ?_
                    rotate_left
                    · (unfold SB at hSx; go_simp; (try with_reducible rfl))
                    (try simp only [Act.put, List.setIfInBounds_toArray, List.set_cons_zero, List.set_cons_succ])
                    refine ord_take (i := 7) #[true, true, true, true, true, true, true, true, false, false, false, false, false, false] ?_ rfl (by kernel_rfl) (by kernel_rfl) (by kernel_rfl) (by kernel_rfl) (fun _ _ _ h => h) hHeld (by rfl) (fun wx hSx => ?_) ?_
                    rotate_left
                    · (unfold SB at hSx; go_simp; (try with_reducible rfl))
                    (try simp only [Act.put, List.setIfInBounds_toArray, List.set_cons_zero, List.set_cons_succ])
                    refine ord_take (i := 8) #[true, true, true, true, true, true, true, true, true, false, false, false, false, false] ?_ rfl (by kernel_rfl) (by kernel_rfl) (by kernel_rfl) (by kernel_rfl) (fun _ _ _ h => h) hHeld (by rfl) (fun wx hSx => ?_) ?_
                    rotate_left
                    · (unfold SB at hSx; go_simp; (try with_reducible rfl))
                    (try simp only [Act.put, List.setIfInBounds_toArray, List.set_cons_zero, List.set_cons_succ])
                    refine ord_take (i := 9) #[true, true, true, true, true, true, true, true, true, true, false, false, false, false] ?_ rfl (by kernel_rfl) (by kernel_rfl) (by kernel_rfl) (by kernel_rfl) (fun _ _ _ h => h) hHeld (by rfl) (fun wx hSx => ?_) ?_
                    rotate_left
                    · (unfold SB at hSx; go_simp; (try with_reducible rfl))
                    (try simp only [Act.put, List.setIfInBounds_toArray, List.set_cons_zero, List.set_cons_succ])
                    refine ord_take (i := 10) #[true, true, true, true, true, true, true, true, true, true, true, false, false, false] ?_ rfl (by kernel_rfl) (by kernel_rfl) (by kernel_rfl) (by kernel_rfl) (fun _ _ _ h => h) hHeld (by rfl) (fun wx hSx => ?_) ?_
                    rotate_left
                    · (unfold SB at hSx; go_simp; (try with_reducible rfl))
                    (try simp only [Act.put, List.setIfInBounds_toArray, List.set_cons_zero, List.set_cons_succ])
                    refine ord_take (i := 11) #[true, true, true, true, true, true, true, true, true, true, true, true, false, false] ?_ rfl (by kernel_rfl) (by kernel_rfl) (by kernel_rfl) (by kernel_rfl) (fun _ _ _ h => h) hHeld (by rfl) (fun wx hSx => ?_) ?_
                    rotate_left
                    · (unfold SB at hSx; go_simp; (try with_reducible rfl))
                    (try simp only [Act.put, List.setIfInBounds_toArray, List.set_cons_zero, List.set_cons_succ])
                    refine ord_take (i := 12) #[true, true, true, true, true, true, true, true, true, true, true, true, true, false] ?_ rfl (by kernel_rfl) (by kernel_rfl) (by kernel_rfl) (by kernel_rfl) (fun _ _ _ h => h) hHeld (by rfl) (fun wx hSx => ?_) ?_
                    rotate_left
                    · (unfold SB at hSx; go_simp; (try with_reducible rfl))
                    (try simp only [Act.put, List.setIfInBounds_toArray, List.set_cons_zero, List.set_cons_succ])
                    refine ord_take (i := 13) #[true, true, true, true, true, true, true, true, true, true, true, true, true, true] ?_ rfl (by kernel_rfl) (by kernel_rfl) (by kernel_rfl) (by kernel_rfl) (fun _ _ _ h => h) hHeld (by rfl) (fun wx hSx => ?_) ?_
                    rotate_left
                    · (unfold SB at hSx; go_simp; (try with_reducible rfl))
                    (try simp only [Act.put, List.setIfInBounds_toArray, List.set_cons_zero, List.set_cons_succ])
                    refine wpAnyH_done (by kernel_rfl) ?_ _
                    go_wp2_with fail
                    refine (lives_any _ (HT.out.below (B2.out.trans (by (repeat (first | (with_reducible exact Below.refl _ _) | (with_reducible assumption) | ((with_reducible refine Below.alloc ?_ ?_ _); (rotate_left); (first | omega | (simp <;> omega))) | ((with_reducible refine Below.setCell ?_ ?_ _); (rotate_left); (first | omega | (simp <;> omega))) | (with_reducible refine Below.drew ?_) | (with_reducible refine below_drewN ?_ _))))))).mono ?_
                    rintro e w3 ⟨rfl, hb⟩
                    have B3 : Below wr.heap.size wr w3 := Below.trans (by (repeat (first | (with_reducible exact Below.refl _ _) | (with_reducible assumption) | ((with_reducible refine Below.alloc ?_ ?_ _); (rotate_left); (first | omega | (simp <;> omega))) | ((with_reducible refine Below.setCell ?_ ?_ _); (rotate_left); (first | omega | (simp <;> omega))) | (with_reducible refine Below.drew ?_) | (with_reducible refine below_drewN ?_ _)))) hb
                    clear hb
                    go_wp2_with fail
                    go_ret
                    exact ⟨rfl, B2.out.trans (B3.mono (by omega))⟩
                  · have hd2 : (E k).bk ≤ (E (k + 1)).bk := by omega
                    clear hd
                    go_wp2_with fail
                    have n1 : IntKind.i64.wrap ((k : Int) + 1 - 1) = k := by rw [i64w]; unfold wrap64; omega
                    have n2 : ((k : Int) + 1).toNat = k + 1 := by omega
                    have n3 : IntKind.i64.wrap (k : Int) = k := by rw [i64w]; unfold wrap64; omega
                    refine ord_start (SB (wr.heap.size) [] _) 14 #[false, false, false, false, false, false, false, false, false, false, false, false, false, false] (by kernel_rfl) (by kernel_rfl) (by kernel_rfl) SB.refl.drew (fun hHeld => ?_)
                    refine ord_take (i := 0) #[true, false, false, false, false, false, false, false, false, false, false, false, false, false] ?_ rfl (by kernel_rfl) (by kernel_rfl) (by kernel_rfl) (by kernel_rfl) (fun _ _ _ h => h) hHeld (by rfl) (fun wx hSx => ?_) ?_
                    rotate_left
                    · (unfold SB at hSx; go_simp; (try with_reducible rfl))
                    (try simp only [Act.put, List.setIfInBounds_toArray, List.set_cons_zero, List.set_cons_succ])
                    refine ord_take (i := 1) #[true, true, false, false, false, false, false, false, false, false, false, false, false, false] ?_ rfl (by kernel_rfl) (by kernel_rfl) (by kernel_rfl) (by kernel_rfl) (fun _ _ _ h => h) hHeld (by rfl) (fun wx hSx => ?_) ?_
                    rotate_left
                    · (unfold SB at hSx; go_simp; (try with_reducible rfl))
                    (try simp only [Act.put, List.setIfInBounds_toArray, List.set_cons_zero, List.set_cons_succ])
                    refine ord_take (i := 2) #[true, true, true, false, false, false, false, false, false, false, false, false, false, false] ?_ rfl (by kernel_rfl) (by kernel_rfl) (by kernel_rfl) (by kernel_rfl) (fun _ _ _ h => h) hHeld (by rfl) (fun wx hSx => ?_) ?_
                    rotate_left
                    · (unfold SB at hSx; go_simp; (try with_reducible rfl))
                    (try simp only [Act.put, List.setIfInBounds_toArray, List.set_cons_zero, List.set_cons_succ])
                    refine ord_take (i := 3) #[true, true, true, true, false, false, false, false, false, false, false, false, false, false] ?_ rfl (by kernel_rfl) (by kernel_rfl) (by kernel_rfl) (by kernel_rfl) (fun _ _ _ h => h) hHeld (by rfl) (fun wx hSx => ?_) ?_
                    rotate_left
                    · (unfold SB at hSx; go_simp; (try with_reducible rfl))
                    (try simp only [Act.put, List.setIfInBounds_toArray, List.set_cons_zero, List.set_cons_succ])
                    refine ord_take (i := 4) #[true, true, true, true, true, false, false, false, false, false, false, false, false, false] ?_ rfl (by kernel_rfl) (by kernel_rfl) (by kernel_rfl) (by kernel_rfl) (fun _ _ _ h => h) hHeld (by rfl) (fun wx hSx => ?_) ?_
                    rotate_left
                    · (unfold SB at hSx; go_simp; (try with_reducible rfl))
                    (try simp only [Act.put, List.setIfInBounds_toArray, List.set_cons_zero, List.set_cons_succ])
                    refine ord_take (i := 5) #[true, true, true, true, true, true, false, false, false, false, false, false, false, false] ?_ rfl (by kernel_rfl) (by kernel_rfl) (by kernel_rfl) (by kernel_rfl) (fun _ _ _ h => h) hHeld (by rfl) (fun wx hSx => ?_) ?_
                    rotate_left
                    · (unfold SB at hSx; go_simp; (try with_reducible rfl))
                    (try simp only [Act.put, List.setIfInBounds_toArray, List.set_cons_zero, List.set_cons_succ])
                    refine ord_take (i := 6) #[true, true, true, true, true, true, true, false, false, false, false, false, false, false] ?_ rfl (by kernel_rfl) (by kernel_rfl) (by kernel_rfl) (by kernel_rfl) (fun _ _ _ h => h) hHeld (by rfl) (fun wx hSx => ?_) ?_
                    rotate_left
                    · (unfold SB at hSx; go_simp; (try with_reducible rfl))
                    (try simp only [Act.put, List.setIfInBounds_toArray, List.set_cons_zero, List.set_cons_succ])
                    refine ord_take (i := 7) #[true, true, true, true, true, true, true, true, false, false, false, false, false, false] ?_ rfl (by kernel_rfl) (by kernel_rfl) (by kernel_rfl) (by kernel_rfl) (fun _ _ _ h => h) hHeld (by rfl) (fun wx hSx => ?_) ?_
                    rotate_left
                    · (unfold SB at hSx; go_simp; (try with_reducible rfl))
                    (try simp only [Act.put, List.setIfInBounds_toArray, List.set_cons_zero, List.set_cons_succ])
                    refine ord_take (i := 8) #[true, true, true, true, true, true, true, true, true, false, false, false, false, false] ?_ rfl (by kernel_rfl) (by kernel_rfl) (by kernel_rfl) (by kernel_rfl) (fun _ _ _ h => h) hHeld (by rfl) (fun wx hSx => ?_) ?_
                    rotate_left
                    · (unfold SB at hSx; go_simp; (try with_reducible rfl))
                    (try simp only [Act.put, List.setIfInBounds_toArray, List.set_cons_zero, List.set_cons_succ])
                    refine ord_take (i := 9) #[true, true, true, true, true, true, true, true, true, true, false, false, false, false] ?_ rfl (by kernel_rfl) (by kernel_rfl) (by kernel_rfl) (by kernel_rfl) (fun _ _ _ h => h) hHeld (by rfl) (fun wx hSx => ?_) ?_
                    rotate_left
                    · (unfold SB at hSx; go_simp; (try with_reducible rfl))
                    (try simp only [Act.put, List.setIfInBounds_toArray, List.set_cons_zero, List.set_cons_succ])
                    refine ord_take (i := 10) #[true, true, true, true, true, true, true, true, true, true, true, false, false, false] ?_ rfl (by kernel_rfl) (by kernel_rfl) (by kernel_rfl) (by kernel_rfl) (fun _ _ _ h => h) hHeld (by rfl) (fun wx hSx => ?_) ?_
                    rotate_left
                    · (unfold SB at hSx; go_simp; (try with_reducible rfl))
                    (try simp only [Act.put, List.setIfInBounds_toArray, List.set_cons_zero, List.set_cons_succ])
                    refine ord_take (i := 11) #[true, true, true, true, true, true, true, true, true, true, true, true, false, false] ?_ rfl (by kernel_rfl) (by kernel_rfl) (by kernel_rfl) (by kernel_rfl) (fun _ _ _ h => h) hHeld (by rfl) (fun wx hSx => ?_) ?_
                    rotate_left
                    · (unfold SB at hSx; go_simp; (try with_reducible rfl))
                    (try simp only [Act.put, List.setIfInBounds_toArray, List.set_cons_zero, List.set_cons_succ])
                    refine ord_take (i := 12) #[true, true, true, true, true, true, true, true, true, true, true, true, true, false] ?_ rfl (by kernel_rfl) (by kernel_rfl) (by kernel_rfl) (by kernel_rfl) (fun _ _ _ h => h) hHeld (by rfl) (fun wx hSx => ?_) ?_
                    rotate_left
                    · (unfold SB at hSx; go_simp; (try with_reducible rfl))
                    (try simp only [Act.put, List.setIfInBounds_toArray, List.set_cons_zero, List.set_cons_succ])
                    refine ord_take (i := 13) #[true, true, true, true, true, true, true, true, true, true, true, true, true, true] ?_ rfl (by kernel_rfl) (by kernel_rfl) (by kernel_rfl) (by kernel_rfl) (fun _ _ _ h => h) hHeld (by rfl) (fun wx hSx => ?_) ?_
                    rotate_left
                    · (unfold SB at hSx; go_simp; (try with_reducible rfl))
                    (try simp only [Act.put, List.setIfInBounds_toArray, List.set_cons_zero, List.set_cons_succ])
                    refine wpAnyH_done (by kernel_rfl) ?_ _
                    go_wp2_with fail
                    go_roundw
                    case rel => exact ⟨k + 1, .inl (by have := HK.out; omega), by go_num, fun i hi => by
                      rcases Nat.lt_or_ge i k with h1 | h1
                      · exact HA.out i (by omega)
                      · obtain rfl : i = k := by omega
                        exact hd2, H0.out.drew⟩
                    case measure => have := HK.out; simp [intOf]; omega
                · have HS := hide (show ∀ i, i + 1 < jn → (E i).bk ≤ (E (i + 1)).bk from fun i hi => HA.out i (by omega))
                  have hm : (jn : Int) ≤ (k : Int) + 1 := by omega
                  clear hlt hk
                  go_wp2_with (with_reducible refine wpList_load_row rfl 33 (.tmp 3) rfl w.heap.size rfl 33 C (0, 0) _ X2.out Tryd.underlying33 rfl HW.out ?_)
                  refine (numbered_any C aA an ac jA jn jc HC.out HO.out E hjn _ (HJ.out.below B2.out)).mono ?_
                  rintro e w3 ⟨C', A', c', rfl, hC', hO', hown, hb⟩
                  have HC2 := hide hC'
                  have HO2 := hide hO'
                  have HOW := hide hown
                  have X3 := hide (blk_below hb (by omega) X2.out)
                  have HWB := hide (show (Tryd.prog.info? 33).map (·.size) = some C'.size by rw [hC'.size]; kernel_rfl)
                  have HZB := hide (show C.size = C'.size by rw [hC'.size, HC.out.size])
                  clear hC' hO' hown
                  have q3B : Below wr.heap.size wr w3 := (by refine Below.trans ?_ (hb.mono (by first | omega | (simp <;> omega))); (repeat (first | (with_reducible exact Below.refl _ _) | (with_reducible assumption) | ((with_reducible refine Below.alloc ?_ ?_ _); (rotate_left); (first | omega | (simp <;> omega))) | ((with_reducible refine Below.setCell ?_ ?_ _); (rotate_left); (first | omega | (simp <;> omega))) | (with_reducible refine Below.drew ?_) | (with_reducible refine below_drewN ?_ _))))
                  have q3z := hb.size
                  try simp at q3z
                  have q3t : wr.heap.size ≤ w3.heap.size := (by omega)
                  have q3s0 : w.heap.size + 1 < w3.heap.size := (by omega)
                  have q3n0_0 : ¬ w3.heap.size = w.heap.size + 1 := (by omega)
                  have q3n0_1 : ¬ w3.heap.size + 1 = w.heap.size + 1 := (by omega)
                  have q3n0_2 : ¬ w3.heap.size + 2 = w.heap.size + 1 := (by omega)
                  have q3c0_0 := hb.cell (p := ⟨w.heap.size + 1, 0, none⟩) (by first | omega | (simp <;> omega))
                  simp [go_sem, *] at q3c0_0
                  have q3c0_1 := hb.cell (p := ⟨w.heap.size + 1, 1, none⟩) (by first | omega | (simp <;> omega))
                  simp [go_sem, *] at q3c0_1
                  have q3c0_2 := hb.cell (p := ⟨w.heap.size + 1, 2, none⟩) (by first | omega | (simp <;> omega))
                  simp [go_sem, *] at q3c0_2
                  have q3c0_3 := hb.cell (p := ⟨w.heap.size + 1, 3, none⟩) (by first | omega | (simp <;> omega))
                  simp [go_sem, *] at q3c0_3
                  have q3f0 := fun o => hb.frozen (p := ⟨w.heap.size + 1, o, none⟩) (by first | omega | (simp <;> omega))
                  simp [go_sem, *] at q3f0
                  have q3o : ∀ b o, b < wr.heap.size → w3.cell? ⟨b, o, none⟩ = wr.cell? ⟨b, o, none⟩ := fun b o h => q3B.cell (p := ⟨b, o, none⟩) h
                  clear hb q2o q2f1 q2c1_3 q2c1_2 q2c1_1 q2c1_0 q2s1 q2f0 q2c0_19 q2s0 q2z q2B
                  have B3 := hide (B2.out.trans (q3B.mono (by omega)))
                  go_upto_region 9 with ((with_reducible refine wpList_store_newrow2 rfl 33 (.tmp 3) (.tmp 72) rfl rfl w.heap.size C' rfl rfl 33 C X3.out HWB.out HZB.out HO2.out ?_); intro w4 hb4 hz4 hx4 hk4)
                  have y0 := (World.cell?_of_block (a := ⟨w.heap.size + 1, 0, none⟩) (hk4 (w.heap.size + 1) (by omega))).trans q3c0_0
                  have y1 := (World.cell?_of_block (a := ⟨w.heap.size + 1, 1, none⟩) (hk4 (w.heap.size + 1) (by omega))).trans q3c0_1
                  have y2 := (World.cell?_of_block (a := ⟨w.heap.size + 1, 2, none⟩) (hk4 (w.heap.size + 1) (by omega))).trans q3c0_2
                  have y3 := (World.cell?_of_block (a := ⟨w.heap.size + 1, 3, none⟩) (hk4 (w.heap.size + 1) (by omega))).trans q3c0_3
                  have yf := fun o => (World.frozen?_of_block (a := ⟨w.heap.size + 1, o, none⟩) (hk4 (w.heap.size + 1) (by omega))).trans (q3f0 o)
                  have B4 := hide (B3.out.trans hb4)
                  have X4 := hide hx4
                  have HJ4 := hide (show Jrn w4 A' jn (numA E) from ⟨own_cellsE (own_keep HOW.out hk4 (by omega)) (fun i hi => (HJ.out.row.2 i hi).below B4.out), fun i hi => HJ.out.legs i hi⟩)
                  have HR4 := hide (HR.out.below B4.out)
                  have z4 : w.heap.size + 1 < w4.heap.size := by omega
                  have u1 : x1 + 1 ≤ 9223372036854775807 := by omega
                  have u2 : -9223372036854775808 ≤ x1 + 1 := by omega
                  have u3 : m + 1 ≤ 9223372036854775807 := by have := HI.out.2.2.2; omega
                  have u4 : -9223372036854775808 ≤ m + 1 := by have := HI.out.1.1; omega
                  have hrel3 : w3.heap.size = w4.heap.size := hz4.symm
                  have HZ34 := hide hrel3
                  clear hb4 hz4 hx4 hk4 hrel3 hm
                  clear q3c0_0 q3c0_1 q3c0_2 q3c0_3
                  by_cases hok : mkE (hasA a x0 an) x1 x2 m = 0 ∧ mkE (hasA a x0 an) (x1 + 1) (m + 1) x3 = 0 ∧ mkE (hasA a x0 an) x1 x2 x3 = 0
                  · obtain ⟨O1, K1, K2, n1, n2, P1, P2, h3⟩ := fol3 HC2.out a E hn hjn HS.out (x0 := x0) (x1 := x1) (x2 := x2) (m := m) (x3 := x3) g0 g3 g4 hok.1 hok.2.1 hok.2.2
                    have F3 := hide h3
                    have hle : n1 + n2 ≤ 1000000 := by have := h3.le; omega
                    have HFO := hide (fol_yes (ac := x0) (no := x1) (t := m) (cl := K1) (bac := x0) (bno := x1 + 1) (bf := m + 1) (bop := K1) rfl rfl rfl rfl)
                    obtain ⟨ip, hip0, hip1, hip2, hip3⟩ := info3 pos_info
                    have I0 := hide hip0
                    have I1 := hide hip1
                    have I2 := hide hip2
                    have I3 := hide hip3
                    clear h3 hok hip0 hip1 hip2 hip3
                    go_wp2_with (with_reducible refine wpList_load_row rfl 33 (.tmp 3) rfl w.heap.size rfl 33 C' (0, 0) _ X4.out Tryd.underlying33 rfl HWB.out ?_)
                    refine (F3.out.m1 _ HR4.out HJ4.out).mono ?_
                    rintro e w5 ⟨A1, d1, rfl, hrow, hb⟩
                    have HA1 := hide hrow
                    have X5 := hide (blk_below hb (by omega) X4.out)
                    clear hrow
                    have q4B : Below w4.heap.size w4 w5 := (by refine Below.trans ?_ (hb.mono (by first | omega | (simp <;> omega))); (repeat (first | (with_reducible exact Below.refl _ _) | (with_reducible assumption) | ((with_reducible refine Below.alloc ?_ ?_ _); (rotate_left); (first | omega | (simp <;> omega))) | ((with_reducible refine Below.setCell ?_ ?_ _); (rotate_left); (first | omega | (simp <;> omega))) | (with_reducible refine Below.drew ?_) | (with_reducible refine below_drewN ?_ _))))
                    have q4z := hb.size
                    try simp at q4z
                    have q4t : w4.heap.size ≤ w5.heap.size := (by omega)
                    have q4s0 : w.heap.size + 1 < w5.heap.size := (by omega)
                    have q4n0_0 : ¬ w5.heap.size = w.heap.size + 1 := (by omega)
                    have q4n0_1 : ¬ w5.heap.size + 1 = w.heap.size + 1 := (by omega)
                    have q4n0_2 : ¬ w5.heap.size + 2 = w.heap.size + 1 := (by omega)
                    have q4c0_0 := hb.cell (p := ⟨w.heap.size + 1, 0, none⟩) (by first | omega | (simp <;> omega))
                    simp [go_sem, *] at q4c0_0
                    have q4c0_1 := hb.cell (p := ⟨w.heap.size + 1, 1, none⟩) (by first | omega | (simp <;> omega))
                    simp [go_sem, *] at q4c0_1
                    have q4c0_2 := hb.cell (p := ⟨w.heap.size + 1, 2, none⟩) (by first | omega | (simp <;> omega))
                    simp [go_sem, *] at q4c0_2
                    have q4c0_3 := hb.cell (p := ⟨w.heap.size + 1, 3, none⟩) (by first | omega | (simp <;> omega))
                    simp [go_sem, *] at q4c0_3
                    have q4f0 := fun o => hb.frozen (p := ⟨w.heap.size + 1, o, none⟩) (by first | omega | (simp <;> omega))
                    simp [go_sem, *] at q4f0
                    have q4o : ∀ b o, b < w4.heap.size → w5.cell? ⟨b, o, none⟩ = w4.cell? ⟨b, o, none⟩ := fun b o h => q4B.cell (p := ⟨b, o, none⟩) h
                    clear hb
                    have B5 := hide q4B
                    go_wp2_with (with_reducible refine wpList_load_row rfl 33 (.tmp 3) rfl w.heap.size rfl 33 C' (0, 0) _ (blk_under X5.out) Tryd.underlying33 rfl HWB.out ?_)
                    refine (F3.out.m2 _ (HR4.out.below (B5.out.trans (by (repeat (first | (with_reducible exact Below.refl _ _) | (with_reducible assumption) | ((with_reducible refine Below.alloc ?_ ?_ _); (rotate_left); (first | omega | (simp <;> omega))) | ((with_reducible refine Below.setCell ?_ ?_ _); (rotate_left); (first | omega | (simp <;> omega))) | (with_reducible refine Below.drew ?_) | (with_reducible refine below_drewN ?_ _)))))) (HJ4.out.below (B5.out.trans (by (repeat (first | (with_reducible exact Below.refl _ _) | (with_reducible assumption) | ((with_reducible refine Below.alloc ?_ ?_ _); (rotate_left); (first | omega | (simp <;> omega))) | ((with_reducible refine Below.setCell ?_ ?_ _); (rotate_left); (first | omega | (simp <;> omega))) | (with_reducible refine Below.drew ?_) | (with_reducible refine below_drewN ?_ _))))))).mono ?_
                    rintro e w6 ⟨A2, d2, rfl, hrow, hb⟩
                    have HA2 := hide hrow
                    have X6 := hide (blk_below hb (by simp; omega) (blk_under X5.out))
                    clear hrow
                    have q5B : Below w5.heap.size w5 w6 := (by refine Below.trans ?_ (hb.mono (by first | omega | (simp <;> omega))); (repeat (first | (with_reducible exact Below.refl _ _) | (with_reducible assumption) | ((with_reducible refine Below.alloc ?_ ?_ _); (rotate_left); (first | omega | (simp <;> omega))) | ((with_reducible refine Below.setCell ?_ ?_ _); (rotate_left); (first | omega | (simp <;> omega))) | (with_reducible refine Below.drew ?_) | (with_reducible refine below_drewN ?_ _))))
                    have q5z := hb.size
                    try simp at q5z
                    have q5t : w5.heap.size ≤ w6.heap.size := (by omega)
                    have q5s0 : w.heap.size + 1 < w6.heap.size := (by omega)
                    have q5n0_0 : ¬ w6.heap.size = w.heap.size + 1 := (by omega)
                    have q5n0_1 : ¬ w6.heap.size + 1 = w.heap.size + 1 := (by omega)
                    have q5n0_2 : ¬ w6.heap.size + 2 = w.heap.size + 1 := (by omega)
                    have q5c0_0 := hb.cell (p := ⟨w.heap.size + 1, 0, none⟩) (by first | omega | (simp <;> omega))
                    simp [go_sem, *] at q5c0_0
                    have q5c0_1 := hb.cell (p := ⟨w.heap.size + 1, 1, none⟩) (by first | omega | (simp <;> omega))
                    simp [go_sem, *] at q5c0_1
                    have q5c0_2 := hb.cell (p := ⟨w.heap.size + 1, 2, none⟩) (by first | omega | (simp <;> omega))
                    simp [go_sem, *] at q5c0_2
                    have q5c0_3 := hb.cell (p := ⟨w.heap.size + 1, 3, none⟩) (by first | omega | (simp <;> omega))
                    simp [go_sem, *] at q5c0_3
                    have q5f0 := fun o => hb.frozen (p := ⟨w.heap.size + 1, o, none⟩) (by first | omega | (simp <;> omega))
                    simp [go_sem, *] at q5f0
                    have q5s1 : w5.heap.size < w6.heap.size := (by omega)
                    have q5n1_0 : ¬ w6.heap.size = w5.heap.size := (by omega)
                    have q5n1_1 : ¬ w6.heap.size + 1 = w5.heap.size := (by omega)
                    have q5n1_2 : ¬ w6.heap.size + 2 = w5.heap.size := (by omega)
                    have q5c1_0 := hb.cell (p := ⟨w5.heap.size, 0, none⟩) (by first | omega | (simp <;> omega))
                    simp [go_sem, *] at q5c1_0
                    have q5c1_1 := hb.cell (p := ⟨w5.heap.size, 1, none⟩) (by first | omega | (simp <;> omega))
                    simp [go_sem, *] at q5c1_1
                    have q5c1_2 := hb.cell (p := ⟨w5.heap.size, 2, none⟩) (by first | omega | (simp <;> omega))
                    simp [go_sem, *] at q5c1_2
                    have q5c1_3 := hb.cell (p := ⟨w5.heap.size, 3, none⟩) (by first | omega | (simp <;> omega))
                    simp [go_sem, *] at q5c1_3
                    have q5c1_4 := hb.cell (p := ⟨w5.heap.size, 4, none⟩) (by first | omega | (simp <;> omega))
                    simp [go_sem, *] at q5c1_4
                    have q5c1_5 := hb.cell (p := ⟨w5.heap.size, 5, none⟩) (by first | omega | (simp <;> omega))
                    simp [go_sem, *] at q5c1_5
                    have q5c1_6 := hb.cell (p := ⟨w5.heap.size, 6, none⟩) (by first | omega | (simp <;> omega))
                    simp [go_sem, *] at q5c1_6
                    have q5f1 := fun o => hb.frozen (p := ⟨w5.heap.size, o, none⟩) (by first | omega | (simp <;> omega))
                    simp [go_sem, *] at q5f1
                    have q5o : ∀ b o, b < w5.heap.size → w6.cell? ⟨b, o, none⟩ = w5.cell? ⟨b, o, none⟩ := fun b o h => q5B.cell (p := ⟨b, o, none⟩) h
                    clear hb q4o q4f0 q4c0_3 q4c0_2 q4c0_1 q4c0_0 q4s0 q4z q4B
                    have B6 := hide q5B
                    go_wp2_with (with_reducible refine wpList_load_row rfl 33 (.tmp 3) rfl w.heap.size rfl 33 C' (0, 0) _ (blk_under X6.out) Tryd.underlying33 rfl HWB.out ?_)
                    refine (F3.out.m3 _ (HR4.out.below (B5.out.trans ((B6.out.mono (by omega)).trans (by (repeat (first | (with_reducible exact Below.refl _ _) | (with_reducible assumption) | ((with_reducible refine Below.alloc ?_ ?_ _); (rotate_left); (first | omega | (simp <;> omega))) | ((with_reducible refine Below.setCell ?_ ?_ _); (rotate_left); (first | omega | (simp <;> omega))) | (with_reducible refine Below.drew ?_) | (with_reducible refine below_drewN ?_ _))))))) (HJ4.out.below (B5.out.trans ((B6.out.mono (by omega)).trans (by (repeat (first | (with_reducible exact Below.refl _ _) | (with_reducible assumption) | ((with_reducible refine Below.alloc ?_ ?_ _); (rotate_left); (first | omega | (simp <;> omega))) | ((with_reducible refine Below.setCell ?_ ?_ _); (rotate_left); (first | omega | (simp <;> omega))) | (with_reducible refine Below.drew ?_) | (with_reducible refine below_drewN ?_ _)))))))).mono ?_
                    rintro e w7 ⟨A3, d3, rfl, hrow, hb⟩
                    have HA3 := hide hrow
                    clear hrow
                    have q6B : Below w6.heap.size w6 w7 := (by refine Below.trans ?_ (hb.mono (by first | omega | (simp <;> omega))); (repeat (first | (with_reducible exact Below.refl _ _) | (with_reducible assumption) | ((with_reducible refine Below.alloc ?_ ?_ _); (rotate_left); (first | omega | (simp <;> omega))) | ((with_reducible refine Below.setCell ?_ ?_ _); (rotate_left); (first | omega | (simp <;> omega))) | (with_reducible refine Below.drew ?_) | (with_reducible refine below_drewN ?_ _))))
                    have q6z := hb.size
                    try simp at q6z
                    have q6t : w6.heap.size ≤ w7.heap.size := (by omega)
                    have q6s0 : w.heap.size + 1 < w7.heap.size := (by omega)
                    have q6n0_0 : ¬ w7.heap.size = w.heap.size + 1 := (by omega)
                    have q6n0_1 : ¬ w7.heap.size + 1 = w.heap.size + 1 := (by omega)
                    have q6n0_2 : ¬ w7.heap.size + 2 = w.heap.size + 1 := (by omega)
                    have q6c0_0 := hb.cell (p := ⟨w.heap.size + 1, 0, none⟩) (by first | omega | (simp <;> omega))
                    simp [go_sem, *] at q6c0_0
                    have q6c0_1 := hb.cell (p := ⟨w.heap.size + 1, 1, none⟩) (by first | omega | (simp <;> omega))
                    simp [go_sem, *] at q6c0_1
                    have q6c0_2 := hb.cell (p := ⟨w.heap.size + 1, 2, none⟩) (by first | omega | (simp <;> omega))
                    simp [go_sem, *] at q6c0_2
                    have q6c0_3 := hb.cell (p := ⟨w.heap.size + 1, 3, none⟩) (by first | omega | (simp <;> omega))
                    simp [go_sem, *] at q6c0_3
                    have q6f0 := fun o => hb.frozen (p := ⟨w.heap.size + 1, o, none⟩) (by first | omega | (simp <;> omega))
                    simp [go_sem, *] at q6f0
                    have q6s1 : w5.heap.size < w7.heap.size := (by omega)
                    have q6n1_0 : ¬ w7.heap.size = w5.heap.size := (by omega)
                    have q6n1_1 : ¬ w7.heap.size + 1 = w5.heap.size := (by omega)
                    have q6n1_2 : ¬ w7.heap.size + 2 = w5.heap.size := (by omega)
                    have q6c1_0 := hb.cell (p := ⟨w5.heap.size, 0, none⟩) (by first | omega | (simp <;> omega))
                    simp [go_sem, *] at q6c1_0
                    have q6c1_1 := hb.cell (p := ⟨w5.heap.size, 1, none⟩) (by first | omega | (simp <;> omega))
                    simp [go_sem, *] at q6c1_1
                    have q6c1_2 := hb.cell (p := ⟨w5.heap.size, 2, none⟩) (by first | omega | (simp <;> omega))
                    simp [go_sem, *] at q6c1_2
                    have q6c1_3 := hb.cell (p := ⟨w5.heap.size, 3, none⟩) (by first | omega | (simp <;> omega))
                    simp [go_sem, *] at q6c1_3
                    have q6c1_4 := hb.cell (p := ⟨w5.heap.size, 4, none⟩) (by first | omega | (simp <;> omega))
                    simp [go_sem, *] at q6c1_4
                    have q6c1_5 := hb.cell (p := ⟨w5.heap.size, 5, none⟩) (by first | omega | (simp <;> omega))
                    simp [go_sem, *] at q6c1_5
                    have q6c1_6 := hb.cell (p := ⟨w5.heap.size, 6, none⟩) (by first | omega | (simp <;> omega))
                    simp [go_sem, *] at q6c1_6
                    have q6f1 := fun o => hb.frozen (p := ⟨w5.heap.size, o, none⟩) (by first | omega | (simp <;> omega))
                    simp [go_sem, *] at q6f1
                    have q6s2 : w6.heap.size < w7.heap.size := (by omega)
                    have q6n2_0 : ¬ w7.heap.size = w6.heap.size := (by omega)
                    have q6n2_1 : ¬ w7.heap.size + 1 = w6.heap.size := (by omega)
                    have q6n2_2 : ¬ w7.heap.size + 2 = w6.heap.size := (by omega)
                    have q6c2_0 := hb.cell (p := ⟨w6.heap.size, 0, none⟩) (by first | omega | (simp <;> omega))
                    simp [go_sem, *] at q6c2_0
                    have q6c2_1 := hb.cell (p := ⟨w6.heap.size, 1, none⟩) (by first | omega | (simp <;> omega))
                    simp [go_sem, *] at q6c2_1
                    have q6c2_2 := hb.cell (p := ⟨w6.heap.size, 2, none⟩) (by first | omega | (simp <;> omega))
                    simp [go_sem, *] at q6c2_2
                    have q6c2_3 := hb.cell (p := ⟨w6.heap.size, 3, none⟩) (by first | omega | (simp <;> omega))
                    simp [go_sem, *] at q6c2_3
                    have q6c2_4 := hb.cell (p := ⟨w6.heap.size, 4, none⟩) (by first | omega | (simp <;> omega))
                    simp [go_sem, *] at q6c2_4
                    have q6c2_5 := hb.cell (p := ⟨w6.heap.size, 5, none⟩) (by first | omega | (simp <;> omega))
                    simp [go_sem, *] at q6c2_5
                    have q6c2_6 := hb.cell (p := ⟨w6.heap.size, 6, none⟩) (by first | omega | (simp <;> omega))
                    simp [go_sem, *] at q6c2_6
                    have q6f2 := fun o => hb.frozen (p := ⟨w6.heap.size, o, none⟩) (by first | omega | (simp <;> omega))
                    simp [go_sem, *] at q6f2
                    have q6o : ∀ b o, b < w6.heap.size → w7.cell? ⟨b, o, none⟩ = w6.cell? ⟨b, o, none⟩ := fun b o h => q6B.cell (p := ⟨b, o, none⟩) h
                    clear hb q5o q5f1 q5c1_6 q5c1_5 q5c1_4 q5c1_3 q5c1_2 q5c1_1 q5c1_0 q5s1 q5f0 q5c0_3 q5c0_2 q5c0_1 q5c0_0 q5s0 q5z q5B
                    have B7 := hide q6B
                    have B57 := hide (B6.out.trans (B7.out.mono (by omega)))
                    go_upto_region 16 with (at_builtin; go_loud (refine wpList_append_rowS _ rfl (.tmp 144) (.tmp 146) 38 rfl (w7.heap.size + 1) 66 ip (.agg #[.int .i64 0, .int .i64 0, .int .i64 0, .string ⟨#[]⟩]) 4 40 Tryd.underlying38 I0.out I1.out I2.out I3.out rfl (by decide) _ 0 [] rfl (own_empty (by simp) (by simp)) A1 n1 d1 rfl (fun k => posC (P1 k)) (HA1.out.below (B57.out.trans (by (repeat (first | (with_reducible exact Below.refl _ _) | (with_reducible assumption) | ((with_reducible refine Below.alloc ?_ ?_ _); (rotate_left); (first | omega | (simp <;> omega))) | ((with_reducible refine Below.setCell ?_ ?_ _); (rotate_left); (first | omega | (simp <;> omega))) | (with_reducible refine Below.drew ?_) | (with_reducible refine below_drewN ?_ _)))))) (cellsOfP P1 n1) (cellsOfP_len P1 n1) (cellsOfP_at P1 n1) (cellsOfP_ones P1 n1) (by simp only [maxLen]; omega) (by omega) (by simp) ?_); intro A4 d4 w8 ho hg hv)
                    have hb := below_grown (B := w7.heap.size + 1) hg (by simp) (fun k hk => Nat.le_of_eq (Option.some.inj hk))
                    simp only [List.nil_append, Nat.zero_add] at ho
                    have HO4 := hide ho
                    clear hg hv ho
                    have zz7 : w.heap.size < w7.heap.size := (by omega)
                    have zz8 : w5.heap.size ≤ w7.heap.size := (by omega)
                    have zz9 : w6.heap.size ≤ w7.heap.size := (by omega)
                    have q7B : Below w7.heap.size w7 w8 := (by refine Below.trans ?_ (hb.mono (by first | omega | (simp <;> omega))); (repeat (first | (with_reducible exact Below.refl _ _) | (with_reducible assumption) | ((with_reducible refine Below.alloc ?_ ?_ _); (rotate_left); (first | omega | (simp <;> omega))) | ((with_reducible refine Below.setCell ?_ ?_ _); (rotate_left); (first | omega | (simp <;> omega))) | (with_reducible refine Below.drew ?_) | (with_reducible refine below_drewN ?_ _))))
                    have q7z := hb.size
                    try simp at q7z
                    have q7t : w7.heap.size ≤ w8.heap.size := (by omega)
                    have q7s0 : w.heap.size + 1 < w8.heap.size := (by omega)
                    have q7n0_0 : ¬ w8.heap.size = w.heap.size + 1 := (by omega)
                    have q7n0_1 : ¬ w8.heap.size + 1 = w.heap.size + 1 := (by omega)
                    have q7n0_2 : ¬ w8.heap.size + 2 = w.heap.size + 1 := (by omega)
                    have q7c0_0 := hb.cell (p := ⟨w.heap.size + 1, 0, none⟩) (by first | omega | (simp <;> omega))
                    simp [go_sem, *] at q7c0_0
                    have q7c0_1 := hb.cell (p := ⟨w.heap.size + 1, 1, none⟩) (by first | omega | (simp <;> omega))
                    simp [go_sem, *] at q7c0_1
                    have q7c0_2 := hb.cell (p := ⟨w.heap.size + 1, 2, none⟩) (by first | omega | (simp <;> omega))
                    simp [go_sem, *] at q7c0_2
                    have q7c0_3 := hb.cell (p := ⟨w.heap.size + 1, 3, none⟩) (by first | omega | (simp <;> omega))
                    simp [go_sem, *] at q7c0_3
                    have q7f0 := fun o => hb.frozen (p := ⟨w.heap.size + 1, o, none⟩) (by first | omega | (simp <;> omega))
                    simp [go_sem, *] at q7f0
                    have q7s1 : w5.heap.size < w8.heap.size := (by omega)
                    have q7n1_0 : ¬ w8.heap.size = w5.heap.size := (by omega)
                    have q7n1_1 : ¬ w8.heap.size + 1 = w5.heap.size := (by omega)
                    have q7n1_2 : ¬ w8.heap.size + 2 = w5.heap.size := (by omega)
                    have q7c1_0 := hb.cell (p := ⟨w5.heap.size, 0, none⟩) (by first | omega | (simp <;> omega))
                    simp [go_sem, *] at q7c1_0
                    have q7c1_1 := hb.cell (p := ⟨w5.heap.size, 1, none⟩) (by first | omega | (simp <;> omega))
                    simp [go_sem, *] at q7c1_1
                    have q7c1_2 := hb.cell (p := ⟨w5.heap.size, 2, none⟩) (by first | omega | (simp <;> omega))
                    simp [go_sem, *] at q7c1_2
                    have q7c1_3 := hb.cell (p := ⟨w5.heap.size, 3, none⟩) (by first | omega | (simp <;> omega))
                    simp [go_sem, *] at q7c1_3
                    have q7c1_4 := hb.cell (p := ⟨w5.heap.size, 4, none⟩) (by first | omega | (simp <;> omega))
                    simp [go_sem, *] at q7c1_4
                    have q7c1_5 := hb.cell (p := ⟨w5.heap.size, 5, none⟩) (by first | omega | (simp <;> omega))
                    simp [go_sem, *] at q7c1_5
                    have q7c1_6 := hb.cell (p := ⟨w5.heap.size, 6, none⟩) (by first | omega | (simp <;> omega))
                    simp [go_sem, *] at q7c1_6
                    have q7f1 := fun o => hb.frozen (p := ⟨w5.heap.size, o, none⟩) (by first | omega | (simp <;> omega))
                    simp [go_sem, *] at q7f1
                    have q7s2 : w6.heap.size < w8.heap.size := (by omega)
                    have q7n2_0 : ¬ w8.heap.size = w6.heap.size := (by omega)
                    have q7n2_1 : ¬ w8.heap.size + 1 = w6.heap.size := (by omega)
                    have q7n2_2 : ¬ w8.heap.size + 2 = w6.heap.size := (by omega)
                    have q7c2_0 := hb.cell (p := ⟨w6.heap.size, 0, none⟩) (by first | omega | (simp <;> omega))
                    simp [go_sem, *] at q7c2_0
                    have q7c2_1 := hb.cell (p := ⟨w6.heap.size, 1, none⟩) (by first | omega | (simp <;> omega))
                    simp [go_sem, *] at q7c2_1
                    have q7c2_2 := hb.cell (p := ⟨w6.heap.size, 2, none⟩) (by first | omega | (simp <;> omega))
                    simp [go_sem, *] at q7c2_2
                    have q7c2_3 := hb.cell (p := ⟨w6.heap.size, 3, none⟩) (by first | omega | (simp <;> omega))
                    simp [go_sem, *] at q7c2_3
                    have q7c2_4 := hb.cell (p := ⟨w6.heap.size, 4, none⟩) (by first | omega | (simp <;> omega))
                    simp [go_sem, *] at q7c2_4
                    have q7c2_5 := hb.cell (p := ⟨w6.heap.size, 5, none⟩) (by first | omega | (simp <;> omega))
                    simp [go_sem, *] at q7c2_5
                    have q7c2_6 := hb.cell (p := ⟨w6.heap.size, 6, none⟩) (by first | omega | (simp <;> omega))
                    simp [go_sem, *] at q7c2_6
                    have q7f2 := fun o => hb.frozen (p := ⟨w6.heap.size, o, none⟩) (by first | omega | (simp <;> omega))
                    simp [go_sem, *] at q7f2
                    have q7s3 : w7.heap.size < w8.heap.size := (by omega)
                    have q7n3_0 : ¬ w8.heap.size = w7.heap.size := (by omega)
                    have q7n3_1 : ¬ w8.heap.size + 1 = w7.heap.size := (by omega)
                    have q7n3_2 : ¬ w8.heap.size + 2 = w7.heap.size := (by omega)
                    have q7c3_0 := hb.cell (p := ⟨w7.heap.size, 0, none⟩) (by first | omega | (simp <;> omega))
                    simp [go_sem, *] at q7c3_0
                    have q7c3_1 := hb.cell (p := ⟨w7.heap.size, 1, none⟩) (by first | omega | (simp <;> omega))
                    simp [go_sem, *] at q7c3_1
                    have q7c3_2 := hb.cell (p := ⟨w7.heap.size, 2, none⟩) (by first | omega | (simp <;> omega))
                    simp [go_sem, *] at q7c3_2
                    have q7c3_3 := hb.cell (p := ⟨w7.heap.size, 3, none⟩) (by first | omega | (simp <;> omega))
                    simp [go_sem, *] at q7c3_3
                    have q7c3_4 := hb.cell (p := ⟨w7.heap.size, 4, none⟩) (by first | omega | (simp <;> omega))
                    simp [go_sem, *] at q7c3_4
                    have q7c3_5 := hb.cell (p := ⟨w7.heap.size, 5, none⟩) (by first | omega | (simp <;> omega))
                    simp [go_sem, *] at q7c3_5
                    have q7c3_6 := hb.cell (p := ⟨w7.heap.size, 6, none⟩) (by first | omega | (simp <;> omega))
                    simp [go_sem, *] at q7c3_6
                    have q7f3 := fun o => hb.frozen (p := ⟨w7.heap.size, o, none⟩) (by first | omega | (simp <;> omega))
                    simp [go_sem, *] at q7f3
                    have q7o : ∀ b o, b < w7.heap.size → w8.cell? ⟨b, o, none⟩ = w7.cell? ⟨b, o, none⟩ := fun b o h => q7B.cell (p := ⟨b, o, none⟩) h
                    clear hb q6o q6f2 q6c2_6 q6c2_5 q6c2_4 q6c2_3 q6c2_2 q6c2_1 q6c2_0 q6s2 q6f1 q6c1_6 q6c1_5 q6c1_4 q6c1_3 q6c1_2 q6c1_1 q6c1_0 q6s1 q6f0 q6c0_3 q6c0_2 q6c0_1 q6c0_0 q6s0 q6z q6B
                    have B8 := hide q7B
                    obtain ⟨gb, hgb, hgl, hgs⟩ := own_gb HO4.out (w7.heap.size + 1) (by omega) (Nat.le_refl _)
                    have HGB := hide hgb
                    have e1 : ¬ w.heap.size + 1 = gb := by omega
                    have e2 : ¬ w5.heap.size = gb := by omega
                    have e3 : ¬ w6.heap.size = gb := by omega
                    have e4 : ¬ w7.heap.size = gb := by omega
                    have e5 : ¬ w8.heap.size = gb := by omega
                    clear hgb
                    go_wp2_with fail
                    refine ord_start (SB (w8.heap.size) [gb] _) 19 #[false, false, false, false, false, false, false, false, false, false, false, false, false, false, false, false, false, false, false] (by kernel_rfl) (by kernel_rfl) (by kernel_rfl) SB.refl.drew (fun hHeld => ?_)
                    refine ord_take (i := 0) #[true, false, false, false, false, false, false, false, false, false, false, false, false, false, false, false, false, false, false] ?_ rfl (by kernel_rfl) (by kernel_rfl) (by kernel_rfl) (by kernel_rfl) (fun _ _ _ h => h) hHeld (by rfl) (fun wx hSx => ?_) ?_
                    rotate_left
                    · (unfold SB at hSx; go_simp; (try with_reducible rfl))
                    (try simp only [Act.put, List.setIfInBounds_toArray, List.set_cons_zero, List.set_cons_succ])
                    refine ord_take (i := 1) #[true, true, false, false, false, false, false, false, false, false, false, false, false, false, false, false, false, false, false] ?_ rfl (by kernel_rfl) (by kernel_rfl) (by kernel_rfl) (by kernel_rfl) (fun _ _ _ h => h) hHeld (by rfl) (fun wx hSx => ?_) ?_
                    rotate_left
                    · (unfold SB at hSx; go_simp; (try with_reducible rfl))
                    (try simp only [Act.put, List.setIfInBounds_toArray, List.set_cons_zero, List.set_cons_succ])
                    refine ord_take (i := 2) #[true, true, true, false, false, false, false, false, false, false, false, false, false, false, false, false, false, false, false] ?_ rfl (by kernel_rfl) (by kernel_rfl) (by kernel_rfl) (by kernel_rfl) (fun _ _ _ h => h) hHeld (by rfl) (fun wx hSx => ?_) ?_
                    rotate_left
                    · (unfold SB at hSx; go_simp; (try with_reducible rfl))
                    (try simp only [Act.put, List.setIfInBounds_toArray, List.set_cons_zero, List.set_cons_succ])
                    refine ord_take (i := 3) #[true, true, true, true, false, false, false, false, false, false, false, false, false, false, false, false, false, false, false] ?_ rfl (by kernel_rfl) (by kernel_rfl) (by kernel_rfl) (by kernel_rfl) (fun _ _ _ h => h) hHeld (by rfl) (fun wx hSx => ?_) ?_
                    rotate_left
                    · (unfold SB at hSx; go_simp; (try with_reducible rfl))
                    (try simp only [Act.put, List.setIfInBounds_toArray, List.set_cons_zero, List.set_cons_succ])
                    refine ord_take (i := 4) #[true, true, true, true, true, false, false, false, false, false, false, false, false, false, false, false, false, false, false] ?_ rfl (by kernel_rfl) (by kernel_rfl) (by kernel_rfl) (by kernel_rfl) (fun _ _ _ h => h) hHeld (by rfl) (fun wx hSx => ?_) ?_
                    rotate_left
                    · (unfold SB at hSx; go_simp; (try with_reducible rfl))
                    (try simp only [Act.put, List.setIfInBounds_toArray, List.set_cons_zero, List.set_cons_succ])
                    refine ord_take (i := 5) #[true, true, true, true, true, true, false, false, false, false, false, false, false, false, false, false, false, false, false] ?_ rfl (by kernel_rfl) (by kernel_rfl) (by kernel_rfl) (by kernel_rfl) (fun _ _ _ h => h) hHeld (by rfl) (fun wx hSx => ?_) ?_
                    rotate_left
                    · (unfold SB at hSx; go_simp; (try with_reducible rfl))
                    (try simp only [Act.put, List.setIfInBounds_toArray, List.set_cons_zero, List.set_cons_succ])
                    refine ord_take (i := 6) #[true, true, true, true, true, true, true, false, false, false, false, false, false, false, false, false, false, false, false] ?_ rfl (by kernel_rfl) (by kernel_rfl) (by kernel_rfl) (by kernel_rfl) (fun _ _ _ h => h) hHeld (by rfl) (fun wx hSx => ?_) ?_
                    rotate_left
                    · (unfold SB at hSx; go_simp; (try with_reducible rfl))
                    (try simp only [Act.put, List.setIfInBounds_toArray, List.set_cons_zero, List.set_cons_succ])
                    refine ord_take (i := 7) #[true, true, true, true, true, true, true, true, false, false, false, false, false, false, false, false, false, false, false] ?_ rfl (by kernel_rfl) (by kernel_rfl) (by kernel_rfl) (by kernel_rfl) (fun _ _ _ h => h) hHeld (by rfl) (fun wx hSx => ?_) ?_
                    rotate_left
                    · (unfold SB at hSx; go_simp; (try with_reducible rfl))
                    (try simp only [Act.put, List.setIfInBounds_toArray, List.set_cons_zero, List.set_cons_succ])
                    refine ord_take (i := 8) #[true, true, true, true, true, true, true, true, true, false, false, false, false, false, false, false, false, false, false] ?_ rfl (by kernel_rfl) (by kernel_rfl) (by kernel_rfl) (by kernel_rfl) (fun _ _ _ h => h) hHeld (by rfl) (fun wx hSx => ?_) ?_
                    rotate_left
                    · (unfold SB at hSx; go_simp; (try with_reducible rfl))
                    (try simp only [Act.put, List.setIfInBounds_toArray, List.set_cons_zero, List.set_cons_succ])
                    refine ord_take (i := 9) #[true, true, true, true, true, true, true, true, true, true, false, false, false, false, false, false, false, false, false] ?_ rfl (by kernel_rfl) (by kernel_rfl) (by kernel_rfl) (by kernel_rfl) (fun _ _ _ h => h) hHeld (by rfl) (fun wx hSx => ?_) ?_
                    rotate_left
                    · (unfold SB at hSx; go_simp; (try with_reducible rfl))
                    (try simp only [Act.put, List.setIfInBounds_toArray, List.set_cons_zero, List.set_cons_succ])
                    refine ord_take (i := 10) #[true, true, true, true, true, true, true, true, true, true, true, false, false, false, false, false, false, false, false] ?_ rfl (by kernel_rfl) (by kernel_rfl) (by kernel_rfl) (by kernel_rfl) (fun _ _ _ h => h) hHeld (by rfl) (fun wx hSx => ?_) ?_
                    rotate_left
                    · (unfold SB at hSx; go_simp; (try with_reducible rfl))
                    (try simp only [Act.put, List.setIfInBounds_toArray, List.set_cons_zero, List.set_cons_succ])
                    refine ord_take (i := 11) #[true, true, true, true, true, true, true, true, true, true, true, true, false, false, false, false, false, false, false] ?_ rfl (by kernel_rfl) (by kernel_rfl) (by kernel_rfl) (by kernel_rfl) (fun _ _ _ h => h) hHeld (by rfl) (fun wx hSx => ?_) ?_
                    rotate_left
                    · (unfold SB at hSx; go_simp; (try with_reducible rfl))
                    (try simp only [Act.put, List.setIfInBounds_toArray, List.set_cons_zero, List.set_cons_succ])
                    refine ord_take (i := 12) #[true, true, true, true, true, true, true, true, true, true, true, true, true, false, false, false, false, false, false] ?_ rfl (by kernel_rfl) (by kernel_rfl) (by kernel_rfl) (by kernel_rfl) (fun _ _ _ h => h) hHeld (by rfl) (fun wx hSx => ?_) ?_
                    rotate_left
                    · (unfold SB at hSx; go_simp; (try with_reducible rfl))
                    (try simp only [Act.put, List.setIfInBounds_toArray, List.set_cons_zero, List.set_cons_succ])
                    refine ord_take (i := 13) #[true, true, true, true, true, true, true, true, true, true, true, true, true, true, false, false, false, false, false] ?_ rfl (by kernel_rfl) (by kernel_rfl) (by kernel_rfl) (by kernel_rfl) (fun _ _ _ h => h) hHeld (by rfl) (fun wx hSx => ?_) ?_
                    rotate_left
                    · (unfold SB at hSx; go_simp; (try with_reducible rfl))
                    (try simp only [Act.put, List.setIfInBounds_toArray, List.set_cons_zero, List.set_cons_succ])
                    refine ord_take (i := 14) #[true, true, true, true, true, true, true, true, true, true, true, true, true, true, true, false, false, false, false] ?_ rfl (by kernel_rfl) (by kernel_rfl) (by kernel_rfl) (by kernel_rfl) (fun _ _ _ h => h) hHeld (by rfl) (fun wx hSx => ?_) ?_
                    rotate_left
                    · (unfold SB at hSx; go_simp; (try with_reducible rfl))
                    (try simp only [Act.put, List.setIfInBounds_toArray, List.set_cons_zero, List.set_cons_succ])
                    refine wpAnyH_ready (rs := [15, 17]) (by kernel_rfl) (by simp) ?_
                    refine ord_run (i := 15) #[true, true, true, true, true, true, true, true, true, true, true, true, true, true, true, true, false, false, false] rfl (by kernel_rfl) (by rfl) (fun K hK => ?_) ?_
                    · (refine wp_append_rowS (.tmp 160) (.tmp 162) 38 rfl (w7.heap.size + 1) 66 ip (.agg #[.int .i64 0, .int .i64 0, .int .i64 0, .string ⟨#[]⟩]) 4 40 Tryd.underlying38 I0.out I1.out I2.out I3.out rfl (by decide) _ n1 (cellsOfP P1 n1) rfl (by first | exact HO4.out.drew | exact HO4.out.drew.alloc _) A2 n2 d2 rfl (fun k => posC (P2 k)) (HA2.out.below (B7.out.trans ((B8.out.mono (by omega)).trans (by (repeat (first | (with_reducible exact Below.refl _ _) | (with_reducible assumption) | ((with_reducible refine Below.alloc ?_ ?_ _); (rotate_left); (first | omega | (simp <;> omega))) | ((with_reducible refine Below.setCell ?_ ?_ _); (rotate_left); (first | omega | (simp <;> omega))) | (with_reducible refine Below.drew ?_) | (with_reducible refine below_drewN ?_ _))))))) (cellsOfP P2 n2) (cellsOfP_len P2 n2) (cellsOfP_at P2 n2) (cellsOfP_ones P2 n2) (by simp only [maxLen]; omega) (by omega) (by simp; omega) ?_; intro A9 d9 w9 ho9 hg9 hv9; have hHeld := hHeld.grown hg9 (by simp) (fun kk hk => by simp [HGB.out kk hk]); have hb := below_grown (B := w7.heap.size + 1) hg9 (by simp; omega) (own_ge HO4.out); have q8B : Below w7.heap.size w7 w9 := (by refine Below.trans ?_ (hb.mono (by first | omega | (simp <;> omega))); (repeat (first | (with_reducible exact Below.refl _ _) | (with_reducible assumption) | ((with_reducible refine Below.alloc ?_ ?_ _); (rotate_left); (first | omega | (simp <;> omega))) | ((with_reducible refine Below.setCell ?_ ?_ _); (rotate_left); (first | omega | (simp <;> omega))) | (with_reducible refine Below.drew ?_) | (with_reducible refine below_drewN ?_ _)))); have q8z := hb.size; (try simp at q8z); have q8t : w7.heap.size ≤ w9.heap.size := (by omega); have q8s0 : w5.heap.size < w9.heap.size := (by omega); have q8n0_0 : ¬ w9.heap.size = w5.heap.size := (by omega); have q8n0_1 : ¬ w9.heap.size + 1 = w5.heap.size := (by omega); have q8n0_2 : ¬ w9.heap.size + 2 = w5.heap.size := (by omega); have q8c0_0 := hb.cell (p := ⟨w5.heap.size, 0, none⟩) (by first | omega | (simp <;> omega)); simp [go_sem, *] at q8c0_0; have q8c0_1 := hb.cell (p := ⟨w5.heap.size, 1, none⟩) (by first | omega | (simp <;> omega)); simp [go_sem, *] at q8c0_1; have q8c0_2 := hb.cell (p := ⟨w5.heap.size, 2, none⟩) (by first | omega | (simp <;> omega)); simp [go_sem, *] at q8c0_2; have q8c0_3 := hb.cell (p := ⟨w5.heap.size, 3, none⟩) (by first | omega | (simp <;> omega)); simp [go_sem, *] at q8c0_3; have q8c0_4 := hb.cell (p := ⟨w5.heap.size, 4, none⟩) (by first | omega | (simp <;> omega)); simp [go_sem, *] at q8c0_4; have q8c0_5 := hb.cell (p := ⟨w5.heap.size, 5, none⟩) (by first | omega | (simp <;> omega)); simp [go_sem, *] at q8c0_5; have q8c0_6 := hb.cell (p := ⟨w5.heap.size, 6, none⟩) (by first | omega | (simp <;> omega)); simp [go_sem, *] at q8c0_6; have q8f0 := fun o => hb.frozen (p := ⟨w5.heap.size, o, none⟩) (by first | omega | (simp <;> omega)); simp [go_sem, *] at q8f0; have q8s1 : w6.heap.size < w9.heap.size := (by omega); have q8n1_0 : ¬ w9.heap.size = w6.heap.size := (by omega); have q8n1_1 : ¬ w9.heap.size + 1 = w6.heap.size := (by omega); have q8n1_2 : ¬ w9.heap.size + 2 = w6.heap.size := (by omega); have q8c1_0 := hb.cell (p := ⟨w6.heap.size, 0, none⟩) (by first | omega | (simp <;> omega)); simp [go_sem, *] at q8c1_0; have q8c1_1 := hb.cell (p := ⟨w6.heap.size, 1, none⟩) (by first | omega | (simp <;> omega)); simp [go_sem, *] at q8c1_1; have q8c1_2 := hb.cell (p := ⟨w6.heap.size, 2, none⟩) (by first | omega | (simp <;> omega)); simp [go_sem, *] at q8c1_2; have q8c1_3 := hb.cell (p := ⟨w6.heap.size, 3, none⟩) (by first | omega | (simp <;> omega)); simp [go_sem, *] at q8c1_3; have q8c1_4 := hb.cell (p := ⟨w6.heap.size, 4, none⟩) (by first | omega | (simp <;> omega)); simp [go_sem, *] at q8c1_4; have q8c1_5 := hb.cell (p := ⟨w6.heap.size, 5, none⟩) (by first | omega | (simp <;> omega)); simp [go_sem, *] at q8c1_5; have q8c1_6 := hb.cell (p := ⟨w6.heap.size, 6, none⟩) (by first | omega | (simp <;> omega)); simp [go_sem, *] at q8c1_6; have q8f1 := fun o => hb.frozen (p := ⟨w6.heap.size, o, none⟩) (by first | omega | (simp <;> omega)); simp [go_sem, *] at q8f1; have q8s2 : w7.heap.size < w9.heap.size := (by omega); have q8n2_0 : ¬ w9.heap.size = w7.heap.size := (by omega); have q8n2_1 : ¬ w9.heap.size + 1 = w7.heap.size := (by omega); have q8n2_2 : ¬ w9.heap.size + 2 = w7.heap.size := (by omega); have q8c2_0 := hb.cell (p := ⟨w7.heap.size, 0, none⟩) (by first | omega | (simp <;> omega)); simp [go_sem, *] at q8c2_0; have q8c2_1 := hb.cell (p := ⟨w7.heap.size, 1, none⟩) (by first | omega | (simp <;> omega)); simp [go_sem, *] at q8c2_1; have q8c2_2 := hb.cell (p := ⟨w7.heap.size, 2, none⟩) (by first | omega | (simp <;> omega)); simp [go_sem, *] at q8c2_2; have q8c2_3 := hb.cell (p := ⟨w7.heap.size, 3, none⟩) (by first | omega | (simp <;> omega)); simp [go_sem, *] at q8c2_3; have q8c2_4 := hb.cell (p := ⟨w7.heap.size, 4, none⟩) (by first | omega | (simp <;> omega)); simp [go_sem, *] at q8c2_4; have q8c2_5 := hb.cell (p := ⟨w7.heap.size, 5, none⟩) (by first | omega | (simp <;> omega)); simp [go_sem, *] at q8c2_5; have q8c2_6 := hb.cell (p := ⟨w7.heap.size, 6, none⟩) (by first | omega | (simp <;> omega)); simp [go_sem, *] at q8c2_6; have q8f2 := fun o => hb.frozen (p := ⟨w7.heap.size, o, none⟩) (by first | omega | (simp <;> omega)); simp [go_sem, *] at q8f2; have q8o : ∀ b o, b < w7.heap.size → w9.cell? ⟨b, o, none⟩ = w7.cell? ⟨b, o, none⟩ := fun b o h => q8B.cell (p := ⟨b, o, none⟩) h; have hbS := hb; have hbS8 := hb; clear hb; have z9 := hg9.size; (try simp at z9); (first | (have HV9 := hide (show (Value.slice A9 (n1 + n2) d9).ownBlock ≠ some w8.heap.size from (by rcases hv9 with h | ⟨kk, h1, h2⟩; (rw [h]; exact fun e => e5 (HGB.out _ e)); (rw [h1]; intro e; injection e with e; simp at h2; omega)))) | (have HV9 := hide (show (Value.slice A9 (n1 + n2) d9).ownBlock ≠ some w9.heap.size from fun e => (by have := (ho9.lt _ e).2; omega)))); (try have hbx : ∀ o, w9.cell? ⟨w8.heap.size, o, none⟩ = _ := fun o => World.cell?_of_block (a := ⟨w8.heap.size, o, none⟩) (hg9.block w8.heap.size (by simp only [World.size_alloc, World.size_drew]; omega) (fun e => e5 (HGB.out _ e.symm)))); (try have hfx : ∀ o, w9.frozen? ⟨w8.heap.size, o, none⟩ = _ := fun o => World.frozen?_of_block (a := ⟨w8.heap.size, o, none⟩) (hg9.block w8.heap.size (by simp only [World.size_alloc, World.size_drew]; omega) (fun e => e5 (HGB.out _ e.symm)))); have HO9 := hide ho9; clear hv9 ho9)
                      refine hK.out _ _ ?_ (fun hHeld => ?_)
                      · (repeat (first | (with_reducible exact SB.refl) | (with_reducible exact hHeld) | (with_reducible assumption) | (with_reducible refine SB.drew ?_) | (with_reducible refine SB.drewN ?_ _) | ((with_reducible refine SB.alloc ?_ ?_ _); (rotate_left); (first | omega | (simp <;> omega))) | ((with_reducible refine SB.setCell ?_ ?_ _); (rotate_left); (focus (first | (simp; done) | (right; first | omega | (simp <;> omega))))) | ((with_reducible refine SB.below ?_ hbS ?_); (rotate_left); (first | omega | (simp <;> omega))) | ((with_reducible refine SB.below ?_ hbS1 ?_); (rotate_left); (first | omega | (simp <;> omega))) | ((with_reducible refine SB.below ?_ hbS2 ?_); (rotate_left); (first | omega | (simp <;> omega))) | ((with_reducible refine SB.below ?_ hbS3 ?_); (rotate_left); (first | omega | (simp <;> omega))) | ((with_reducible refine SB.below ?_ hbS4 ?_); (rotate_left); (first | omega | (simp <;> omega))) | (with_reducible refine SB.undrew ?_) | ((with_reducible refine SB.congr ?_ ?_); (rotate_left); (focus (simp; done))) | ((with_reducible refine SB.realloc ?_ ?_ ?_); (rotate_left); (focus (simp; done)); (focus (simp; done)))))
                      clear hK K
                      (try simp only [Act.put, List.setIfInBounds_toArray, List.set_cons_zero, List.set_cons_succ])
                      refine ord_take (i := 16) #[true, true, true, true, true, true, true, true, true, true, true, true, true, true, true, true, true, false, false] ?_ rfl (by kernel_rfl) (by kernel_rfl) (by kernel_rfl) (by kernel_rfl) (fun _ _ _ h => h) hHeld (by rfl) (fun wx hSx => ?_) ?_
                      rotate_left
                      · (unfold SB at hSx; go_simp; (try with_reducible rfl))
                      (try simp only [Act.put, List.setIfInBounds_toArray, List.set_cons_zero, List.set_cons_succ])
                      refine wpAnyH_ready (rs := [17]) (by kernel_rfl) (by simp) ?_
                      refine ord_run (i := 17) #[true, true, true, true, true, true, true, true, true, true, true, true, true, true, true, true, true, true, false] rfl (by kernel_rfl) (by rfl) (fun K hK => ?_) AllReadyH.nil
                      go_simp
                      refine hK.out _ _ ?_ (fun hHeld => ?_)
                      · (repeat (first | (with_reducible exact SB.refl) | (with_reducible exact hHeld) | (with_reducible assumption) | (with_reducible refine SB.drew ?_) | (with_reducible refine SB.drewN ?_ _) | ((with_reducible refine SB.alloc ?_ ?_ _); (rotate_left); (first | omega | (simp <;> omega))) | ((with_reducible refine SB.setCell ?_ ?_ _); (rotate_left); (focus (first | (simp; done) | (right; first | omega | (simp <;> omega))))) | ((with_reducible refine SB.below ?_ hbS ?_); (rotate_left); (first | omega | (simp <;> omega))) | ((with_reducible refine SB.below ?_ hbS1 ?_); (rotate_left); (first | omega | (simp <;> omega))) | ((with_reducible refine SB.below ?_ hbS2 ?_); (rotate_left); (first | omega | (simp <;> omega))) | ((with_reducible refine SB.below ?_ hbS3 ?_); (rotate_left); (first | omega | (simp <;> omega))) | ((with_reducible refine SB.below ?_ hbS4 ?_); (rotate_left); (first | omega | (simp <;> omega))) | (with_reducible refine SB.undrew ?_) | ((with_reducible refine SB.congr ?_ ?_); (rotate_left); (focus (simp; done))) | ((with_reducible refine SB.realloc ?_ ?_ ?_); (rotate_left); (focus (simp; done)); (focus (simp; done)))))
                      clear hK K
                      (try simp only [Act.put, List.setIfInBounds_toArray, List.set_cons_zero, List.set_cons_succ])
                      refine wpAnyH_ready (rs := [18]) (by kernel_rfl) (by simp) ?_
                      refine ord_run (i := 18) #[true, true, true, true, true, true, true, true, true, true, true, true, true, true, true, true, true, true, true] rfl (by kernel_rfl) (by rfl) (fun K hK => ?_) AllReadyH.nil
                      go_simp
                      refine hK.out _ _ ?_ (fun hHeld => ?_)
                      · (repeat (first | (with_reducible exact SB.refl) | (with_reducible exact hHeld) | (with_reducible assumption) | (with_reducible refine SB.drew ?_) | (with_reducible refine SB.drewN ?_ _) | ((with_reducible refine SB.alloc ?_ ?_ _); (rotate_left); (first | omega | (simp <;> omega))) | ((with_reducible refine SB.setCell ?_ ?_ _); (rotate_left); (focus (first | (simp; done) | (right; first | omega | (simp <;> omega))))) | ((with_reducible refine SB.below ?_ hbS ?_); (rotate_left); (first | omega | (simp <;> omega))) | ((with_reducible refine SB.below ?_ hbS1 ?_); (rotate_left); (first | omega | (simp <;> omega))) | ((with_reducible refine SB.below ?_ hbS2 ?_); (rotate_left); (first | omega | (simp <;> omega))) | ((with_reducible refine SB.below ?_ hbS3 ?_); (rotate_left); (first | omega | (simp <;> omega))) | ((with_reducible refine SB.below ?_ hbS4 ?_); (rotate_left); (first | omega | (simp <;> omega))) | (with_reducible refine SB.undrew ?_) | ((with_reducible refine SB.congr ?_ ?_); (rotate_left); (focus (simp; done))) | ((with_reducible refine SB.realloc ?_ ?_ ?_); (rotate_left); (focus (simp; done)); (focus (simp; done)))))
                      clear hK K
                      (try simp only [Act.put, List.setIfInBounds_toArray, List.set_cons_zero, List.set_cons_succ])
                      refine wpAnyH_done (by kernel_rfl) ?_ _
                      go_wp2_with fail
                      refine (follows_any x0 x1 x2 m O1 K1 x0 (x1 + 1) (m + 1) x3 K1 K2 A1 A2 n1 d1 n2 d2 HI.out.2.1 HI.out.1 ⟨u2, u1⟩ ⟨u4, u3⟩ _).mono ?_
                      rintro e w10 ⟨rfl, hb⟩
                      rw [HFO.out]
                      have HA9 : RowPos w10 A9 (n1 + n2) (catP P1 n1 P2) := RowPos.below (own_cat (base := w7.heap.size + 1) (e := 66) (by repeat (first | (with_reducible exact HO9.out) | (with_reducible refine World.ownsRow.alloc ?_ _) | (with_reducible refine own_row17 ?_ HV9.out _ _)))) hb
                      have HB9 := hide HA9
                      clear HA9
                      have f8 := hide q8B
                      have q9B : Below w7.heap.size w7 w10 := (by refine Below.trans ?_ (hb.mono (by first | omega | (simp <;> omega))); (repeat (first | (with_reducible exact Below.refl _ _) | (with_reducible assumption) | ((with_reducible refine Below.alloc ?_ ?_ _); (rotate_left); (first | omega | (simp <;> omega))) | ((with_reducible refine Below.setCell ?_ ?_ _); (rotate_left); (first | omega | (simp <;> omega))) | (with_reducible refine Below.drew ?_) | (with_reducible refine below_drewN ?_ _))))
                      have q9z := hb.size
                      try simp at q9z
                      have q9t : w7.heap.size ≤ w10.heap.size := (by omega)
                      have q9s0 : w5.heap.size < w10.heap.size := (by omega)
                      have q9n0_0 : ¬ w10.heap.size = w5.heap.size := (by omega)
                      have q9n0_1 : ¬ w10.heap.size + 1 = w5.heap.size := (by omega)
                      have q9n0_2 : ¬ w10.heap.size + 2 = w5.heap.size := (by omega)
                      have q9c0_0 := hb.cell (p := ⟨w5.heap.size, 0, none⟩) (by first | omega | (simp <;> omega))
                      simp [go_sem, *] at q9c0_0
                      have q9c0_1 := hb.cell (p := ⟨w5.heap.size, 1, none⟩) (by first | omega | (simp <;> omega))
                      simp [go_sem, *] at q9c0_1
                      have q9c0_2 := hb.cell (p := ⟨w5.heap.size, 2, none⟩) (by first | omega | (simp <;> omega))
                      simp [go_sem, *] at q9c0_2
                      have q9c0_3 := hb.cell (p := ⟨w5.heap.size, 3, none⟩) (by first | omega | (simp <;> omega))
                      simp [go_sem, *] at q9c0_3
                      have q9c0_4 := hb.cell (p := ⟨w5.heap.size, 4, none⟩) (by first | omega | (simp <;> omega))
                      simp [go_sem, *] at q9c0_4
                      have q9c0_5 := hb.cell (p := ⟨w5.heap.size, 5, none⟩) (by first | omega | (simp <;> omega))
                      simp [go_sem, *] at q9c0_5
                      have q9c0_6 := hb.cell (p := ⟨w5.heap.size, 6, none⟩) (by first | omega | (simp <;> omega))
                      simp [go_sem, *] at q9c0_6
                      have q9f0 := fun o => hb.frozen (p := ⟨w5.heap.size, o, none⟩) (by first | omega | (simp <;> omega))
                      simp [go_sem, *] at q9f0
                      have q9s1 : w6.heap.size < w10.heap.size := (by omega)
                      have q9n1_0 : ¬ w10.heap.size = w6.heap.size := (by omega)
                      have q9n1_1 : ¬ w10.heap.size + 1 = w6.heap.size := (by omega)
                      have q9n1_2 : ¬ w10.heap.size + 2 = w6.heap.size := (by omega)
                      have q9c1_0 := hb.cell (p := ⟨w6.heap.size, 0, none⟩) (by first | omega | (simp <;> omega))
                      simp [go_sem, *] at q9c1_0
                      have q9c1_1 := hb.cell (p := ⟨w6.heap.size, 1, none⟩) (by first | omega | (simp <;> omega))
                      simp [go_sem, *] at q9c1_1
                      have q9c1_2 := hb.cell (p := ⟨w6.heap.size, 2, none⟩) (by first | omega | (simp <;> omega))
                      simp [go_sem, *] at q9c1_2
                      have q9c1_3 := hb.cell (p := ⟨w6.heap.size, 3, none⟩) (by first | omega | (simp <;> omega))
                      simp [go_sem, *] at q9c1_3
                      have q9c1_4 := hb.cell (p := ⟨w6.heap.size, 4, none⟩) (by first | omega | (simp <;> omega))
                      simp [go_sem, *] at q9c1_4
                      have q9c1_5 := hb.cell (p := ⟨w6.heap.size, 5, none⟩) (by first | omega | (simp <;> omega))
                      simp [go_sem, *] at q9c1_5
                      have q9c1_6 := hb.cell (p := ⟨w6.heap.size, 6, none⟩) (by first | omega | (simp <;> omega))
                      simp [go_sem, *] at q9c1_6
                      have q9f1 := fun o => hb.frozen (p := ⟨w6.heap.size, o, none⟩) (by first | omega | (simp <;> omega))
                      simp [go_sem, *] at q9f1
                      have q9s2 : w7.heap.size < w10.heap.size := (by omega)
                      have q9n2_0 : ¬ w10.heap.size = w7.heap.size := (by omega)
                      have q9n2_1 : ¬ w10.heap.size + 1 = w7.heap.size := (by omega)
                      have q9n2_2 : ¬ w10.heap.size + 2 = w7.heap.size := (by omega)
                      have q9c2_0 := hb.cell (p := ⟨w7.heap.size, 0, none⟩) (by first | omega | (simp <;> omega))
                      simp [go_sem, *] at q9c2_0
                      have q9c2_1 := hb.cell (p := ⟨w7.heap.size, 1, none⟩) (by first | omega | (simp <;> omega))
                      simp [go_sem, *] at q9c2_1
                      have q9c2_2 := hb.cell (p := ⟨w7.heap.size, 2, none⟩) (by first | omega | (simp <;> omega))
                      simp [go_sem, *] at q9c2_2
                      have q9c2_3 := hb.cell (p := ⟨w7.heap.size, 3, none⟩) (by first | omega | (simp <;> omega))
                      simp [go_sem, *] at q9c2_3
                      have q9c2_4 := hb.cell (p := ⟨w7.heap.size, 4, none⟩) (by first | omega | (simp <;> omega))
                      simp [go_sem, *] at q9c2_4
                      have q9c2_5 := hb.cell (p := ⟨w7.heap.size, 5, none⟩) (by first | omega | (simp <;> omega))
                      simp [go_sem, *] at q9c2_5
                      have q9c2_6 := hb.cell (p := ⟨w7.heap.size, 6, none⟩) (by first | omega | (simp <;> omega))
                      simp [go_sem, *] at q9c2_6
                      have q9f2 := fun o => hb.frozen (p := ⟨w7.heap.size, o, none⟩) (by first | omega | (simp <;> omega))
                      simp [go_sem, *] at q9f2
                      have q9s3 : w9.heap.size < w10.heap.size := (by omega)
                      have q9n3_0 : ¬ w10.heap.size = w9.heap.size := (by omega)
                      have q9n3_1 : ¬ w10.heap.size + 1 = w9.heap.size := (by omega)
                      have q9n3_2 : ¬ w10.heap.size + 2 = w9.heap.size := (by omega)
                      have q9c3_0 := hb.cell (p := ⟨w9.heap.size, 0, none⟩) (by first | omega | (simp <;> omega))
                      simp [go_sem, *] at q9c3_0
                      have q9c3_1 := hb.cell (p := ⟨w9.heap.size, 1, none⟩) (by first | omega | (simp <;> omega))
                      simp [go_sem, *] at q9c3_1
                      have q9c3_2 := hb.cell (p := ⟨w9.heap.size, 2, none⟩) (by first | omega | (simp <;> omega))
                      simp [go_sem, *] at q9c3_2
                      have q9c3_3 := hb.cell (p := ⟨w9.heap.size, 3, none⟩) (by first | omega | (simp <;> omega))
                      simp [go_sem, *] at q9c3_3
                      have q9c3_4 := hb.cell (p := ⟨w9.heap.size, 4, none⟩) (by first | omega | (simp <;> omega))
                      simp [go_sem, *] at q9c3_4
                      have q9c3_5 := hb.cell (p := ⟨w9.heap.size, 5, none⟩) (by first | omega | (simp <;> omega))
                      simp [go_sem, *] at q9c3_5
                      have q9c3_6 := hb.cell (p := ⟨w9.heap.size, 6, none⟩) (by first | omega | (simp <;> omega))
                      simp [go_sem, *] at q9c3_6
                      have q9f3 := fun o => hb.frozen (p := ⟨w9.heap.size, o, none⟩) (by first | omega | (simp <;> omega))
                      simp [go_sem, *] at q9f3
                      have q9o : ∀ b o, b < w7.heap.size → w10.cell? ⟨b, o, none⟩ = w7.cell? ⟨b, o, none⟩ := fun b o h => q9B.cell (p := ⟨b, o, none⟩) h
                      clear hb q7o q7f3 q7c3_6 q7c3_5 q7c3_4 q7c3_3 q7c3_2 q7c3_1 q7c3_0 q7s3 q7f2 q7c2_6 q7c2_5 q7c2_4 q7c2_3 q7c2_2 q7c2_1 q7c2_0 q7s2 q7f1 q7c1_6 q7c1_5 q7c1_4 q7c1_3 q7c1_2 q7c1_1 q7c1_0 q7s1 q7f0 q7c0_3 q7c0_2 q7c0_1 q7c0_0 q7s0 q7z q7B
                      have B10 := hide q9B
                      go_wp2_with fail
                      refine (check_any x0 x1 x2 m O1 K1 A1 n1 d1 P1 (by omega) _ (HA1.out.below (B57.out.trans (B10.out.mono (by omega))))).mono ?_
                      rintro e w11 ⟨rfl, hb⟩
                      rw [F3.out.k1]
                      have q10B : Below w10.heap.size w10 w11 := (by refine Below.trans ?_ (hb.mono (by first | omega | (simp <;> omega))); (repeat (first | (with_reducible exact Below.refl _ _) | (with_reducible assumption) | ((with_reducible refine Below.alloc ?_ ?_ _); (rotate_left); (first | omega | (simp <;> omega))) | ((with_reducible refine Below.setCell ?_ ?_ _); (rotate_left); (first | omega | (simp <;> omega))) | (with_reducible refine Below.drew ?_) | (with_reducible refine below_drewN ?_ _))))
                      have q10z := hb.size
                      try simp at q10z
                      have q10t : w10.heap.size ≤ w11.heap.size := (by omega)
                      have q10s0 : w6.heap.size < w11.heap.size := (by omega)
                      have q10n0_0 : ¬ w11.heap.size = w6.heap.size := (by omega)
                      have q10n0_1 : ¬ w11.heap.size + 1 = w6.heap.size := (by omega)
                      have q10n0_2 : ¬ w11.heap.size + 2 = w6.heap.size := (by omega)
                      have q10c0_0 := hb.cell (p := ⟨w6.heap.size, 0, none⟩) (by first | omega | (simp <;> omega))
                      simp [go_sem, *] at q10c0_0
                      have q10c0_1 := hb.cell (p := ⟨w6.heap.size, 1, none⟩) (by first | omega | (simp <;> omega))
                      simp [go_sem, *] at q10c0_1
                      have q10c0_2 := hb.cell (p := ⟨w6.heap.size, 2, none⟩) (by first | omega | (simp <;> omega))
                      simp [go_sem, *] at q10c0_2
                      have q10c0_3 := hb.cell (p := ⟨w6.heap.size, 3, none⟩) (by first | omega | (simp <;> omega))
                      simp [go_sem, *] at q10c0_3
                      have q10c0_4 := hb.cell (p := ⟨w6.heap.size, 4, none⟩) (by first | omega | (simp <;> omega))
                      simp [go_sem, *] at q10c0_4
                      have q10c0_5 := hb.cell (p := ⟨w6.heap.size, 5, none⟩) (by first | omega | (simp <;> omega))
                      simp [go_sem, *] at q10c0_5
                      have q10c0_6 := hb.cell (p := ⟨w6.heap.size, 6, none⟩) (by first | omega | (simp <;> omega))
                      simp [go_sem, *] at q10c0_6
                      have q10f0 := fun o => hb.frozen (p := ⟨w6.heap.size, o, none⟩) (by first | omega | (simp <;> omega))
                      simp [go_sem, *] at q10f0
                      have q10s1 : w7.heap.size < w11.heap.size := (by omega)
                      have q10n1_0 : ¬ w11.heap.size = w7.heap.size := (by omega)
                      have q10n1_1 : ¬ w11.heap.size + 1 = w7.heap.size := (by omega)
                      have q10n1_2 : ¬ w11.heap.size + 2 = w7.heap.size := (by omega)
                      have q10c1_0 := hb.cell (p := ⟨w7.heap.size, 0, none⟩) (by first | omega | (simp <;> omega))
                      simp [go_sem, *] at q10c1_0
                      have q10c1_1 := hb.cell (p := ⟨w7.heap.size, 1, none⟩) (by first | omega | (simp <;> omega))
                      simp [go_sem, *] at q10c1_1
                      have q10c1_2 := hb.cell (p := ⟨w7.heap.size, 2, none⟩) (by first | omega | (simp <;> omega))
                      simp [go_sem, *] at q10c1_2
                      have q10c1_3 := hb.cell (p := ⟨w7.heap.size, 3, none⟩) (by first | omega | (simp <;> omega))
                      simp [go_sem, *] at q10c1_3
                      have q10c1_4 := hb.cell (p := ⟨w7.heap.size, 4, none⟩) (by first | omega | (simp <;> omega))
                      simp [go_sem, *] at q10c1_4
                      have q10c1_5 := hb.cell (p := ⟨w7.heap.size, 5, none⟩) (by first | omega | (simp <;> omega))
                      simp [go_sem, *] at q10c1_5
                      have q10c1_6 := hb.cell (p := ⟨w7.heap.size, 6, none⟩) (by first | omega | (simp <;> omega))
                      simp [go_sem, *] at q10c1_6
                      have q10f1 := fun o => hb.frozen (p := ⟨w7.heap.size, o, none⟩) (by first | omega | (simp <;> omega))
                      simp [go_sem, *] at q10f1
                      have q10s2 : w9.heap.size < w11.heap.size := (by omega)
                      have q10n2_0 : ¬ w11.heap.size = w9.heap.size := (by omega)
                      have q10n2_1 : ¬ w11.heap.size + 1 = w9.heap.size := (by omega)
                      have q10n2_2 : ¬ w11.heap.size + 2 = w9.heap.size := (by omega)
                      have q10c2_0 := hb.cell (p := ⟨w9.heap.size, 0, none⟩) (by first | omega | (simp <;> omega))
                      simp [go_sem, *] at q10c2_0
                      have q10c2_1 := hb.cell (p := ⟨w9.heap.size, 1, none⟩) (by first | omega | (simp <;> omega))
                      simp [go_sem, *] at q10c2_1
                      have q10c2_2 := hb.cell (p := ⟨w9.heap.size, 2, none⟩) (by first | omega | (simp <;> omega))
                      simp [go_sem, *] at q10c2_2
                      have q10c2_3 := hb.cell (p := ⟨w9.heap.size, 3, none⟩) (by first | omega | (simp <;> omega))
                      simp [go_sem, *] at q10c2_3
                      have q10c2_4 := hb.cell (p := ⟨w9.heap.size, 4, none⟩) (by first | omega | (simp <;> omega))
                      simp [go_sem, *] at q10c2_4
                      have q10c2_5 := hb.cell (p := ⟨w9.heap.size, 5, none⟩) (by first | omega | (simp <;> omega))
                      simp [go_sem, *] at q10c2_5
                      have q10c2_6 := hb.cell (p := ⟨w9.heap.size, 6, none⟩) (by first | omega | (simp <;> omega))
                      simp [go_sem, *] at q10c2_6
                      have q10f2 := fun o => hb.frozen (p := ⟨w9.heap.size, o, none⟩) (by first | omega | (simp <;> omega))
                      simp [go_sem, *] at q10f2
                      have q10o : ∀ b o, b < w10.heap.size → w11.cell? ⟨b, o, none⟩ = w10.cell? ⟨b, o, none⟩ := fun b o h => q10B.cell (p := ⟨b, o, none⟩) h
                      clear hb q9o q9f3 q9c3_6 q9c3_5 q9c3_4 q9c3_3 q9c3_2 q9c3_1 q9c3_0 q9s3 q9f2 q9c2_6 q9c2_5 q9c2_4 q9c2_3 q9c2_2 q9c2_1 q9c2_0 q9s2 q9f1 q9c1_6 q9c1_5 q9c1_4 q9c1_3 q9c1_2 q9c1_1 q9c1_0 q9s1 q9f0 q9c0_6 q9c0_5 q9c0_4 q9c0_3 q9c0_2 q9c0_1 q9c0_0 q9s0 q9z q9B
                      have B11 := hide q10B
                      go_wp2_with fail
                      refine (check_any x0 (x1 + 1) (m + 1) x3 K1 K2 A2 n2 d2 P2 (by omega) _ (HA2.out.below (B7.out.trans ((B10.out.mono (by omega)).trans (B11.out.mono (by omega)))))).mono ?_
                      rintro e w12 ⟨rfl, hb⟩
                      rw [F3.out.k2]
                      have q11B : Below w11.heap.size w11 w12 := (by refine Below.trans ?_ (hb.mono (by first | omega | (simp <;> omega))); (repeat (first | (with_reducible exact Below.refl _ _) | (with_reducible assumption) | ((with_reducible refine Below.alloc ?_ ?_ _); (rotate_left); (first | omega | (simp <;> omega))) | ((with_reducible refine Below.setCell ?_ ?_ _); (rotate_left); (first | omega | (simp <;> omega))) | (with_reducible refine Below.drew ?_) | (with_reducible refine below_drewN ?_ _))))
                      have q11z := hb.size
                      try simp at q11z
                      have q11t : w11.heap.size ≤ w12.heap.size := (by omega)
                      have q11s0 : w7.heap.size < w12.heap.size := (by omega)
                      have q11n0_0 : ¬ w12.heap.size = w7.heap.size := (by omega)
                      have q11n0_1 : ¬ w12.heap.size + 1 = w7.heap.size := (by omega)
                      have q11n0_2 : ¬ w12.heap.size + 2 = w7.heap.size := (by omega)
                      have q11c0_0 := hb.cell (p := ⟨w7.heap.size, 0, none⟩) (by first | omega | (simp <;> omega))
                      simp [go_sem, *] at q11c0_0
                      have q11c0_1 := hb.cell (p := ⟨w7.heap.size, 1, none⟩) (by first | omega | (simp <;> omega))
                      simp [go_sem, *] at q11c0_1
                      have q11c0_2 := hb.cell (p := ⟨w7.heap.size, 2, none⟩) (by first | omega | (simp <;> omega))
                      simp [go_sem, *] at q11c0_2
                      have q11c0_3 := hb.cell (p := ⟨w7.heap.size, 3, none⟩) (by first | omega | (simp <;> omega))
                      simp [go_sem, *] at q11c0_3
                      have q11c0_4 := hb.cell (p := ⟨w7.heap.size, 4, none⟩) (by first | omega | (simp <;> omega))
                      simp [go_sem, *] at q11c0_4
                      have q11c0_5 := hb.cell (p := ⟨w7.heap.size, 5, none⟩) (by first | omega | (simp <;> omega))
                      simp [go_sem, *] at q11c0_5
                      have q11c0_6 := hb.cell (p := ⟨w7.heap.size, 6, none⟩) (by first | omega | (simp <;> omega))
                      simp [go_sem, *] at q11c0_6
                      have q11f0 := fun o => hb.frozen (p := ⟨w7.heap.size, o, none⟩) (by first | omega | (simp <;> omega))
                      simp [go_sem, *] at q11f0
                      have q11s1 : w9.heap.size < w12.heap.size := (by omega)
                      have q11n1_0 : ¬ w12.heap.size = w9.heap.size := (by omega)
                      have q11n1_1 : ¬ w12.heap.size + 1 = w9.heap.size := (by omega)
                      have q11n1_2 : ¬ w12.heap.size + 2 = w9.heap.size := (by omega)
                      have q11c1_0 := hb.cell (p := ⟨w9.heap.size, 0, none⟩) (by first | omega | (simp <;> omega))
                      simp [go_sem, *] at q11c1_0
                      have q11c1_1 := hb.cell (p := ⟨w9.heap.size, 1, none⟩) (by first | omega | (simp <;> omega))
                      simp [go_sem, *] at q11c1_1
                      have q11c1_2 := hb.cell (p := ⟨w9.heap.size, 2, none⟩) (by first | omega | (simp <;> omega))
                      simp [go_sem, *] at q11c1_2
                      have q11c1_3 := hb.cell (p := ⟨w9.heap.size, 3, none⟩) (by first | omega | (simp <;> omega))
                      simp [go_sem, *] at q11c1_3
                      have q11c1_4 := hb.cell (p := ⟨w9.heap.size, 4, none⟩) (by first | omega | (simp <;> omega))
                      simp [go_sem, *] at q11c1_4
                      have q11c1_5 := hb.cell (p := ⟨w9.heap.size, 5, none⟩) (by first | omega | (simp <;> omega))
                      simp [go_sem, *] at q11c1_5
                      have q11c1_6 := hb.cell (p := ⟨w9.heap.size, 6, none⟩) (by first | omega | (simp <;> omega))
                      simp [go_sem, *] at q11c1_6
                      have q11f1 := fun o => hb.frozen (p := ⟨w9.heap.size, o, none⟩) (by first | omega | (simp <;> omega))
                      simp [go_sem, *] at q11f1
                      have q11o : ∀ b o, b < w11.heap.size → w12.cell? ⟨b, o, none⟩ = w11.cell? ⟨b, o, none⟩ := fun b o h => q11B.cell (p := ⟨b, o, none⟩) h
                      clear hb q10o q10f2 q10c2_6 q10c2_5 q10c2_4 q10c2_3 q10c2_2 q10c2_1 q10c2_0 q10s2 q10f1 q10c1_6 q10c1_5 q10c1_4 q10c1_3 q10c1_2 q10c1_1 q10c1_0 q10s1 q10f0 q10c0_6 q10c0_5 q10c0_4 q10c0_3 q10c0_2 q10c0_1 q10c0_0 q10s0 q10z q10B
                      have B12 := hide (B11.out.trans (q11B.mono (by omega)))
                      go_wp2_with fail
                      refine (check_any x0 x1 x2 x3 O1 K2 A3 (n1 + n2) d3 (catP P1 n1 P2) hle _ (HA3.out.below (B10.out.trans (B12.out.mono (by omega))))).mono ?_
                      rintro e w13 ⟨rfl, hb⟩
                      rw [F3.out.k3]
                      have q12B : Below w12.heap.size w12 w13 := (by refine Below.trans ?_ (hb.mono (by first | omega | (simp <;> omega))); (repeat (first | (with_reducible exact Below.refl _ _) | (with_reducible assumption) | ((with_reducible refine Below.alloc ?_ ?_ _); (rotate_left); (first | omega | (simp <;> omega))) | ((with_reducible refine Below.setCell ?_ ?_ _); (rotate_left); (first | omega | (simp <;> omega))) | (with_reducible refine Below.drew ?_) | (with_reducible refine below_drewN ?_ _))))
                      have q12z := hb.size
                      try simp at q12z
                      have q12t : w12.heap.size ≤ w13.heap.size := (by omega)
                      have q12s0 : w7.heap.size < w13.heap.size := (by omega)
                      have q12n0_0 : ¬ w13.heap.size = w7.heap.size := (by omega)
                      have q12n0_1 : ¬ w13.heap.size + 1 = w7.heap.size := (by omega)
                      have q12n0_2 : ¬ w13.heap.size + 2 = w7.heap.size := (by omega)
                      have q12c0_0 := hb.cell (p := ⟨w7.heap.size, 0, none⟩) (by first | omega | (simp <;> omega))
                      simp [go_sem, *] at q12c0_0
                      have q12c0_1 := hb.cell (p := ⟨w7.heap.size, 1, none⟩) (by first | omega | (simp <;> omega))
                      simp [go_sem, *] at q12c0_1
                      have q12c0_2 := hb.cell (p := ⟨w7.heap.size, 2, none⟩) (by first | omega | (simp <;> omega))
                      simp [go_sem, *] at q12c0_2
                      have q12c0_3 := hb.cell (p := ⟨w7.heap.size, 3, none⟩) (by first | omega | (simp <;> omega))
                      simp [go_sem, *] at q12c0_3
                      have q12c0_4 := hb.cell (p := ⟨w7.heap.size, 4, none⟩) (by first | omega | (simp <;> omega))
                      simp [go_sem, *] at q12c0_4
                      have q12c0_5 := hb.cell (p := ⟨w7.heap.size, 5, none⟩) (by first | omega | (simp <;> omega))
                      simp [go_sem, *] at q12c0_5
                      have q12c0_6 := hb.cell (p := ⟨w7.heap.size, 6, none⟩) (by first | omega | (simp <;> omega))
                      simp [go_sem, *] at q12c0_6
                      have q12f0 := fun o => hb.frozen (p := ⟨w7.heap.size, o, none⟩) (by first | omega | (simp <;> omega))
                      simp [go_sem, *] at q12f0
                      have q12s1 : w9.heap.size < w13.heap.size := (by omega)
                      have q12n1_0 : ¬ w13.heap.size = w9.heap.size := (by omega)
                      have q12n1_1 : ¬ w13.heap.size + 1 = w9.heap.size := (by omega)
                      have q12n1_2 : ¬ w13.heap.size + 2 = w9.heap.size := (by omega)
                      have q12c1_0 := hb.cell (p := ⟨w9.heap.size, 0, none⟩) (by first | omega | (simp <;> omega))
                      simp [go_sem, *] at q12c1_0
                      have q12c1_1 := hb.cell (p := ⟨w9.heap.size, 1, none⟩) (by first | omega | (simp <;> omega))
                      simp [go_sem, *] at q12c1_1
                      have q12c1_2 := hb.cell (p := ⟨w9.heap.size, 2, none⟩) (by first | omega | (simp <;> omega))
                      simp [go_sem, *] at q12c1_2
                      have q12c1_3 := hb.cell (p := ⟨w9.heap.size, 3, none⟩) (by first | omega | (simp <;> omega))
                      simp [go_sem, *] at q12c1_3
                      have q12c1_4 := hb.cell (p := ⟨w9.heap.size, 4, none⟩) (by first | omega | (simp <;> omega))
                      simp [go_sem, *] at q12c1_4
                      have q12c1_5 := hb.cell (p := ⟨w9.heap.size, 5, none⟩) (by first | omega | (simp <;> omega))
                      simp [go_sem, *] at q12c1_5
                      have q12c1_6 := hb.cell (p := ⟨w9.heap.size, 6, none⟩) (by first | omega | (simp <;> omega))
                      simp [go_sem, *] at q12c1_6
                      have q12f1 := fun o => hb.frozen (p := ⟨w9.heap.size, o, none⟩) (by first | omega | (simp <;> omega))
                      simp [go_sem, *] at q12f1
                      have q12o : ∀ b o, b < w12.heap.size → w13.cell? ⟨b, o, none⟩ = w12.cell? ⟨b, o, none⟩ := fun b o h => q12B.cell (p := ⟨b, o, none⟩) h
                      clear hb q11o q11f1 q11c1_6 q11c1_5 q11c1_4 q11c1_3 q11c1_2 q11c1_1 q11c1_0 q11s1 q11f0 q11c0_6 q11c0_5 q11c0_4 q11c0_3 q11c0_2 q11c0_1 q11c0_0 q11s0 q11z q11B
                      have B13 := hide (B12.out.trans (q12B.mono (by omega)))
                      go_wp2_with fail
                      refine (same_eq x0 x1 x2 x3 O1 K2 A9 A3 (n1 + n2) d9 d3 (catP P1 n1 P2) hle _ (HB9.out.below B13.out) (HA3.out.below (B10.out.trans (B13.out.mono (by omega))))).mono ?_
                      rintro e w14 ⟨rfl, hb⟩
                      have B14 := hide (B4.out.trans ((B5.out.trans ((B57.out.mono (by omega)).trans ((B10.out.mono (by omega)).trans ((B13.out.mono (by omega)).trans (hb.mono (by omega)))))).mono (by omega)))
                      have z14 := B14.out.size
                      clear hb
                      go_wp2_with fail
                      refine (lives_any _ (HT.out.below B14.out)).mono ?_
                      rintro e w15 ⟨rfl, hb⟩
                      go_wp2_with fail
                      go_ret
                      exact ⟨rfl, B14.out.trans (hb.mono z14)⟩
                    refine ord_run (i := 17) #[true, true, true, true, true, true, true, true, true, true, true, true, true, true, true, false, false, true, false] rfl (by kernel_rfl) (by rfl) (fun K hK => ?_) ?_
                    · go_simp
                      refine hK.out _ _ ?_ (fun hHeld => ?_)
                      · (repeat (first | (with_reducible exact SB.refl) | (with_reducible exact hHeld) | (with_reducible assumption) | (with_reducible refine SB.drew ?_) | (with_reducible refine SB.drewN ?_ _) | ((with_reducible refine SB.alloc ?_ ?_ _); (rotate_left); (first | omega | (simp <;> omega))) | ((with_reducible refine SB.setCell ?_ ?_ _); (rotate_left); (focus (first | (simp; done) | (right; first | omega | (simp <;> omega))))) | ((with_reducible refine SB.below ?_ hbS ?_); (rotate_left); (first | omega | (simp <;> omega))) | ((with_reducible refine SB.below ?_ hbS1 ?_); (rotate_left); (first | omega | (simp <;> omega))) | ((with_reducible refine SB.below ?_ hbS2 ?_); (rotate_left); (first | omega | (simp <;> omega))) | ((with_reducible refine SB.below ?_ hbS3 ?_); (rotate_left); (first | omega | (simp <;> omega))) | ((with_reducible refine SB.below ?_ hbS4 ?_); (rotate_left); (first | omega | (simp <;> omega))) | (with_reducible refine SB.undrew ?_) | ((with_reducible refine SB.congr ?_ ?_); (rotate_left); (focus (simp; done))) | ((with_reducible refine SB.realloc ?_ ?_ ?_); (rotate_left); (focus (simp; done)); (focus (simp; done)))))
                      clear hK K
                      (try simp only [Act.put, List.setIfInBounds_toArray, List.set_cons_zero, List.set_cons_succ])
                      refine wpAnyH_ready (rs := [15]) (by kernel_rfl) (by simp) ?_
                      refine ord_run (i := 15) #[true, true, true, true, true, true, true, true, true, true, true, true, true, true, true, true, false, true, false] rfl (by kernel_rfl) (by rfl) (fun K hK => ?_) AllReadyH.nil
                      (refine wp_append_rowS (.tmp 160) (.tmp 162) 38 rfl (w7.heap.size + 1) 66 ip (.agg #[.int .i64 0, .int .i64 0, .int .i64 0, .string ⟨#[]⟩]) 4 40 Tryd.underlying38 I0.out I1.out I2.out I3.out rfl (by decide) _ n1 (cellsOfP P1 n1) rfl (by first | exact HO4.out.drew | exact HO4.out.drew.alloc _) A2 n2 d2 rfl (fun k => posC (P2 k)) (HA2.out.below (B7.out.trans ((B8.out.mono (by omega)).trans (by (repeat (first | (with_reducible exact Below.refl _ _) | (with_reducible assumption) | ((with_reducible refine Below.alloc ?_ ?_ _); (rotate_left); (first | omega | (simp <;> omega))) | ((with_reducible refine Below.setCell ?_ ?_ _); (rotate_left); (first | omega | (simp <;> omega))) | (with_reducible refine Below.drew ?_) | (with_reducible refine below_drewN ?_ _))))))) (cellsOfP P2 n2) (cellsOfP_len P2 n2) (cellsOfP_at P2 n2) (cellsOfP_ones P2 n2) (by simp only [maxLen]; omega) (by omega) (by simp; omega) ?_; intro A9 d9 w9 ho9 hg9 hv9; have hHeld := hHeld.grown hg9 (by simp) (fun kk hk => by simp [HGB.out kk hk]); have hb := below_grown (B := w7.heap.size + 1) hg9 (by simp; omega) (own_ge HO4.out); have q8B : Below w7.heap.size w7 w9 := (by refine Below.trans ?_ (hb.mono (by first | omega | (simp <;> omega))); (repeat (first | (with_reducible exact Below.refl _ _) | (with_reducible assumption) | ((with_reducible refine Below.alloc ?_ ?_ _); (rotate_left); (first | omega | (simp <;> omega))) | ((with_reducible refine Below.setCell ?_ ?_ _); (rotate_left); (first | omega | (simp <;> omega))) | (with_reducible refine Below.drew ?_) | (with_reducible refine below_drewN ?_ _)))); have q8z := hb.size; (try simp at q8z); have q8t : w7.heap.size ≤ w9.heap.size := (by omega); have q8s0 : w5.heap.size < w9.heap.size := (by omega); have q8n0_0 : ¬ w9.heap.size = w5.heap.size := (by omega); have q8n0_1 : ¬ w9.heap.size + 1 = w5.heap.size := (by omega); have q8n0_2 : ¬ w9.heap.size + 2 = w5.heap.size := (by omega); have q8c0_0 := hb.cell (p := ⟨w5.heap.size, 0, none⟩) (by first | omega | (simp <;> omega)); simp [go_sem, *] at q8c0_0; have q8c0_1 := hb.cell (p := ⟨w5.heap.size, 1, none⟩) (by first | omega | (simp <;> omega)); simp [go_sem, *] at q8c0_1; have q8c0_2 := hb.cell (p := ⟨w5.heap.size, 2, none⟩) (by first | omega | (simp <;> omega)); simp [go_sem, *] at q8c0_2; have q8c0_3 := hb.cell (p := ⟨w5.heap.size, 3, none⟩) (by first | omega | (simp <;> omega)); simp [go_sem, *] at q8c0_3; have q8c0_4 := hb.cell (p := ⟨w5.heap.size, 4, none⟩) (by first | omega | (simp <;> omega)); simp [go_sem, *] at q8c0_4; have q8c0_5 := hb.cell (p := ⟨w5.heap.size, 5, none⟩) (by first | omega | (simp <;> omega)); simp [go_sem, *] at q8c0_5; have q8c0_6 := hb.cell (p := ⟨w5.heap.size, 6, none⟩) (by first | omega | (simp <;> omega)); simp [go_sem, *] at q8c0_6; have q8f0 := fun o => hb.frozen (p := ⟨w5.heap.size, o, none⟩) (by first | omega | (simp <;> omega)); simp [go_sem, *] at q8f0; have q8s1 : w6.heap.size < w9.heap.size := (by omega); have q8n1_0 : ¬ w9.heap.size = w6.heap.size := (by omega); have q8n1_1 : ¬ w9.heap.size + 1 = w6.heap.size := (by omega); have q8n1_2 : ¬ w9.heap.size + 2 = w6.heap.size := (by omega); have q8c1_0 := hb.cell (p := ⟨w6.heap.size, 0, none⟩) (by first | omega | (simp <;> omega)); simp [go_sem, *] at q8c1_0; have q8c1_1 := hb.cell (p := ⟨w6.heap.size, 1, none⟩) (by first | omega | (simp <;> omega)); simp [go_sem, *] at q8c1_1; have q8c1_2 := hb.cell (p := ⟨w6.heap.size, 2, none⟩) (by first | omega | (simp <;> omega)); simp [go_sem, *] at q8c1_2; have q8c1_3 := hb.cell (p := ⟨w6.heap.size, 3, none⟩) (by first | omega | (simp <;> omega)); simp [go_sem, *] at q8c1_3; have q8c1_4 := hb.cell (p := ⟨w6.heap.size, 4, none⟩) (by first | omega | (simp <;> omega)); simp [go_sem, *] at q8c1_4; have q8c1_5 := hb.cell (p := ⟨w6.heap.size, 5, none⟩) (by first | omega | (simp <;> omega)); simp [go_sem, *] at q8c1_5; have q8c1_6 := hb.cell (p := ⟨w6.heap.size, 6, none⟩) (by first | omega | (simp <;> omega)); simp [go_sem, *] at q8c1_6; have q8f1 := fun o => hb.frozen (p := ⟨w6.heap.size, o, none⟩) (by first | omega | (simp <;> omega)); simp [go_sem, *] at q8f1; have q8s2 : w7.heap.size < w9.heap.size := (by omega); have q8n2_0 : ¬ w9.heap.size = w7.heap.size := (by omega); have q8n2_1 : ¬ w9.heap.size + 1 = w7.heap.size := (by omega); have q8n2_2 : ¬ w9.heap.size + 2 = w7.heap.size := (by omega); have q8c2_0 := hb.cell (p := ⟨w7.heap.size, 0, none⟩) (by first | omega | (simp <;> omega)); simp [go_sem, *] at q8c2_0; have q8c2_1 := hb.cell (p := ⟨w7.heap.size, 1, none⟩) (by first | omega | (simp <;> omega)); simp [go_sem, *] at q8c2_1; have q8c2_2 := hb.cell (p := ⟨w7.heap.size, 2, none⟩) (by first | omega | (simp <;> omega)); simp [go_sem, *] at q8c2_2; have q8c2_3 := hb.cell (p := ⟨w7.heap.size, 3, none⟩) (by first | omega | (simp <;> omega)); simp [go_sem, *] at q8c2_3; have q8c2_4 := hb.cell (p := ⟨w7.heap.size, 4, none⟩) (by first | omega | (simp <;> omega)); simp [go_sem, *] at q8c2_4; have q8c2_5 := hb.cell (p := ⟨w7.heap.size, 5, none⟩) (by first | omega | (simp <;> omega)); simp [go_sem, *] at q8c2_5; have q8c2_6 := hb.cell (p := ⟨w7.heap.size, 6, none⟩) (by first | omega | (simp <;> omega)); simp [go_sem, *] at q8c2_6; have q8f2 := fun o => hb.frozen (p := ⟨w7.heap.size, o, none⟩) (by first | omega | (simp <;> omega)); simp [go_sem, *] at q8f2; have q8o : ∀ b o, b < w7.heap.size → w9.cell? ⟨b, o, none⟩ = w7.cell? ⟨b, o, none⟩ := fun b o h => q8B.cell (p := ⟨b, o, none⟩) h; have hbS := hb; have hbS8 := hb; clear hb; have z9 := hg9.size; (try simp at z9); (first | (have HV9 := hide (show (Value.slice A9 (n1 + n2) d9).ownBlock ≠ some w8.heap.size from (by rcases hv9 with h | ⟨kk, h1, h2⟩; (rw [h]; exact fun e => e5 (HGB.out _ e)); (rw [h1]; intro e; injection e with e; simp at h2; omega)))) | (have HV9 := hide (show (Value.slice A9 (n1 + n2) d9).ownBlock ≠ some w9.heap.size from fun e => (by have := (ho9.lt _ e).2; omega)))); (try have hbx : ∀ o, w9.cell? ⟨w8.heap.size, o, none⟩ = _ := fun o => World.cell?_of_block (a := ⟨w8.heap.size, o, none⟩) (hg9.block w8.heap.size (by simp only [World.size_alloc, World.size_drew]; omega) (fun e => e5 (HGB.out _ e.symm)))); (try have hfx : ∀ o, w9.frozen? ⟨w8.heap.size, o, none⟩ = _ := fun o => World.frozen?_of_block (a := ⟨w8.heap.size, o, none⟩) (hg9.block w8.heap.size (by simp only [World.size_alloc, World.size_drew]; omega) (fun e => e5 (HGB.out _ e.symm)))); have HO9 := hide ho9; clear hv9 ho9)
                      refine hK.out _ _ ?_ (fun hHeld => ?_)
                      · (repeat (first | (with_reducible exact SB.refl) | (with_reducible exact hHeld) | (with_reducible assumption) | (with_reducible refine SB.drew ?_) | (with_reducible refine SB.drewN ?_ _) | ((with_reducible refine SB.alloc ?_ ?_ _); (rotate_left); (first | omega | (simp <;> omega))) | ((with_reducible refine SB.setCell ?_ ?_ _); (rotate_left); (focus (first | (simp; done) | (right; first | omega | (simp <;> omega))))) | ((with_reducible refine SB.below ?_ hbS ?_); (rotate_left); (first | omega | (simp <;> omega))) | ((with_reducible refine SB.below ?_ hbS1 ?_); (rotate_left); (first | omega | (simp <;> omega))) | ((with_reducible refine SB.below ?_ hbS2 ?_); (rotate_left); (first | omega | (simp <;> omega))) | ((with_reducible refine SB.below ?_ hbS3 ?_); (rotate_left); (first | omega | (simp <;> omega))) | ((with_reducible refine SB.below ?_ hbS4 ?_); (rotate_left); (first | omega | (simp <;> omega))) | (with_reducible refine SB.undrew ?_) | ((with_reducible refine SB.congr ?_ ?_); (rotate_left); (focus (simp; done))) | ((with_reducible refine SB.realloc ?_ ?_ ?_); (rotate_left); (focus (simp; done)); (focus (simp; done)))))
                      clear hK K
                      (try simp only [Act.put, List.setIfInBounds_toArray, List.set_cons_zero, List.set_cons_succ])
                      refine ord_take (i := 16) #[true, true, true, true, true, true, true, true, true, true, true, true, true, true, true, true, true, true, false] ?_ rfl (by kernel_rfl) (by kernel_rfl) (by kernel_rfl) (by kernel_rfl) (fun _ _ _ h => h) hHeld (by rfl) (fun wx hSx => ?_) ?_
                      rotate_left
                      · (unfold SB at hSx; go_simp; (try with_reducible rfl))
                      (try simp only [Act.put, List.setIfInBounds_toArray, List.set_cons_zero, List.set_cons_succ])
                      refine wpAnyH_ready (rs := [18]) (by kernel_rfl) (by simp) ?_
                      refine ord_run (i := 18) #[true, true, true, true, true, true, true, true, true, true, true, true, true, true, true, true, true, true, true] rfl (by kernel_rfl) (by rfl) (fun K hK => ?_) AllReadyH.nil
                      go_simp
                      refine hK.out _ _ ?_ (fun hHeld => ?_)
                      · (repeat (first | (with_reducible exact SB.refl) | (with_reducible exact hHeld) | (with_reducible assumption) | (with_reducible refine SB.drew ?_) | (with_reducible refine SB.drewN ?_ _) | ((with_reducible refine SB.alloc ?_ ?_ _); (rotate_left); (first | omega | (simp <;> omega))) | ((with_reducible refine SB.setCell ?_ ?_ _); (rotate_left); (focus (first | (simp; done) | (right; first | omega | (simp <;> omega))))) | ((with_reducible refine SB.below ?_ hbS ?_); (rotate_left); (first | omega | (simp <;> omega))) | ((with_reducible refine SB.below ?_ hbS1 ?_); (rotate_left); (first | omega | (simp <;> omega))) | ((with_reducible refine SB.below ?_ hbS2 ?_); (rotate_left); (first | omega | (simp <;> omega))) | ((with_reducible refine SB.below ?_ hbS3 ?_); (rotate_left); (first | omega | (simp <;> omega))) | ((with_reducible refine SB.below ?_ hbS4 ?_); (rotate_left); (first | omega | (simp <;> omega))) | (with_reducible refine SB.undrew ?_) | ((with_reducible refine SB.congr ?_ ?_); (rotate_left); (focus (simp; done))) | ((with_reducible refine SB.realloc ?_ ?_ ?_); (rotate_left); (focus (simp; done)); (focus (simp; done)))))
                      clear hK K
                      (try simp only [Act.put, List.setIfInBounds_toArray, List.set_cons_zero, List.set_cons_succ])
                      refine wpAnyH_done (by kernel_rfl) ?_ _
                      go_wp2_with fail
                      refine (follows_any x0 x1 x2 m O1 K1 x0 (x1 + 1) (m + 1) x3 K1 K2 A1 A2 n1 d1 n2 d2 HI.out.2.1 HI.out.1 ⟨u2, u1⟩ ⟨u4, u3⟩ _).mono ?_
                      rintro e w10 ⟨rfl, hb⟩
                      rw [HFO.out]
                      have HA9 : RowPos w10 A9 (n1 + n2) (catP P1 n1 P2) := RowPos.below (own_cat (base := w7.heap.size + 1) (e := 66) (by repeat (first | (with_reducible exact HO9.out) | (with_reducible refine World.ownsRow.alloc ?_ _) | (with_reducible refine own_row17 ?_ HV9.out _ _)))) hb
                      have HB9 := hide HA9
                      clear HA9
                      have f8 := hide q8B
                      have q9B : Below w7.heap.size w7 w10 := (by refine Below.trans ?_ (hb.mono (by first | omega | (simp <;> omega))); (repeat (first | (with_reducible exact Below.refl _ _) | (with_reducible assumption) | ((with_reducible refine Below.alloc ?_ ?_ _); (rotate_left); (first | omega | (simp <;> omega))) | ((with_reducible refine Below.setCell ?_ ?_ _); (rotate_left); (first | omega | (simp <;> omega))) | (with_reducible refine Below.drew ?_) | (with_reducible refine below_drewN ?_ _))))
                      have q9z := hb.size
                      try simp at q9z
                      have q9t : w7.heap.size ≤ w10.heap.size := (by omega)
                      have q9s0 : w5.heap.size < w10.heap.size := (by omega)
                      have q9n0_0 : ¬ w10.heap.size = w5.heap.size := (by omega)
                      have q9n0_1 : ¬ w10.heap.size + 1 = w5.heap.size := (by omega)
                      have q9n0_2 : ¬ w10.heap.size + 2 = w5.heap.size := (by omega)
                      have q9c0_0 := hb.cell (p := ⟨w5.heap.size, 0, none⟩) (by first | omega | (simp <;> omega))
                      simp [go_sem, *] at q9c0_0
                      have q9c0_1 := hb.cell (p := ⟨w5.heap.size, 1, none⟩) (by first | omega | (simp <;> omega))
                      simp [go_sem, *] at q9c0_1
                      have q9c0_2 := hb.cell (p := ⟨w5.heap.size, 2, none⟩) (by first | omega | (simp <;> omega))
                      simp [go_sem, *] at q9c0_2
                      have q9c0_3 := hb.cell (p := ⟨w5.heap.size, 3, none⟩) (by first | omega | (simp <;> omega))
                      simp [go_sem, *] at q9c0_3
                      have q9c0_4 := hb.cell (p := ⟨w5.heap.size, 4, none⟩) (by first | omega | (simp <;> omega))
                      simp [go_sem, *] at q9c0_4
                      have q9c0_5 := hb.cell (p := ⟨w5.heap.size, 5, none⟩) (by first | omega | (simp <;> omega))
                      simp [go_sem, *] at q9c0_5
                      have q9c0_6 := hb.cell (p := ⟨w5.heap.size, 6, none⟩) (by first | omega | (simp <;> omega))
                      simp [go_sem, *] at q9c0_6
                      have q9f0 := fun o => hb.frozen (p := ⟨w5.heap.size, o, none⟩) (by first | omega | (simp <;> omega))
                      simp [go_sem, *] at q9f0
                      have q9s1 : w6.heap.size < w10.heap.size := (by omega)
                      have q9n1_0 : ¬ w10.heap.size = w6.heap.size := (by omega)
                      have q9n1_1 : ¬ w10.heap.size + 1 = w6.heap.size := (by omega)
                      have q9n1_2 : ¬ w10.heap.size + 2 = w6.heap.size := (by omega)
                      have q9c1_0 := hb.cell (p := ⟨w6.heap.size, 0, none⟩) (by first | omega | (simp <;> omega))
                      simp [go_sem, *] at q9c1_0
                      have q9c1_1 := hb.cell (p := ⟨w6.heap.size, 1, none⟩) (by first | omega | (simp <;> omega))
                      simp [go_sem, *] at q9c1_1
                      have q9c1_2 := hb.cell (p := ⟨w6.heap.size, 2, none⟩) (by first | omega | (simp <;> omega))
                      simp [go_sem, *] at q9c1_2
                      have q9c1_3 := hb.cell (p := ⟨w6.heap.size, 3, none⟩) (by first | omega | (simp <;> omega))
                      simp [go_sem, *] at q9c1_3
                      have q9c1_4 := hb.cell (p := ⟨w6.heap.size, 4, none⟩) (by first | omega | (simp <;> omega))
                      simp [go_sem, *] at q9c1_4
                      have q9c1_5 := hb.cell (p := ⟨w6.heap.size, 5, none⟩) (by first | omega | (simp <;> omega))
                      simp [go_sem, *] at q9c1_5
                      have q9c1_6 := hb.cell (p := ⟨w6.heap.size, 6, none⟩) (by first | omega | (simp <;> omega))
                      simp [go_sem, *] at q9c1_6
                      have q9f1 := fun o => hb.frozen (p := ⟨w6.heap.size, o, none⟩) (by first | omega | (simp <;> omega))
                      simp [go_sem, *] at q9f1
                      have q9s2 : w7.heap.size < w10.heap.size := (by omega)
                      have q9n2_0 : ¬ w10.heap.size = w7.heap.size := (by omega)
                      have q9n2_1 : ¬ w10.heap.size + 1 = w7.heap.size := (by omega)
                      have q9n2_2 : ¬ w10.heap.size + 2 = w7.heap.size := (by omega)
                      have q9c2_0 := hb.cell (p := ⟨w7.heap.size, 0, none⟩) (by first | omega | (simp <;> omega))
                      simp [go_sem, *] at q9c2_0
                      have q9c2_1 := hb.cell (p := ⟨w7.heap.size, 1, none⟩) (by first | omega | (simp <;> omega))
                      simp [go_sem, *] at q9c2_1
                      have q9c2_2 := hb.cell (p := ⟨w7.heap.size, 2, none⟩) (by first | omega | (simp <;> omega))
                      simp [go_sem, *] at q9c2_2
                      have q9c2_3 := hb.cell (p := ⟨w7.heap.size, 3, none⟩) (by first | omega | (simp <;> omega))
                      simp [go_sem, *] at q9c2_3
                      have q9c2_4 := hb.cell (p := ⟨w7.heap.size, 4, none⟩) (by first | omega | (simp <;> omega))
                      simp [go_sem, *] at q9c2_4
                      have q9c2_5 := hb.cell (p := ⟨w7.heap.size, 5, none⟩) (by first | omega | (simp <;> omega))
                      simp [go_sem, *] at q9c2_5
                      have q9c2_6 := hb.cell (p := ⟨w7.heap.size, 6, none⟩) (by first | omega | (simp <;> omega))
                      simp [go_sem, *] at q9c2_6
                      have q9f2 := fun o => hb.frozen (p := ⟨w7.heap.size, o, none⟩) (by first | omega | (simp <;> omega))
                      simp [go_sem, *] at q9f2
                      have q9s3 : w8.heap.size < w10.heap.size := (by omega)
                      have q9n3_0 : ¬ w10.heap.size = w8.heap.size := (by omega)
                      have q9n3_1 : ¬ w10.heap.size + 1 = w8.heap.size := (by omega)
                      have q9n3_2 : ¬ w10.heap.size + 2 = w8.heap.size := (by omega)
                      have q9c3_0 := hb.cell (p := ⟨w8.heap.size, 0, none⟩) (by first | omega | (simp <;> omega))
                      simp [go_sem, *] at q9c3_0
                      have q9c3_1 := hb.cell (p := ⟨w8.heap.size, 1, none⟩) (by first | omega | (simp <;> omega))
                      simp [go_sem, *] at q9c3_1
                      have q9c3_2 := hb.cell (p := ⟨w8.heap.size, 2, none⟩) (by first | omega | (simp <;> omega))
                      simp [go_sem, *] at q9c3_2
                      have q9c3_3 := hb.cell (p := ⟨w8.heap.size, 3, none⟩) (by first | omega | (simp <;> omega))
                      simp [go_sem, *] at q9c3_3
                      have q9c3_4 := hb.cell (p := ⟨w8.heap.size, 4, none⟩) (by first | omega | (simp <;> omega))
                      simp [go_sem, *] at q9c3_4
                      have q9c3_5 := hb.cell (p := ⟨w8.heap.size, 5, none⟩) (by first | omega | (simp <;> omega))
                      simp [go_sem, *] at q9c3_5
                      have q9c3_6 := hb.cell (p := ⟨w8.heap.size, 6, none⟩) (by first | omega | (simp <;> omega))
                      simp [go_sem, *] at q9c3_6
                      have q9f3 := fun o => hb.frozen (p := ⟨w8.heap.size, o, none⟩) (by first | omega | (simp <;> omega))
                      simp [go_sem, *] at q9f3
                      have q9o : ∀ b o, b < w7.heap.size → w10.cell? ⟨b, o, none⟩ = w7.cell? ⟨b, o, none⟩ := fun b o h => q9B.cell (p := ⟨b, o, none⟩) h
                      clear hb q7o q7f3 q7c3_6 q7c3_5 q7c3_4 q7c3_3 q7c3_2 q7c3_1 q7c3_0 q7s3 q7f2 q7c2_6 q7c2_5 q7c2_4 q7c2_3 q7c2_2 q7c2_1 q7c2_0 q7s2 q7f1 q7c1_6 q7c1_5 q7c1_4 q7c1_3 q7c1_2 q7c1_1 q7c1_0 q7s1 q7f0 q7c0_3 q7c0_2 q7c0_1 q7c0_0 q7s0 q7z q7B
                      have B10 := hide q9B
                      go_wp2_with fail
                      refine (check_any x0 x1 x2 m O1 K1 A1 n1 d1 P1 (by omega) _ (HA1.out.below (B57.out.trans (B10.out.mono (by omega))))).mono ?_
                      rintro e w11 ⟨rfl, hb⟩
                      rw [F3.out.k1]
                      have q10B : Below w10.heap.size w10 w11 := (by refine Below.trans ?_ (hb.mono (by first | omega | (simp <;> omega))); (repeat (first | (with_reducible exact Below.refl _ _) | (with_reducible assumption) | ((with_reducible refine Below.alloc ?_ ?_ _); (rotate_left); (first | omega | (simp <;> omega))) | ((with_reducible refine Below.setCell ?_ ?_ _); (rotate_left); (first | omega | (simp <;> omega))) | (with_reducible refine Below.drew ?_) | (with_reducible refine below_drewN ?_ _))))
                      have q10z := hb.size
                      try simp at q10z
                      have q10t : w10.heap.size ≤ w11.heap.size := (by omega)
                      have q10s0 : w6.heap.size < w11.heap.size := (by omega)
                      have q10n0_0 : ¬ w11.heap.size = w6.heap.size := (by omega)
                      have q10n0_1 : ¬ w11.heap.size + 1 = w6.heap.size := (by omega)
                      have q10n0_2 : ¬ w11.heap.size + 2 = w6.heap.size := (by omega)
                      have q10c0_0 := hb.cell (p := ⟨w6.heap.size, 0, none⟩) (by first | omega | (simp <;> omega))
                      simp [go_sem, *] at q10c0_0
                      have q10c0_1 := hb.cell (p := ⟨w6.heap.size, 1, none⟩) (by first | omega | (simp <;> omega))
                      simp [go_sem, *] at q10c0_1
                      have q10c0_2 := hb.cell (p := ⟨w6.heap.size, 2, none⟩) (by first | omega | (simp <;> omega))
                      simp [go_sem, *] at q10c0_2
                      have q10c0_3 := hb.cell (p := ⟨w6.heap.size, 3, none⟩) (by first | omega | (simp <;> omega))
                      simp [go_sem, *] at q10c0_3
                      have q10c0_4 := hb.cell (p := ⟨w6.heap.size, 4, none⟩) (by first | omega | (simp <;> omega))
                      simp [go_sem, *] at q10c0_4
                      have q10c0_5 := hb.cell (p := ⟨w6.heap.size, 5, none⟩) (by first | omega | (simp <;> omega))
                      simp [go_sem, *] at q10c0_5
                      have q10c0_6 := hb.cell (p := ⟨w6.heap.size, 6, none⟩) (by first | omega | (simp <;> omega))
                      simp [go_sem, *] at q10c0_6
                      have q10f0 := fun o => hb.frozen (p := ⟨w6.heap.size, o, none⟩) (by first | omega | (simp <;> omega))
                      simp [go_sem, *] at q10f0
                      have q10s1 : w7.heap.size < w11.heap.size := (by omega)
                      have q10n1_0 : ¬ w11.heap.size = w7.heap.size := (by omega)
                      have q10n1_1 : ¬ w11.heap.size + 1 = w7.heap.size := (by omega)
                      have q10n1_2 : ¬ w11.heap.size + 2 = w7.heap.size := (by omega)
                      have q10c1_0 := hb.cell (p := ⟨w7.heap.size, 0, none⟩) (by first | omega | (simp <;> omega))
                      simp [go_sem, *] at q10c1_0
                      have q10c1_1 := hb.cell (p := ⟨w7.heap.size, 1, none⟩) (by first | omega | (simp <;> omega))
                      simp [go_sem, *] at q10c1_1
                      have q10c1_2 := hb.cell (p := ⟨w7.heap.size, 2, none⟩) (by first | omega | (simp <;> omega))
                      simp [go_sem, *] at q10c1_2
                      have q10c1_3 := hb.cell (p := ⟨w7.heap.size, 3, none⟩) (by first | omega | (simp <;> omega))
                      simp [go_sem, *] at q10c1_3
                      have q10c1_4 := hb.cell (p := ⟨w7.heap.size, 4, none⟩) (by first | omega | (simp <;> omega))
                      simp [go_sem, *] at q10c1_4
                      have q10c1_5 := hb.cell (p := ⟨w7.heap.size, 5, none⟩) (by first | omega | (simp <;> omega))
                      simp [go_sem, *] at q10c1_5
                      have q10c1_6 := hb.cell (p := ⟨w7.heap.size, 6, none⟩) (by first | omega | (simp <;> omega))
                      simp [go_sem, *] at q10c1_6
                      have q10f1 := fun o => hb.frozen (p := ⟨w7.heap.size, o, none⟩) (by first | omega | (simp <;> omega))
                      simp [go_sem, *] at q10f1
                      have q10s2 : w8.heap.size < w11.heap.size := (by omega)
                      have q10n2_0 : ¬ w11.heap.size = w8.heap.size := (by omega)
                      have q10n2_1 : ¬ w11.heap.size + 1 = w8.heap.size := (by omega)
                      have q10n2_2 : ¬ w11.heap.size + 2 = w8.heap.size := (by omega)
                      have q10c2_0 := hb.cell (p := ⟨w8.heap.size, 0, none⟩) (by first | omega | (simp <;> omega))
                      simp [go_sem, *] at q10c2_0
                      have q10c2_1 := hb.cell (p := ⟨w8.heap.size, 1, none⟩) (by first | omega | (simp <;> omega))
                      simp [go_sem, *] at q10c2_1
                      have q10c2_2 := hb.cell (p := ⟨w8.heap.size, 2, none⟩) (by first | omega | (simp <;> omega))
                      simp [go_sem, *] at q10c2_2
                      have q10c2_3 := hb.cell (p := ⟨w8.heap.size, 3, none⟩) (by first | omega | (simp <;> omega))
                      simp [go_sem, *] at q10c2_3
                      have q10c2_4 := hb.cell (p := ⟨w8.heap.size, 4, none⟩) (by first | omega | (simp <;> omega))
                      simp [go_sem, *] at q10c2_4
                      have q10c2_5 := hb.cell (p := ⟨w8.heap.size, 5, none⟩) (by first | omega | (simp <;> omega))
                      simp [go_sem, *] at q10c2_5
                      have q10c2_6 := hb.cell (p := ⟨w8.heap.size, 6, none⟩) (by first | omega | (simp <;> omega))
                      simp [go_sem, *] at q10c2_6
                      have q10f2 := fun o => hb.frozen (p := ⟨w8.heap.size, o, none⟩) (by first | omega | (simp <;> omega))
                      simp [go_sem, *] at q10f2
                      have q10o : ∀ b o, b < w10.heap.size → w11.cell? ⟨b, o, none⟩ = w10.cell? ⟨b, o, none⟩ := fun b o h => q10B.cell (p := ⟨b, o, none⟩) h
                      clear hb q9o q9f3 q9c3_6 q9c3_5 q9c3_4 q9c3_3 q9c3_2 q9c3_1 q9c3_0 q9s3 q9f2 q9c2_6 q9c2_5 q9c2_4 q9c2_3 q9c2_2 q9c2_1 q9c2_0 q9s2 q9f1 q9c1_6 q9c1_5 q9c1_4 q9c1_3 q9c1_2 q9c1_1 q9c1_0 q9s1 q9f0 q9c0_6 q9c0_5 q9c0_4 q9c0_3 q9c0_2 q9c0_1 q9c0_0 q9s0 q9z q9B
                      have B11 := hide q10B
                      go_wp2_with fail
                      refine (check_any x0 (x1 + 1) (m + 1) x3 K1 K2 A2 n2 d2 P2 (by omega) _ (HA2.out.below (B7.out.trans ((B10.out.mono (by omega)).trans (B11.out.mono (by omega)))))).mono ?_
                      rintro e w12 ⟨rfl, hb⟩
                      rw [F3.out.k2]
                      have q11B : Below w11.heap.size w11 w12 := (by refine Below.trans ?_ (hb.mono (by first | omega | (simp <;> omega))); (repeat (first | (with_reducible exact Below.refl _ _) | (with_reducible assumption) | ((with_reducible refine Below.alloc ?_ ?_ _); (rotate_left); (first | omega | (simp <;> omega))) | ((with_reducible refine Below.setCell ?_ ?_ _); (rotate_left); (first | omega | (simp <;> omega))) | (with_reducible refine Below.drew ?_) | (with_reducible refine below_drewN ?_ _))))
                      have q11z := hb.size
                      try simp at q11z
                      have q11t : w11.heap.size ≤ w12.heap.size := (by omega)
                      have q11s0 : w7.heap.size < w12.heap.size := (by omega)
                      have q11n0_0 : ¬ w12.heap.size = w7.heap.size := (by omega)
                      have q11n0_1 : ¬ w12.heap.size + 1 = w7.heap.size := (by omega)
                      have q11n0_2 : ¬ w12.heap.size + 2 = w7.heap.size := (by omega)
                      have q11c0_0 := hb.cell (p := ⟨w7.heap.size, 0, none⟩) (by first | omega | (simp <;> omega))
                      simp [go_sem, *] at q11c0_0
                      have q11c0_1 := hb.cell (p := ⟨w7.heap.size, 1, none⟩) (by first | omega | (simp <;> omega))
                      simp [go_sem, *] at q11c0_1
                      have q11c0_2 := hb.cell (p := ⟨w7.heap.size, 2, none⟩) (by first | omega | (simp <;> omega))
                      simp [go_sem, *] at q11c0_2
                      have q11c0_3 := hb.cell (p := ⟨w7.heap.size, 3, none⟩) (by first | omega | (simp <;> omega))
                      simp [go_sem, *] at q11c0_3
                      have q11c0_4 := hb.cell (p := ⟨w7.heap.size, 4, none⟩) (by first | omega | (simp <;> omega))
                      simp [go_sem, *] at q11c0_4
                      have q11c0_5 := hb.cell (p := ⟨w7.heap.size, 5, none⟩) (by first | omega | (simp <;> omega))
                      simp [go_sem, *] at q11c0_5
                      have q11c0_6 := hb.cell (p := ⟨w7.heap.size, 6, none⟩) (by first | omega | (simp <;> omega))
                      simp [go_sem, *] at q11c0_6
                      have q11f0 := fun o => hb.frozen (p := ⟨w7.heap.size, o, none⟩) (by first | omega | (simp <;> omega))
                      simp [go_sem, *] at q11f0
                      have q11s1 : w8.heap.size < w12.heap.size := (by omega)
                      have q11n1_0 : ¬ w12.heap.size = w8.heap.size := (by omega)
                      have q11n1_1 : ¬ w12.heap.size + 1 = w8.heap.size := (by omega)
                      have q11n1_2 : ¬ w12.heap.size + 2 = w8.heap.size := (by omega)
                      have q11c1_0 := hb.cell (p := ⟨w8.heap.size, 0, none⟩) (by first | omega | (simp <;> omega))
                      simp [go_sem, *] at q11c1_0
                      have q11c1_1 := hb.cell (p := ⟨w8.heap.size, 1, none⟩) (by first | omega | (simp <;> omega))
                      simp [go_sem, *] at q11c1_1
                      have q11c1_2 := hb.cell (p := ⟨w8.heap.size, 2, none⟩) (by first | omega | (simp <;> omega))
                      simp [go_sem, *] at q11c1_2
                      have q11c1_3 := hb.cell (p := ⟨w8.heap.size, 3, none⟩) (by first | omega | (simp <;> omega))
                      simp [go_sem, *] at q11c1_3
                      have q11c1_4 := hb.cell (p := ⟨w8.heap.size, 4, none⟩) (by first | omega | (simp <;> omega))
                      simp [go_sem, *] at q11c1_4
                      have q11c1_5 := hb.cell (p := ⟨w8.heap.size, 5, none⟩) (by first | omega | (simp <;> omega))
                      simp [go_sem, *] at q11c1_5
                      have q11c1_6 := hb.cell (p := ⟨w8.heap.size, 6, none⟩) (by first | omega | (simp <;> omega))
                      simp [go_sem, *] at q11c1_6
                      have q11f1 := fun o => hb.frozen (p := ⟨w8.heap.size, o, none⟩) (by first | omega | (simp <;> omega))
                      simp [go_sem, *] at q11f1
                      have q11o : ∀ b o, b < w11.heap.size → w12.cell? ⟨b, o, none⟩ = w11.cell? ⟨b, o, none⟩ := fun b o h => q11B.cell (p := ⟨b, o, none⟩) h
                      clear hb q10o q10f2 q10c2_6 q10c2_5 q10c2_4 q10c2_3 q10c2_2 q10c2_1 q10c2_0 q10s2 q10f1 q10c1_6 q10c1_5 q10c1_4 q10c1_3 q10c1_2 q10c1_1 q10c1_0 q10s1 q10f0 q10c0_6 q10c0_5 q10c0_4 q10c0_3 q10c0_2 q10c0_1 q10c0_0 q10s0 q10z q10B
                      have B12 := hide (B11.out.trans (q11B.mono (by omega)))
                      go_wp2_with fail
                      refine (check_any x0 x1 x2 x3 O1 K2 A3 (n1 + n2) d3 (catP P1 n1 P2) hle _ (HA3.out.below (B10.out.trans (B12.out.mono (by omega))))).mono ?_
                      rintro e w13 ⟨rfl, hb⟩
                      rw [F3.out.k3]
                      have q12B : Below w12.heap.size w12 w13 := (by refine Below.trans ?_ (hb.mono (by first | omega | (simp <;> omega))); (repeat (first | (with_reducible exact Below.refl _ _) | (with_reducible assumption) | ((with_reducible refine Below.alloc ?_ ?_ _); (rotate_left); (first | omega | (simp <;> omega))) | ((with_reducible refine Below.setCell ?_ ?_ _); (rotate_left); (first | omega | (simp <;> omega))) | (with_reducible refine Below.drew ?_) | (with_reducible refine below_drewN ?_ _))))
                      have q12z := hb.size
                      try simp at q12z
                      have q12t : w12.heap.size ≤ w13.heap.size := (by omega)
                      have q12s0 : w7.heap.size < w13.heap.size := (by omega)
                      have q12n0_0 : ¬ w13.heap.size = w7.heap.size := (by omega)
                      have q12n0_1 : ¬ w13.heap.size + 1 = w7.heap.size := (by omega)
                      have q12n0_2 : ¬ w13.heap.size + 2 = w7.heap.size := (by omega)
                      have q12c0_0 := hb.cell (p := ⟨w7.heap.size, 0, none⟩) (by first | omega | (simp <;> omega))
                      simp [go_sem, *] at q12c0_0
                      have q12c0_1 := hb.cell (p := ⟨w7.heap.size, 1, none⟩) (by first | omega | (simp <;> omega))
                      simp [go_sem, *] at q12c0_1
                      have q12c0_2 := hb.cell (p := ⟨w7.heap.size, 2, none⟩) (by first | omega | (simp <;> omega))
                      simp [go_sem, *] at q12c0_2
                      have q12c0_3 := hb.cell (p := ⟨w7.heap.size, 3, none⟩) (by first | omega | (simp <;> omega))
                      simp [go_sem, *] at q12c0_3
                      have q12c0_4 := hb.cell (p := ⟨w7.heap.size, 4, none⟩) (by first | omega | (simp <;> omega))
                      simp [go_sem, *] at q12c0_4
                      have q12c0_5 := hb.cell (p := ⟨w7.heap.size, 5, none⟩) (by first | omega | (simp <;> omega))
                      simp [go_sem, *] at q12c0_5
                      have q12c0_6 := hb.cell (p := ⟨w7.heap.size, 6, none⟩) (by first | omega | (simp <;> omega))
                      simp [go_sem, *] at q12c0_6
                      have q12f0 := fun o => hb.frozen (p := ⟨w7.heap.size, o, none⟩) (by first | omega | (simp <;> omega))
                      simp [go_sem, *] at q12f0
                      have q12s1 : w8.heap.size < w13.heap.size := (by omega)
                      have q12n1_0 : ¬ w13.heap.size = w8.heap.size := (by omega)
                      have q12n1_1 : ¬ w13.heap.size + 1 = w8.heap.size := (by omega)
                      have q12n1_2 : ¬ w13.heap.size + 2 = w8.heap.size := (by omega)
                      have q12c1_0 := hb.cell (p := ⟨w8.heap.size, 0, none⟩) (by first | omega | (simp <;> omega))
                      simp [go_sem, *] at q12c1_0
                      have q12c1_1 := hb.cell (p := ⟨w8.heap.size, 1, none⟩) (by first | omega | (simp <;> omega))
                      simp [go_sem, *] at q12c1_1
                      have q12c1_2 := hb.cell (p := ⟨w8.heap.size, 2, none⟩) (by first | omega | (simp <;> omega))
                      simp [go_sem, *] at q12c1_2
                      have q12c1_3 := hb.cell (p := ⟨w8.heap.size, 3, none⟩) (by first | omega | (simp <;> omega))
                      simp [go_sem, *] at q12c1_3
                      have q12c1_4 := hb.cell (p := ⟨w8.heap.size, 4, none⟩) (by first | omega | (simp <;> omega))
                      simp [go_sem, *] at q12c1_4
                      have q12c1_5 := hb.cell (p := ⟨w8.heap.size, 5, none⟩) (by first | omega | (simp <;> omega))
                      simp [go_sem, *] at q12c1_5
                      have q12c1_6 := hb.cell (p := ⟨w8.heap.size, 6, none⟩) (by first | omega | (simp <;> omega))
                      simp [go_sem, *] at q12c1_6
                      have q12f1 := fun o => hb.frozen (p := ⟨w8.heap.size, o, none⟩) (by first | omega | (simp <;> omega))
                      simp [go_sem, *] at q12f1
                      have q12o : ∀ b o, b < w12.heap.size → w13.cell? ⟨b, o, none⟩ = w12.cell? ⟨b, o, none⟩ := fun b o h => q12B.cell (p := ⟨b, o, none⟩) h
                      clear hb q11o q11f1 q11c1_6 q11c1_5 q11c1_4 q11c1_3 q11c1_2 q11c1_1 q11c1_0 q11s1 q11f0 q11c0_6 q11c0_5 q11c0_4 q11c0_3 q11c0_2 q11c0_1 q11c0_0 q11s0 q11z q11B
                      have B13 := hide (B12.out.trans (q12B.mono (by omega)))
                      go_wp2_with fail
                      refine (same_eq x0 x1 x2 x3 O1 K2 A9 A3 (n1 + n2) d9 d3 (catP P1 n1 P2) hle _ (HB9.out.below B13.out) (HA3.out.below (B10.out.trans (B13.out.mono (by omega))))).mono ?_
                      rintro e w14 ⟨rfl, hb⟩
                      have B14 := hide (B4.out.trans ((B5.out.trans ((B57.out.mono (by omega)).trans ((B10.out.mono (by omega)).trans ((B13.out.mono (by omega)).trans (hb.mono (by omega)))))).mono (by omega)))
                      have z14 := B14.out.size
                      clear hb
                      go_wp2_with fail
                      refine (lives_any _ (HT.out.below B14.out)).mono ?_
                      rintro e w15 ⟨rfl, hb⟩
                      go_wp2_with fail
                      go_ret
                      exact ⟨rfl, B14.out.trans (hb.mono z14)⟩
                    exact AllReadyH.nil
                  · rcases Bool.eq_false_or_eq_true (hasA a x0 an) with hhas | hhas
                    · by_cases hne : mkE (hasA a x0 an) x1 x2 m = 0
                      · have hne2 : mkE (hasA a x0 an) (x1 + 1) (m + 1) x3 ≠ 0 := fun h => hok ⟨hne, h, (mk_third hhas g1 g3 g4 hne h)⟩
                        have s2 : 0 ≤ x2 := (mk_from hne).1
                        have s3 : 73048 < x3 := by
                          rcases mk_err g1 g3 g4 hok with h | h | h
                          · rw [hhas] at h; cases h
                          · omega
                          · exact h
                        clear hok
                        obtain ⟨R1, hR1⟩ : ∃ R, R = mkE (hasA a x0 an) x1 x2 m := ⟨_, rfl⟩
                        obtain ⟨R2, hR2⟩ : ∃ R, R = mkE (hasA a x0 an) (x1 + 1) (m + 1) x3 := ⟨_, rfl⟩
                        obtain ⟨R3, hR3⟩ : ∃ R, R = mkE (hasA a x0 an) x1 x2 x3 := ⟨_, rfl⟩
                        have M1 := hide (show ∀ W, RowAcc W aA an a → Jrn W A' jn (numA E) → Calls Tryd.prog 10 #[.agg C', .int .i64 x0, .int .i64 x1, .int .i64 x2, .int .i64 m] W (StE R1 W) from fun W h1 h2 => (by have h := make_any C' aA an ac A' jn c' HC2.out a (numA E) x0 x1 x2 m hn hjn W h1 h2; rw [← hR1] at h; exact h.mono fun _ _ hh => stE_of hh))
                        have M2 := hide (show ∀ W, RowAcc W aA an a → Jrn W A' jn (numA E) → Calls Tryd.prog 10 #[.agg C', .int .i64 x0, .int .i64 (x1+1), .int .i64 (m+1), .int .i64 x3] W (StE R2 W) from fun W h1 h2 => (by have h := make_any C' aA an ac A' jn c' HC2.out a (numA E) x0 (x1 + 1) (m + 1) x3 hn hjn W h1 h2; rw [← hR2] at h; exact h.mono fun _ _ hh => stE_of hh))
                        have M3 := hide (show ∀ W, RowAcc W aA an a → Jrn W A' jn (numA E) → Calls Tryd.prog 10 #[.agg C', .int .i64 x0, .int .i64 x1, .int .i64 x2, .int .i64 x3] W (StE R3 W) from fun W h1 h2 => (by have h := make_any C' aA an ac A' jn c' HC2.out a (numA E) x0 x1 x2 x3 hn hjn W h1 h2; rw [← hR3] at h; exact h.mono fun _ _ hh => stE_of hh))
                        have r1 : (R1 != 0) = false := by rw [hR1, hne]; rfl
                        have r2 : (R2 != 0) = true := by rw [hR2]; exact bne_iff_ne.2 hne2
                        clear hR1 hR2 hR3 hne hne2
                        have HHAS := hide hhas
                        clear hhas
                        go_wp2_with (with_reducible refine wpList_load_row rfl 33 (.tmp 3) rfl w.heap.size rfl 33 C' (0, 0) _ X4.out Tryd.underlying33 rfl HWB.out ?_)
                        refine (M1.out _ HR4.out HJ4.out).mono ?_
                        rintro e w5 ⟨a0, a1, a2, a3, a4, a5, A1, n1, d1, rfl, hb⟩
                        have X5 := hide (blk_below hb (by omega) X4.out)
                        have q4B : Below w4.heap.size w4 w5 := (by refine Below.trans ?_ (hb.mono (by first | omega | (simp <;> omega))); (repeat (first | (with_reducible exact Below.refl _ _) | (with_reducible assumption) | ((with_reducible refine Below.alloc ?_ ?_ _); (rotate_left); (first | omega | (simp <;> omega))) | ((with_reducible refine Below.setCell ?_ ?_ _); (rotate_left); (first | omega | (simp <;> omega))) | (with_reducible refine Below.drew ?_) | (with_reducible refine below_drewN ?_ _))))
                        have q4z := hb.size
                        try simp at q4z
                        have q4t : w4.heap.size ≤ w5.heap.size := (by omega)
                        have q4s0 : w.heap.size + 1 < w5.heap.size := (by omega)
                        have q4n0_0 : ¬ w5.heap.size = w.heap.size + 1 := (by omega)
                        have q4n0_1 : ¬ w5.heap.size + 1 = w.heap.size + 1 := (by omega)
                        have q4n0_2 : ¬ w5.heap.size + 2 = w.heap.size + 1 := (by omega)
                        have q4c0_0 := hb.cell (p := ⟨w.heap.size + 1, 0, none⟩) (by first | omega | (simp <;> omega))
                        simp [go_sem, *] at q4c0_0
                        have q4c0_1 := hb.cell (p := ⟨w.heap.size + 1, 1, none⟩) (by first | omega | (simp <;> omega))
                        simp [go_sem, *] at q4c0_1
                        have q4c0_2 := hb.cell (p := ⟨w.heap.size + 1, 2, none⟩) (by first | omega | (simp <;> omega))
                        simp [go_sem, *] at q4c0_2
                        have q4c0_3 := hb.cell (p := ⟨w.heap.size + 1, 3, none⟩) (by first | omega | (simp <;> omega))
                        simp [go_sem, *] at q4c0_3
                        have q4f0 := fun o => hb.frozen (p := ⟨w.heap.size + 1, o, none⟩) (by first | omega | (simp <;> omega))
                        simp [go_sem, *] at q4f0
                        have q4o : ∀ b o, b < w4.heap.size → w5.cell? ⟨b, o, none⟩ = w4.cell? ⟨b, o, none⟩ := fun b o h => q4B.cell (p := ⟨b, o, none⟩) h
                        clear hb
                        have B5 := hide q4B
                        go_wp2_with (with_reducible refine wpList_load_row rfl 33 (.tmp 3) rfl w.heap.size rfl 33 C' (0, 0) _ (blk_under X5.out) Tryd.underlying33 rfl HWB.out ?_)
                        refine (M2.out _ (HR4.out.below (B5.out.trans (by (repeat (first | (with_reducible exact Below.refl _ _) | (with_reducible assumption) | ((with_reducible refine Below.alloc ?_ ?_ _); (rotate_left); (first | omega | (simp <;> omega))) | ((with_reducible refine Below.setCell ?_ ?_ _); (rotate_left); (first | omega | (simp <;> omega))) | (with_reducible refine Below.drew ?_) | (with_reducible refine below_drewN ?_ _)))))) (HJ4.out.below (B5.out.trans (by (repeat (first | (with_reducible exact Below.refl _ _) | (with_reducible assumption) | ((with_reducible refine Below.alloc ?_ ?_ _); (rotate_left); (first | omega | (simp <;> omega))) | ((with_reducible refine Below.setCell ?_ ?_ _); (rotate_left); (first | omega | (simp <;> omega))) | (with_reducible refine Below.drew ?_) | (with_reducible refine below_drewN ?_ _))))))).mono ?_
                        rintro e w6 ⟨b0, b1, b2, b3, b4, b5, A2, n2, d2, rfl, hb⟩
                        have X6 := hide (blk_below hb (by simp; omega) (blk_under X5.out))
                        have q5B : Below w5.heap.size w5 w6 := (by refine Below.trans ?_ (hb.mono (by first | omega | (simp <;> omega))); (repeat (first | (with_reducible exact Below.refl _ _) | (with_reducible assumption) | ((with_reducible refine Below.alloc ?_ ?_ _); (rotate_left); (first | omega | (simp <;> omega))) | ((with_reducible refine Below.setCell ?_ ?_ _); (rotate_left); (first | omega | (simp <;> omega))) | (with_reducible refine Below.drew ?_) | (with_reducible refine below_drewN ?_ _))))
                        have q5z := hb.size
                        try simp at q5z
                        have q5t : w5.heap.size ≤ w6.heap.size := (by omega)
                        have q5s0 : w.heap.size + 1 < w6.heap.size := (by omega)
                        have q5n0_0 : ¬ w6.heap.size = w.heap.size + 1 := (by omega)
                        have q5n0_1 : ¬ w6.heap.size + 1 = w.heap.size + 1 := (by omega)
                        have q5n0_2 : ¬ w6.heap.size + 2 = w.heap.size + 1 := (by omega)
                        have q5c0_0 := hb.cell (p := ⟨w.heap.size + 1, 0, none⟩) (by first | omega | (simp <;> omega))
                        simp [go_sem, *] at q5c0_0
                        have q5c0_1 := hb.cell (p := ⟨w.heap.size + 1, 1, none⟩) (by first | omega | (simp <;> omega))
                        simp [go_sem, *] at q5c0_1
                        have q5c0_2 := hb.cell (p := ⟨w.heap.size + 1, 2, none⟩) (by first | omega | (simp <;> omega))
                        simp [go_sem, *] at q5c0_2
                        have q5c0_3 := hb.cell (p := ⟨w.heap.size + 1, 3, none⟩) (by first | omega | (simp <;> omega))
                        simp [go_sem, *] at q5c0_3
                        have q5f0 := fun o => hb.frozen (p := ⟨w.heap.size + 1, o, none⟩) (by first | omega | (simp <;> omega))
                        simp [go_sem, *] at q5f0
                        have q5o : ∀ b o, b < w5.heap.size → w6.cell? ⟨b, o, none⟩ = w5.cell? ⟨b, o, none⟩ := fun b o h => q5B.cell (p := ⟨b, o, none⟩) h
                        clear hb q4o q4f0 q4c0_3 q4c0_2 q4c0_1 q4c0_0 q4s0 q4z q4B
                        have B6 := hide (B5.out.trans (q5B.mono (by omega)))
                        go_wp2_with (with_reducible refine wpList_load_row rfl 33 (.tmp 3) rfl w.heap.size rfl 33 C' (0, 0) _ (blk_under X6.out) Tryd.underlying33 rfl HWB.out ?_)
                        refine (M3.out _ (HR4.out.below (B6.out.trans (by (repeat (first | (with_reducible exact Below.refl _ _) | (with_reducible assumption) | ((with_reducible refine Below.alloc ?_ ?_ _); (rotate_left); (first | omega | (simp <;> omega))) | ((with_reducible refine Below.setCell ?_ ?_ _); (rotate_left); (first | omega | (simp <;> omega))) | (with_reducible refine Below.drew ?_) | (with_reducible refine below_drewN ?_ _)))))) (HJ4.out.below (B6.out.trans (by (repeat (first | (with_reducible exact Below.refl _ _) | (with_reducible assumption) | ((with_reducible refine Below.alloc ?_ ?_ _); (rotate_left); (first | omega | (simp <;> omega))) | ((with_reducible refine Below.setCell ?_ ?_ _); (rotate_left); (first | omega | (simp <;> omega))) | (with_reducible refine Below.drew ?_) | (with_reducible refine below_drewN ?_ _))))))).mono ?_
                        rintro e w7 ⟨c0, c1, c2, c3, c4, c5, A3, n3, d3, rfl, hb⟩
                        have X7 := hide (blk_below hb (by simp; omega) (blk_under X6.out))
                        have q6B : Below w6.heap.size w6 w7 := (by refine Below.trans ?_ (hb.mono (by first | omega | (simp <;> omega))); (repeat (first | (with_reducible exact Below.refl _ _) | (with_reducible assumption) | ((with_reducible refine Below.alloc ?_ ?_ _); (rotate_left); (first | omega | (simp <;> omega))) | ((with_reducible refine Below.setCell ?_ ?_ _); (rotate_left); (first | omega | (simp <;> omega))) | (with_reducible refine Below.drew ?_) | (with_reducible refine below_drewN ?_ _))))
                        have q6z := hb.size
                        try simp at q6z
                        have q6t : w6.heap.size ≤ w7.heap.size := (by omega)
                        have q6s0 : w.heap.size + 1 < w7.heap.size := (by omega)
                        have q6n0_0 : ¬ w7.heap.size = w.heap.size + 1 := (by omega)
                        have q6n0_1 : ¬ w7.heap.size + 1 = w.heap.size + 1 := (by omega)
                        have q6n0_2 : ¬ w7.heap.size + 2 = w.heap.size + 1 := (by omega)
                        have q6c0_0 := hb.cell (p := ⟨w.heap.size + 1, 0, none⟩) (by first | omega | (simp <;> omega))
                        simp [go_sem, *] at q6c0_0
                        have q6c0_1 := hb.cell (p := ⟨w.heap.size + 1, 1, none⟩) (by first | omega | (simp <;> omega))
                        simp [go_sem, *] at q6c0_1
                        have q6c0_2 := hb.cell (p := ⟨w.heap.size + 1, 2, none⟩) (by first | omega | (simp <;> omega))
                        simp [go_sem, *] at q6c0_2
                        have q6c0_3 := hb.cell (p := ⟨w.heap.size + 1, 3, none⟩) (by first | omega | (simp <;> omega))
                        simp [go_sem, *] at q6c0_3
                        have q6f0 := fun o => hb.frozen (p := ⟨w.heap.size + 1, o, none⟩) (by first | omega | (simp <;> omega))
                        simp [go_sem, *] at q6f0
                        have q6o : ∀ b o, b < w6.heap.size → w7.cell? ⟨b, o, none⟩ = w6.cell? ⟨b, o, none⟩ := fun b o h => q6B.cell (p := ⟨b, o, none⟩) h
                        clear hb q5o q5f0 q5c0_3 q5c0_2 q5c0_1 q5c0_0 q5s0 q5z q5B
                        have B7 := hide (B6.out.trans (q6B.mono (by omega)))
                        go_wp2_with (with_reducible refine wpList_load_row rfl 33 (.tmp 3) rfl w.heap.size rfl 33 C' (0, 0) _ (blk_under X7.out) Tryd.underlying33 rfl HWB.out ?_)
                        refine (rfind_any C' aA an ac A' jn c' HC2.out a x0 hn _ (HR4.out.below (B7.out.trans (by (repeat (first | (with_reducible exact Below.refl _ _) | (with_reducible assumption) | ((with_reducible refine Below.alloc ?_ ?_ _); (rotate_left); (first | omega | (simp <;> omega))) | ((with_reducible refine Below.setCell ?_ ?_ _); (rotate_left); (first | omega | (simp <;> omega))) | (with_reducible refine Below.drew ?_) | (with_reducible refine below_drewN ?_ _))))))).mono ?_
                        rintro e w8 ⟨rfl, hb⟩
                        rw [HHAS.out]
                        have q7B : Below w7.heap.size w7 w8 := (by refine Below.trans ?_ (hb.mono (by first | omega | (simp <;> omega))); (repeat (first | (with_reducible exact Below.refl _ _) | (with_reducible assumption) | ((with_reducible refine Below.alloc ?_ ?_ _); (rotate_left); (first | omega | (simp <;> omega))) | ((with_reducible refine Below.setCell ?_ ?_ _); (rotate_left); (first | omega | (simp <;> omega))) | (with_reducible refine Below.drew ?_) | (with_reducible refine below_drewN ?_ _))))
                        have q7z := hb.size
                        try simp at q7z
                        have q7t : w7.heap.size ≤ w8.heap.size := (by omega)
                        have q7s0 : w.heap.size + 1 < w8.heap.size := (by omega)
                        have q7n0_0 : ¬ w8.heap.size = w.heap.size + 1 := (by omega)
                        have q7n0_1 : ¬ w8.heap.size + 1 = w.heap.size + 1 := (by omega)
                        have q7n0_2 : ¬ w8.heap.size + 2 = w.heap.size + 1 := (by omega)
                        have q7c0_0 := hb.cell (p := ⟨w.heap.size + 1, 0, none⟩) (by first | omega | (simp <;> omega))
                        simp [go_sem, *] at q7c0_0
                        have q7c0_1 := hb.cell (p := ⟨w.heap.size + 1, 1, none⟩) (by first | omega | (simp <;> omega))
                        simp [go_sem, *] at q7c0_1
                        have q7c0_2 := hb.cell (p := ⟨w.heap.size + 1, 2, none⟩) (by first | omega | (simp <;> omega))
                        simp [go_sem, *] at q7c0_2
                        have q7c0_3 := hb.cell (p := ⟨w.heap.size + 1, 3, none⟩) (by first | omega | (simp <;> omega))
                        simp [go_sem, *] at q7c0_3
                        have q7f0 := fun o => hb.frozen (p := ⟨w.heap.size + 1, o, none⟩) (by first | omega | (simp <;> omega))
                        simp [go_sem, *] at q7f0
                        have q7o : ∀ b o, b < w7.heap.size → w8.cell? ⟨b, o, none⟩ = w7.cell? ⟨b, o, none⟩ := fun b o h => q7B.cell (p := ⟨b, o, none⟩) h
                        clear hb q6o q6f0 q6c0_3 q6c0_2 q6c0_1 q6c0_0 q6s0 q6z q6B
                        have B8 := hide (B4.out.trans ((B7.out.trans (q7B.mono (by omega))).mono (by omega)))
                        have z8 := B8.out.size
                        go_wp2_with fail
                        refine (lives_any _ (HT.out.below (B8.out.trans (by (repeat (first | (with_reducible exact Below.refl _ _) | (with_reducible assumption) | ((with_reducible refine Below.alloc ?_ ?_ _); (rotate_left); (first | omega | (simp <;> omega))) | ((with_reducible refine Below.setCell ?_ ?_ _); (rotate_left); (first | omega | (simp <;> omega))) | (with_reducible refine Below.drew ?_) | (with_reducible refine below_drewN ?_ _))))))).mono ?_
                        rintro e w9 ⟨rfl, hb⟩
                        have B9 : Below w8.heap.size w8 w9 := Below.trans (by (repeat (first | (with_reducible exact Below.refl _ _) | (with_reducible assumption) | ((with_reducible refine Below.alloc ?_ ?_ _); (rotate_left); (first | omega | (simp <;> omega))) | ((with_reducible refine Below.setCell ?_ ?_ _); (rotate_left); (first | omega | (simp <;> omega))) | (with_reducible refine Below.drew ?_) | (with_reducible refine below_drewN ?_ _)))) (hb.mono (by simp))
                        go_wp2_with fail
                        go_ret
                        exact ⟨rfl, B8.out.trans (B9.mono z8)⟩
                      · rcases Int.lt_or_le x2 0 with s2 | s2
                        · clear hok
                          obtain ⟨R1, hR1⟩ : ∃ R, R = mkE (hasA a x0 an) x1 x2 m := ⟨_, rfl⟩
                          obtain ⟨R2, hR2⟩ : ∃ R, R = mkE (hasA a x0 an) (x1 + 1) (m + 1) x3 := ⟨_, rfl⟩
                          obtain ⟨R3, hR3⟩ : ∃ R, R = mkE (hasA a x0 an) x1 x2 x3 := ⟨_, rfl⟩
                          have M1 := hide (show ∀ W, RowAcc W aA an a → Jrn W A' jn (numA E) → Calls Tryd.prog 10 #[.agg C', .int .i64 x0, .int .i64 x1, .int .i64 x2, .int .i64 m] W (StE R1 W) from fun W h1 h2 => (by have h := make_any C' aA an ac A' jn c' HC2.out a (numA E) x0 x1 x2 m hn hjn W h1 h2; rw [← hR1] at h; exact h.mono fun _ _ hh => stE_of hh))
                          have M2 := hide (show ∀ W, RowAcc W aA an a → Jrn W A' jn (numA E) → Calls Tryd.prog 10 #[.agg C', .int .i64 x0, .int .i64 (x1+1), .int .i64 (m+1), .int .i64 x3] W (StE R2 W) from fun W h1 h2 => (by have h := make_any C' aA an ac A' jn c' HC2.out a (numA E) x0 (x1 + 1) (m + 1) x3 hn hjn W h1 h2; rw [← hR2] at h; exact h.mono fun _ _ hh => stE_of hh))
                          have M3 := hide (show ∀ W, RowAcc W aA an a → Jrn W A' jn (numA E) → Calls Tryd.prog 10 #[.agg C', .int .i64 x0, .int .i64 x1, .int .i64 x2, .int .i64 x3] W (StE R3 W) from fun W h1 h2 => (by have h := make_any C' aA an ac A' jn c' HC2.out a (numA E) x0 x1 x2 x3 hn hjn W h1 h2; rw [← hR3] at h; exact h.mono fun _ _ hh => stE_of hh))
                          have r1 : (R1 != 0) = true := by rw [hR1]; exact bne_iff_ne.2 hne
                          clear hR1 hR2 hR3 hne
                          have HHAS := hide hhas
                          clear hhas
                          go_wp2_with (with_reducible refine wpList_load_row rfl 33 (.tmp 3) rfl w.heap.size rfl 33 C' (0, 0) _ X4.out Tryd.underlying33 rfl HWB.out ?_)
                          refine (M1.out _ HR4.out HJ4.out).mono ?_
                          rintro e w5 ⟨a0, a1, a2, a3, a4, a5, A1, n1, d1, rfl, hb⟩
                          have X5 := hide (blk_below hb (by omega) X4.out)
                          have q4B : Below w4.heap.size w4 w5 := (by refine Below.trans ?_ (hb.mono (by first | omega | (simp <;> omega))); (repeat (first | (with_reducible exact Below.refl _ _) | (with_reducible assumption) | ((with_reducible refine Below.alloc ?_ ?_ _); (rotate_left); (first | omega | (simp <;> omega))) | ((with_reducible refine Below.setCell ?_ ?_ _); (rotate_left); (first | omega | (simp <;> omega))) | (with_reducible refine Below.drew ?_) | (with_reducible refine below_drewN ?_ _))))
                          have q4z := hb.size
                          try simp at q4z
                          have q4t : w4.heap.size ≤ w5.heap.size := (by omega)
                          have q4s0 : w.heap.size + 1 < w5.heap.size := (by omega)
                          have q4n0_0 : ¬ w5.heap.size = w.heap.size + 1 := (by omega)
                          have q4n0_1 : ¬ w5.heap.size + 1 = w.heap.size + 1 := (by omega)
                          have q4n0_2 : ¬ w5.heap.size + 2 = w.heap.size + 1 := (by omega)
                          have q4c0_0 := hb.cell (p := ⟨w.heap.size + 1, 0, none⟩) (by first | omega | (simp <;> omega))
                          simp [go_sem, *] at q4c0_0
                          have q4c0_1 := hb.cell (p := ⟨w.heap.size + 1, 1, none⟩) (by first | omega | (simp <;> omega))
                          simp [go_sem, *] at q4c0_1
                          have q4c0_2 := hb.cell (p := ⟨w.heap.size + 1, 2, none⟩) (by first | omega | (simp <;> omega))
                          simp [go_sem, *] at q4c0_2
                          have q4c0_3 := hb.cell (p := ⟨w.heap.size + 1, 3, none⟩) (by first | omega | (simp <;> omega))
                          simp [go_sem, *] at q4c0_3
                          have q4f0 := fun o => hb.frozen (p := ⟨w.heap.size + 1, o, none⟩) (by first | omega | (simp <;> omega))
                          simp [go_sem, *] at q4f0
                          have q4o : ∀ b o, b < w4.heap.size → w5.cell? ⟨b, o, none⟩ = w4.cell? ⟨b, o, none⟩ := fun b o h => q4B.cell (p := ⟨b, o, none⟩) h
                          clear hb
                          have B5 := hide q4B
                          go_wp2_with (with_reducible refine wpList_load_row rfl 33 (.tmp 3) rfl w.heap.size rfl 33 C' (0, 0) _ (blk_under X5.out) Tryd.underlying33 rfl HWB.out ?_)
                          refine (M2.out _ (HR4.out.below (B5.out.trans (by (repeat (first | (with_reducible exact Below.refl _ _) | (with_reducible assumption) | ((with_reducible refine Below.alloc ?_ ?_ _); (rotate_left); (first | omega | (simp <;> omega))) | ((with_reducible refine Below.setCell ?_ ?_ _); (rotate_left); (first | omega | (simp <;> omega))) | (with_reducible refine Below.drew ?_) | (with_reducible refine below_drewN ?_ _)))))) (HJ4.out.below (B5.out.trans (by (repeat (first | (with_reducible exact Below.refl _ _) | (with_reducible assumption) | ((with_reducible refine Below.alloc ?_ ?_ _); (rotate_left); (first | omega | (simp <;> omega))) | ((with_reducible refine Below.setCell ?_ ?_ _); (rotate_left); (first | omega | (simp <;> omega))) | (with_reducible refine Below.drew ?_) | (with_reducible refine below_drewN ?_ _))))))).mono ?_
                          rintro e w6 ⟨b0, b1, b2, b3, b4, b5, A2, n2, d2, rfl, hb⟩
                          have X6 := hide (blk_below hb (by simp; omega) (blk_under X5.out))
                          have q5B : Below w5.heap.size w5 w6 := (by refine Below.trans ?_ (hb.mono (by first | omega | (simp <;> omega))); (repeat (first | (with_reducible exact Below.refl _ _) | (with_reducible assumption) | ((with_reducible refine Below.alloc ?_ ?_ _); (rotate_left); (first | omega | (simp <;> omega))) | ((with_reducible refine Below.setCell ?_ ?_ _); (rotate_left); (first | omega | (simp <;> omega))) | (with_reducible refine Below.drew ?_) | (with_reducible refine below_drewN ?_ _))))
                          have q5z := hb.size
                          try simp at q5z
                          have q5t : w5.heap.size ≤ w6.heap.size := (by omega)
                          have q5s0 : w.heap.size + 1 < w6.heap.size := (by omega)
                          have q5n0_0 : ¬ w6.heap.size = w.heap.size + 1 := (by omega)
                          have q5n0_1 : ¬ w6.heap.size + 1 = w.heap.size + 1 := (by omega)
                          have q5n0_2 : ¬ w6.heap.size + 2 = w.heap.size + 1 := (by omega)
                          have q5c0_0 := hb.cell (p := ⟨w.heap.size + 1, 0, none⟩) (by first | omega | (simp <;> omega))
                          simp [go_sem, *] at q5c0_0
                          have q5c0_1 := hb.cell (p := ⟨w.heap.size + 1, 1, none⟩) (by first | omega | (simp <;> omega))
                          simp [go_sem, *] at q5c0_1
                          have q5c0_2 := hb.cell (p := ⟨w.heap.size + 1, 2, none⟩) (by first | omega | (simp <;> omega))
                          simp [go_sem, *] at q5c0_2
                          have q5c0_3 := hb.cell (p := ⟨w.heap.size + 1, 3, none⟩) (by first | omega | (simp <;> omega))
                          simp [go_sem, *] at q5c0_3
                          have q5f0 := fun o => hb.frozen (p := ⟨w.heap.size + 1, o, none⟩) (by first | omega | (simp <;> omega))
                          simp [go_sem, *] at q5f0
                          have q5o : ∀ b o, b < w5.heap.size → w6.cell? ⟨b, o, none⟩ = w5.cell? ⟨b, o, none⟩ := fun b o h => q5B.cell (p := ⟨b, o, none⟩) h
                          clear hb q4o q4f0 q4c0_3 q4c0_2 q4c0_1 q4c0_0 q4s0 q4z q4B
                          have B6 := hide (B5.out.trans (q5B.mono (by omega)))
                          go_wp2_with (with_reducible refine wpList_load_row rfl 33 (.tmp 3) rfl w.heap.size rfl 33 C' (0, 0) _ (blk_under X6.out) Tryd.underlying33 rfl HWB.out ?_)
                          refine (M3.out _ (HR4.out.below (B6.out.trans (by (repeat (first | (with_reducible exact Below.refl _ _) | (with_reducible assumption) | ((with_reducible refine Below.alloc ?_ ?_ _); (rotate_left); (first | omega | (simp <;> omega))) | ((with_reducible refine Below.setCell ?_ ?_ _); (rotate_left); (first | omega | (simp <;> omega))) | (with_reducible refine Below.drew ?_) | (with_reducible refine below_drewN ?_ _)))))) (HJ4.out.below (B6.out.trans (by (repeat (first | (with_reducible exact Below.refl _ _) | (with_reducible assumption) | ((with_reducible refine Below.alloc ?_ ?_ _); (rotate_left); (first | omega | (simp <;> omega))) | ((with_reducible refine Below.setCell ?_ ?_ _); (rotate_left); (first | omega | (simp <;> omega))) | (with_reducible refine Below.drew ?_) | (with_reducible refine below_drewN ?_ _))))))).mono ?_
                          rintro e w7 ⟨c0, c1, c2, c3, c4, c5, A3, n3, d3, rfl, hb⟩
                          have X7 := hide (blk_below hb (by simp; omega) (blk_under X6.out))
                          have q6B : Below w6.heap.size w6 w7 := (by refine Below.trans ?_ (hb.mono (by first | omega | (simp <;> omega))); (repeat (first | (with_reducible exact Below.refl _ _) | (with_reducible assumption) | ((with_reducible refine Below.alloc ?_ ?_ _); (rotate_left); (first | omega | (simp <;> omega))) | ((with_reducible refine Below.setCell ?_ ?_ _); (rotate_left); (first | omega | (simp <;> omega))) | (with_reducible refine Below.drew ?_) | (with_reducible refine below_drewN ?_ _))))
                          have q6z := hb.size
                          try simp at q6z
                          have q6t : w6.heap.size ≤ w7.heap.size := (by omega)
                          have q6s0 : w.heap.size + 1 < w7.heap.size := (by omega)
                          have q6n0_0 : ¬ w7.heap.size = w.heap.size + 1 := (by omega)
                          have q6n0_1 : ¬ w7.heap.size + 1 = w.heap.size + 1 := (by omega)
                          have q6n0_2 : ¬ w7.heap.size + 2 = w.heap.size + 1 := (by omega)
                          have q6c0_0 := hb.cell (p := ⟨w.heap.size + 1, 0, none⟩) (by first | omega | (simp <;> omega))
                          simp [go_sem, *] at q6c0_0
                          have q6c0_1 := hb.cell (p := ⟨w.heap.size + 1, 1, none⟩) (by first | omega | (simp <;> omega))
                          simp [go_sem, *] at q6c0_1
                          have q6c0_2 := hb.cell (p := ⟨w.heap.size + 1, 2, none⟩) (by first | omega | (simp <;> omega))
                          simp [go_sem, *] at q6c0_2
                          have q6c0_3 := hb.cell (p := ⟨w.heap.size + 1, 3, none⟩) (by first | omega | (simp <;> omega))
                          simp [go_sem, *] at q6c0_3
                          have q6f0 := fun o => hb.frozen (p := ⟨w.heap.size + 1, o, none⟩) (by first | omega | (simp <;> omega))
                          simp [go_sem, *] at q6f0
                          have q6o : ∀ b o, b < w6.heap.size → w7.cell? ⟨b, o, none⟩ = w6.cell? ⟨b, o, none⟩ := fun b o h => q6B.cell (p := ⟨b, o, none⟩) h
                          clear hb q5o q5f0 q5c0_3 q5c0_2 q5c0_1 q5c0_0 q5s0 q5z q5B
                          have B7 := hide (B6.out.trans (q6B.mono (by omega)))
                          go_wp2_with (with_reducible refine wpList_load_row rfl 33 (.tmp 3) rfl w.heap.size rfl 33 C' (0, 0) _ (blk_under X7.out) Tryd.underlying33 rfl HWB.out ?_)
                          refine (rfind_any C' aA an ac A' jn c' HC2.out a x0 hn _ (HR4.out.below (B7.out.trans (by (repeat (first | (with_reducible exact Below.refl _ _) | (with_reducible assumption) | ((with_reducible refine Below.alloc ?_ ?_ _); (rotate_left); (first | omega | (simp <;> omega))) | ((with_reducible refine Below.setCell ?_ ?_ _); (rotate_left); (first | omega | (simp <;> omega))) | (with_reducible refine Below.drew ?_) | (with_reducible refine below_drewN ?_ _))))))).mono ?_
                          rintro e w8 ⟨rfl, hb⟩
                          rw [HHAS.out]
                          have q7B : Below w7.heap.size w7 w8 := (by refine Below.trans ?_ (hb.mono (by first | omega | (simp <;> omega))); (repeat (first | (with_reducible exact Below.refl _ _) | (with_reducible assumption) | ((with_reducible refine Below.alloc ?_ ?_ _); (rotate_left); (first | omega | (simp <;> omega))) | ((with_reducible refine Below.setCell ?_ ?_ _); (rotate_left); (first | omega | (simp <;> omega))) | (with_reducible refine Below.drew ?_) | (with_reducible refine below_drewN ?_ _))))
                          have q7z := hb.size
                          try simp at q7z
                          have q7t : w7.heap.size ≤ w8.heap.size := (by omega)
                          have q7s0 : w.heap.size + 1 < w8.heap.size := (by omega)
                          have q7n0_0 : ¬ w8.heap.size = w.heap.size + 1 := (by omega)
                          have q7n0_1 : ¬ w8.heap.size + 1 = w.heap.size + 1 := (by omega)
                          have q7n0_2 : ¬ w8.heap.size + 2 = w.heap.size + 1 := (by omega)
                          have q7c0_0 := hb.cell (p := ⟨w.heap.size + 1, 0, none⟩) (by first | omega | (simp <;> omega))
                          simp [go_sem, *] at q7c0_0
                          have q7c0_1 := hb.cell (p := ⟨w.heap.size + 1, 1, none⟩) (by first | omega | (simp <;> omega))
                          simp [go_sem, *] at q7c0_1
                          have q7c0_2 := hb.cell (p := ⟨w.heap.size + 1, 2, none⟩) (by first | omega | (simp <;> omega))
                          simp [go_sem, *] at q7c0_2
                          have q7c0_3 := hb.cell (p := ⟨w.heap.size + 1, 3, none⟩) (by first | omega | (simp <;> omega))
                          simp [go_sem, *] at q7c0_3
                          have q7f0 := fun o => hb.frozen (p := ⟨w.heap.size + 1, o, none⟩) (by first | omega | (simp <;> omega))
                          simp [go_sem, *] at q7f0
                          have q7o : ∀ b o, b < w7.heap.size → w8.cell? ⟨b, o, none⟩ = w7.cell? ⟨b, o, none⟩ := fun b o h => q7B.cell (p := ⟨b, o, none⟩) h
                          clear hb q6o q6f0 q6c0_3 q6c0_2 q6c0_1 q6c0_0 q6s0 q6z q6B
                          have B8 := hide (B4.out.trans ((B7.out.trans (q7B.mono (by omega))).mono (by omega)))
                          have z8 := B8.out.size
                          go_wp2_with fail
                          refine (lives_any _ (HT.out.below (B8.out.trans (by (repeat (first | (with_reducible exact Below.refl _ _) | (with_reducible assumption) | ((with_reducible refine Below.alloc ?_ ?_ _); (rotate_left); (first | omega | (simp <;> omega))) | ((with_reducible refine Below.setCell ?_ ?_ _); (rotate_left); (first | omega | (simp <;> omega))) | (with_reducible refine Below.drew ?_) | (with_reducible refine below_drewN ?_ _))))))).mono ?_
                          rintro e w9 ⟨rfl, hb⟩
                          have B9 : Below w8.heap.size w8 w9 := Below.trans (by (repeat (first | (with_reducible exact Below.refl _ _) | (with_reducible assumption) | ((with_reducible refine Below.alloc ?_ ?_ _); (rotate_left); (first | omega | (simp <;> omega))) | ((with_reducible refine Below.setCell ?_ ?_ _); (rotate_left); (first | omega | (simp <;> omega))) | (with_reducible refine Below.drew ?_) | (with_reducible refine below_drewN ?_ _)))) (hb.mono (by simp))
                          go_wp2_with fail
                          go_ret
                          exact ⟨rfl, B8.out.trans (B9.mono z8)⟩
                        · have s3 : 73048 < x3 := by
                            rcases mk_err g1 g3 g4 hok with h | h | h
                            · rw [hhas] at h; cases h
                            · omega
                            · exact h
                          clear hok
                          obtain ⟨R1, hR1⟩ : ∃ R, R = mkE (hasA a x0 an) x1 x2 m := ⟨_, rfl⟩
                          obtain ⟨R2, hR2⟩ : ∃ R, R = mkE (hasA a x0 an) (x1 + 1) (m + 1) x3 := ⟨_, rfl⟩
                          obtain ⟨R3, hR3⟩ : ∃ R, R = mkE (hasA a x0 an) x1 x2 x3 := ⟨_, rfl⟩
                          have M1 := hide (show ∀ W, RowAcc W aA an a → Jrn W A' jn (numA E) → Calls Tryd.prog 10 #[.agg C', .int .i64 x0, .int .i64 x1, .int .i64 x2, .int .i64 m] W (StE R1 W) from fun W h1 h2 => (by have h := make_any C' aA an ac A' jn c' HC2.out a (numA E) x0 x1 x2 m hn hjn W h1 h2; rw [← hR1] at h; exact h.mono fun _ _ hh => stE_of hh))
                          have M2 := hide (show ∀ W, RowAcc W aA an a → Jrn W A' jn (numA E) → Calls Tryd.prog 10 #[.agg C', .int .i64 x0, .int .i64 (x1+1), .int .i64 (m+1), .int .i64 x3] W (StE R2 W) from fun W h1 h2 => (by have h := make_any C' aA an ac A' jn c' HC2.out a (numA E) x0 (x1 + 1) (m + 1) x3 hn hjn W h1 h2; rw [← hR2] at h; exact h.mono fun _ _ hh => stE_of hh))
                          have M3 := hide (show ∀ W, RowAcc W aA an a → Jrn W A' jn (numA E) → Calls Tryd.prog 10 #[.agg C', .int .i64 x0, .int .i64 x1, .int .i64 x2, .int .i64 x3] W (StE R3 W) from fun W h1 h2 => (by have h := make_any C' aA an ac A' jn c' HC2.out a (numA E) x0 x1 x2 x3 hn hjn W h1 h2; rw [← hR3] at h; exact h.mono fun _ _ hh => stE_of hh))
                          have r1 : (R1 != 0) = true := by rw [hR1]; exact bne_iff_ne.2 hne
                          clear hR1 hR2 hR3 hne
                          have HHAS := hide hhas
                          clear hhas
                          go_wp2_with (with_reducible refine wpList_load_row rfl 33 (.tmp 3) rfl w.heap.size rfl 33 C' (0, 0) _ X4.out Tryd.underlying33 rfl HWB.out ?_)
                          refine (M1.out _ HR4.out HJ4.out).mono ?_
                          rintro e w5 ⟨a0, a1, a2, a3, a4, a5, A1, n1, d1, rfl, hb⟩
                          have X5 := hide (blk_below hb (by omega) X4.out)
                          have q4B : Below w4.heap.size w4 w5 := (by refine Below.trans ?_ (hb.mono (by first | omega | (simp <;> omega))); (repeat (first | (with_reducible exact Below.refl _ _) | (with_reducible assumption) | ((with_reducible refine Below.alloc ?_ ?_ _); (rotate_left); (first | omega | (simp <;> omega))) | ((with_reducible refine Below.setCell ?_ ?_ _); (rotate_left); (first | omega | (simp <;> omega))) | (with_reducible refine Below.drew ?_) | (with_reducible refine below_drewN ?_ _))))
                          have q4z := hb.size
                          try simp at q4z
                          have q4t : w4.heap.size ≤ w5.heap.size := (by omega)
                          have q4s0 : w.heap.size + 1 < w5.heap.size := (by omega)
                          have q4n0_0 : ¬ w5.heap.size = w.heap.size + 1 := (by omega)
                          have q4n0_1 : ¬ w5.heap.size + 1 = w.heap.size + 1 := (by omega)
                          have q4n0_2 : ¬ w5.heap.size + 2 = w.heap.size + 1 := (by omega)
                          have q4c0_0 := hb.cell (p := ⟨w.heap.size + 1, 0, none⟩) (by first | omega | (simp <;> omega))
                          simp [go_sem, *] at q4c0_0
                          have q4c0_1 := hb.cell (p := ⟨w.heap.size + 1, 1, none⟩) (by first | omega | (simp <;> omega))
                          simp [go_sem, *] at q4c0_1
                          have q4c0_2 := hb.cell (p := ⟨w.heap.size + 1, 2, none⟩) (by first | omega | (simp <;> omega))
                          simp [go_sem, *] at q4c0_2
                          have q4c0_3 := hb.cell (p := ⟨w.heap.size + 1, 3, none⟩) (by first | omega | (simp <;> omega))
                          simp [go_sem, *] at q4c0_3
                          have q4f0 := fun o => hb.frozen (p := ⟨w.heap.size + 1, o, none⟩) (by first | omega | (simp <;> omega))
                          simp [go_sem, *] at q4f0
                          have q4o : ∀ b o, b < w4.heap.size → w5.cell? ⟨b, o, none⟩ = w4.cell? ⟨b, o, none⟩ := fun b o h => q4B.cell (p := ⟨b, o, none⟩) h
                          clear hb
                          have B5 := hide q4B
                          go_wp2_with (with_reducible refine wpList_load_row rfl 33 (.tmp 3) rfl w.heap.size rfl 33 C' (0, 0) _ (blk_under X5.out) Tryd.underlying33 rfl HWB.out ?_)
                          refine (M2.out _ (HR4.out.below (B5.out.trans (by (repeat (first | (with_reducible exact Below.refl _ _) | (with_reducible assumption) | ((with_reducible refine Below.alloc ?_ ?_ _); (rotate_left); (first | omega | (simp <;> omega))) | ((with_reducible refine Below.setCell ?_ ?_ _); (rotate_left); (first | omega | (simp <;> omega))) | (with_reducible refine Below.drew ?_) | (with_reducible refine below_drewN ?_ _)))))) (HJ4.out.below (B5.out.trans (by (repeat (first | (with_reducible exact Below.refl _ _) | (with_reducible assumption) | ((with_reducible refine Below.alloc ?_ ?_ _); (rotate_left); (first | omega | (simp <;> omega))) | ((with_reducible refine Below.setCell ?_ ?_ _); (rotate_left); (first | omega | (simp <;> omega))) | (with_reducible refine Below.drew ?_) | (with_reducible refine below_drewN ?_ _))))))).mono ?_
                          rintro e w6 ⟨b0, b1, b2, b3, b4, b5, A2, n2, d2, rfl, hb⟩
                          have X6 := hide (blk_below hb (by simp; omega) (blk_under X5.out))
                          have q5B : Below w5.heap.size w5 w6 := (by refine Below.trans ?_ (hb.mono (by first | omega | (simp <;> omega))); (repeat (first | (with_reducible exact Below.refl _ _) | (with_reducible assumption) | ((with_reducible refine Below.alloc ?_ ?_ _); (rotate_left); (first | omega | (simp <;> omega))) | ((with_reducible refine Below.setCell ?_ ?_ _); (rotate_left); (first | omega | (simp <;> omega))) | (with_reducible refine Below.drew ?_) | (with_reducible refine below_drewN ?_ _))))
                          have q5z := hb.size
                          try simp at q5z
                          have q5t : w5.heap.size ≤ w6.heap.size := (by omega)
                          have q5s0 : w.heap.size + 1 < w6.heap.size := (by omega)
                          have q5n0_0 : ¬ w6.heap.size = w.heap.size + 1 := (by omega)
                          have q5n0_1 : ¬ w6.heap.size + 1 = w.heap.size + 1 := (by omega)
                          have q5n0_2 : ¬ w6.heap.size + 2 = w.heap.size + 1 := (by omega)
                          have q5c0_0 := hb.cell (p := ⟨w.heap.size + 1, 0, none⟩) (by first | omega | (simp <;> omega))
                          simp [go_sem, *] at q5c0_0
                          have q5c0_1 := hb.cell (p := ⟨w.heap.size + 1, 1, none⟩) (by first | omega | (simp <;> omega))
                          simp [go_sem, *] at q5c0_1
                          have q5c0_2 := hb.cell (p := ⟨w.heap.size + 1, 2, none⟩) (by first | omega | (simp <;> omega))
                          simp [go_sem, *] at q5c0_2
                          have q5c0_3 := hb.cell (p := ⟨w.heap.size + 1, 3, none⟩) (by first | omega | (simp <;> omega))
                          simp [go_sem, *] at q5c0_3
                          have q5f0 := fun o => hb.frozen (p := ⟨w.heap.size + 1, o, none⟩) (by first | omega | (simp <;> omega))
                          simp [go_sem, *] at q5f0
                          have q5o : ∀ b o, b < w5.heap.size → w6.cell? ⟨b, o, none⟩ = w5.cell? ⟨b, o, none⟩ := fun b o h => q5B.cell (p := ⟨b, o, none⟩) h
                          clear hb q4o q4f0 q4c0_3 q4c0_2 q4c0_1 q4c0_0 q4s0 q4z q4B
                          have B6 := hide (B5.out.trans (q5B.mono (by omega)))
                          go_wp2_with (with_reducible refine wpList_load_row rfl 33 (.tmp 3) rfl w.heap.size rfl 33 C' (0, 0) _ (blk_under X6.out) Tryd.underlying33 rfl HWB.out ?_)
                          refine (M3.out _ (HR4.out.below (B6.out.trans (by (repeat (first | (with_reducible exact Below.refl _ _) | (with_reducible assumption) | ((with_reducible refine Below.alloc ?_ ?_ _); (rotate_left); (first | omega | (simp <;> omega))) | ((with_reducible refine Below.setCell ?_ ?_ _); (rotate_left); (first | omega | (simp <;> omega))) | (with_reducible refine Below.drew ?_) | (with_reducible refine below_drewN ?_ _)))))) (HJ4.out.below (B6.out.trans (by (repeat (first | (with_reducible exact Below.refl _ _) | (with_reducible assumption) | ((with_reducible refine Below.alloc ?_ ?_ _); (rotate_left); (first | omega | (simp <;> omega))) | ((with_reducible refine Below.setCell ?_ ?_ _); (rotate_left); (first | omega | (simp <;> omega))) | (with_reducible refine Below.drew ?_) | (with_reducible refine below_drewN ?_ _))))))).mono ?_
                          rintro e w7 ⟨c0, c1, c2, c3, c4, c5, A3, n3, d3, rfl, hb⟩
                          have X7 := hide (blk_below hb (by simp; omega) (blk_under X6.out))
                          have q6B : Below w6.heap.size w6 w7 := (by refine Below.trans ?_ (hb.mono (by first | omega | (simp <;> omega))); (repeat (first | (with_reducible exact Below.refl _ _) | (with_reducible assumption) | ((with_reducible refine Below.alloc ?_ ?_ _); (rotate_left); (first | omega | (simp <;> omega))) | ((with_reducible refine Below.setCell ?_ ?_ _); (rotate_left); (first | omega | (simp <;> omega))) | (with_reducible refine Below.drew ?_) | (with_reducible refine below_drewN ?_ _))))
                          have q6z := hb.size
                          try simp at q6z
                          have q6t : w6.heap.size ≤ w7.heap.size := (by omega)
                          have q6s0 : w.heap.size + 1 < w7.heap.size := (by omega)
                          have q6n0_0 : ¬ w7.heap.size = w.heap.size + 1 := (by omega)
                          have q6n0_1 : ¬ w7.heap.size + 1 = w.heap.size + 1 := (by omega)
                          have q6n0_2 : ¬ w7.heap.size + 2 = w.heap.size + 1 := (by omega)
                          have q6c0_0 := hb.cell (p := ⟨w.heap.size + 1, 0, none⟩) (by first | omega | (simp <;> omega))
                          simp [go_sem, *] at q6c0_0
                          have q6c0_1 := hb.cell (p := ⟨w.heap.size + 1, 1, none⟩) (by first | omega | (simp <;> omega))
                          simp [go_sem, *] at q6c0_1
                          have q6c0_2 := hb.cell (p := ⟨w.heap.size + 1, 2, none⟩) (by first | omega | (simp <;> omega))
                          simp [go_sem, *] at q6c0_2
                          have q6c0_3 := hb.cell (p := ⟨w.heap.size + 1, 3, none⟩) (by first | omega | (simp <;> omega))
                          simp [go_sem, *] at q6c0_3
                          have q6f0 := fun o => hb.frozen (p := ⟨w.heap.size + 1, o, none⟩) (by first | omega | (simp <;> omega))
                          simp [go_sem, *] at q6f0
                          have q6o : ∀ b o, b < w6.heap.size → w7.cell? ⟨b, o, none⟩ = w6.cell? ⟨b, o, none⟩ := fun b o h => q6B.cell (p := ⟨b, o, none⟩) h
                          clear hb q5o q5f0 q5c0_3 q5c0_2 q5c0_1 q5c0_0 q5s0 q5z q5B
                          have B7 := hide (B6.out.trans (q6B.mono (by omega)))
                          go_wp2_with (with_reducible refine wpList_load_row rfl 33 (.tmp 3) rfl w.heap.size rfl 33 C' (0, 0) _ (blk_under X7.out) Tryd.underlying33 rfl HWB.out ?_)
                          refine (rfind_any C' aA an ac A' jn c' HC2.out a x0 hn _ (HR4.out.below (B7.out.trans (by (repeat (first | (with_reducible exact Below.refl _ _) | (with_reducible assumption) | ((with_reducible refine Below.alloc ?_ ?_ _); (rotate_left); (first | omega | (simp <;> omega))) | ((with_reducible refine Below.setCell ?_ ?_ _); (rotate_left); (first | omega | (simp <;> omega))) | (with_reducible refine Below.drew ?_) | (with_reducible refine below_drewN ?_ _))))))).mono ?_
                          rintro e w8 ⟨rfl, hb⟩
                          rw [HHAS.out]
                          have q7B : Below w7.heap.size w7 w8 := (by refine Below.trans ?_ (hb.mono (by first | omega | (simp <;> omega))); (repeat (first | (with_reducible exact Below.refl _ _) | (with_reducible assumption) | ((with_reducible refine Below.alloc ?_ ?_ _); (rotate_left); (first | omega | (simp <;> omega))) | ((with_reducible refine Below.setCell ?_ ?_ _); (rotate_left); (first | omega | (simp <;> omega))) | (with_reducible refine Below.drew ?_) | (with_reducible refine below_drewN ?_ _))))
                          have q7z := hb.size
                          try simp at q7z
                          have q7t : w7.heap.size ≤ w8.heap.size := (by omega)
                          have q7s0 : w.heap.size + 1 < w8.heap.size := (by omega)
                          have q7n0_0 : ¬ w8.heap.size = w.heap.size + 1 := (by omega)
                          have q7n0_1 : ¬ w8.heap.size + 1 = w.heap.size + 1 := (by omega)
                          have q7n0_2 : ¬ w8.heap.size + 2 = w.heap.size + 1 := (by omega)
                          have q7c0_0 := hb.cell (p := ⟨w.heap.size + 1, 0, none⟩) (by first | omega | (simp <;> omega))
                          simp [go_sem, *] at q7c0_0
                          have q7c0_1 := hb.cell (p := ⟨w.heap.size + 1, 1, none⟩) (by first | omega | (simp <;> omega))
                          simp [go_sem, *] at q7c0_1
                          have q7c0_2 := hb.cell (p := ⟨w.heap.size + 1, 2, none⟩) (by first | omega | (simp <;> omega))
                          simp [go_sem, *] at q7c0_2
                          have q7c0_3 := hb.cell (p := ⟨w.heap.size + 1, 3, none⟩) (by first | omega | (simp <;> omega))
                          simp [go_sem, *] at q7c0_3
                          have q7f0 := fun o => hb.frozen (p := ⟨w.heap.size + 1, o, none⟩) (by first | omega | (simp <;> omega))
                          simp [go_sem, *] at q7f0
                          have q7o : ∀ b o, b < w7.heap.size → w8.cell? ⟨b, o, none⟩ = w7.cell? ⟨b, o, none⟩ := fun b o h => q7B.cell (p := ⟨b, o, none⟩) h
                          clear hb q6o q6f0 q6c0_3 q6c0_2 q6c0_1 q6c0_0 q6s0 q6z q6B
                          have B8 := hide (B4.out.trans ((B7.out.trans (q7B.mono (by omega))).mono (by omega)))
                          have z8 := B8.out.size
                          go_wp2_with fail
                          refine (lives_any _ (HT.out.below (B8.out.trans (by (repeat (first | (with_reducible exact Below.refl _ _) | (with_reducible assumption) | ((with_reducible refine Below.alloc ?_ ?_ _); (rotate_left); (first | omega | (simp <;> omega))) | ((with_reducible refine Below.setCell ?_ ?_ _); (rotate_left); (first | omega | (simp <;> omega))) | (with_reducible refine Below.drew ?_) | (with_reducible refine below_drewN ?_ _))))))).mono ?_
                          rintro e w9 ⟨rfl, hb⟩
                          have B9 : Below w8.heap.size w8 w9 := Below.trans (by (repeat (first | (with_reducible exact Below.refl _ _) | (with_reducible assumption) | ((with_reducible refine Below.alloc ?_ ?_ _); (rotate_left); (first | omega | (simp <;> omega))) | ((with_reducible refine Below.setCell ?_ ?_ _); (rotate_left); (first | omega | (simp <;> omega))) | (with_reducible refine Below.drew ?_) | (with_reducible refine below_drewN ?_ _)))) (hb.mono (by simp))
                          go_wp2_with fail
                          go_ret
                          exact ⟨rfl, B8.out.trans (B9.mono z8)⟩
                    · clear hok
                      obtain ⟨R1, hR1⟩ : ∃ R, R = mkE (hasA a x0 an) x1 x2 m := ⟨_, rfl⟩
                      obtain ⟨R2, hR2⟩ : ∃ R, R = mkE (hasA a x0 an) (x1 + 1) (m + 1) x3 := ⟨_, rfl⟩
                      obtain ⟨R3, hR3⟩ : ∃ R, R = mkE (hasA a x0 an) x1 x2 x3 := ⟨_, rfl⟩
                      have M1 := hide (show ∀ W, RowAcc W aA an a → Jrn W A' jn (numA E) → Calls Tryd.prog 10 #[.agg C', .int .i64 x0, .int .i64 x1, .int .i64 x2, .int .i64 m] W (StE R1 W) from fun W h1 h2 => (by have h := make_any C' aA an ac A' jn c' HC2.out a (numA E) x0 x1 x2 m hn hjn W h1 h2; rw [← hR1] at h; exact h.mono fun _ _ hh => stE_of hh))
                      have M2 := hide (show ∀ W, RowAcc W aA an a → Jrn W A' jn (numA E) → Calls Tryd.prog 10 #[.agg C', .int .i64 x0, .int .i64 (x1+1), .int .i64 (m+1), .int .i64 x3] W (StE R2 W) from fun W h1 h2 => (by have h := make_any C' aA an ac A' jn c' HC2.out a (numA E) x0 (x1 + 1) (m + 1) x3 hn hjn W h1 h2; rw [← hR2] at h; exact h.mono fun _ _ hh => stE_of hh))
                      have M3 := hide (show ∀ W, RowAcc W aA an a → Jrn W A' jn (numA E) → Calls Tryd.prog 10 #[.agg C', .int .i64 x0, .int .i64 x1, .int .i64 x2, .int .i64 x3] W (StE R3 W) from fun W h1 h2 => (by have h := make_any C' aA an ac A' jn c' HC2.out a (numA E) x0 x1 x2 x3 hn hjn W h1 h2; rw [← hR3] at h; exact h.mono fun _ _ hh => stE_of hh))
                      have r1 : (R1 != 0) = true := by rw [hR1]; exact bne_iff_ne.2 (by rw [hhas]; exact (by decide : (11 : Int) ≠ 0))
                      clear hR1 hR2 hR3
                      have HHAS := hide hhas
                      clear hhas
                      go_wp2_with (with_reducible refine wpList_load_row rfl 33 (.tmp 3) rfl w.heap.size rfl 33 C' (0, 0) _ X4.out Tryd.underlying33 rfl HWB.out ?_)
                      refine (M1.out _ HR4.out HJ4.out).mono ?_
                      rintro e w5 ⟨a0, a1, a2, a3, a4, a5, A1, n1, d1, rfl, hb⟩
                      have X5 := hide (blk_below hb (by omega) X4.out)
                      have q4B : Below w4.heap.size w4 w5 := (by refine Below.trans ?_ (hb.mono (by first | omega | (simp <;> omega))); (repeat (first | (with_reducible exact Below.refl _ _) | (with_reducible assumption) | ((with_reducible refine Below.alloc ?_ ?_ _); (rotate_left); (first | omega | (simp <;> omega))) | ((with_reducible refine Below.setCell ?_ ?_ _); (rotate_left); (first | omega | (simp <;> omega))) | (with_reducible refine Below.drew ?_) | (with_reducible refine below_drewN ?_ _))))
                      have q4z := hb.size
                      try simp at q4z
                      have q4t : w4.heap.size ≤ w5.heap.size := (by omega)
                      have q4s0 : w.heap.size + 1 < w5.heap.size := (by omega)
                      have q4n0_0 : ¬ w5.heap.size = w.heap.size + 1 := (by omega)
                      have q4n0_1 : ¬ w5.heap.size + 1 = w.heap.size + 1 := (by omega)
                      have q4n0_2 : ¬ w5.heap.size + 2 = w.heap.size + 1 := (by omega)
                      have q4c0_0 := hb.cell (p := ⟨w.heap.size + 1, 0, none⟩) (by first | omega | (simp <;> omega))
                      simp [go_sem, *] at q4c0_0
                      have q4c0_1 := hb.cell (p := ⟨w.heap.size + 1, 1, none⟩) (by first | omega | (simp <;> omega))
                      simp [go_sem, *] at q4c0_1
                      have q4c0_2 := hb.cell (p := ⟨w.heap.size + 1, 2, none⟩) (by first | omega | (simp <;> omega))
                      simp [go_sem, *] at q4c0_2
                      have q4c0_3 := hb.cell (p := ⟨w.heap.size + 1, 3, none⟩) (by first | omega | (simp <;> omega))
                      simp [go_sem, *] at q4c0_3
                      have q4f0 := fun o => hb.frozen (p := ⟨w.heap.size + 1, o, none⟩) (by first | omega | (simp <;> omega))
                      simp [go_sem, *] at q4f0
                      have q4o : ∀ b o, b < w4.heap.size → w5.cell? ⟨b, o, none⟩ = w4.cell? ⟨b, o, none⟩ := fun b o h => q4B.cell (p := ⟨b, o, none⟩) h
                      clear hb
                      have B5 := hide q4B
                      go_wp2_with (with_reducible refine wpList_load_row rfl 33 (.tmp 3) rfl w.heap.size rfl 33 C' (0, 0) _ (blk_under X5.out) Tryd.underlying33 rfl HWB.out ?_)
                      refine (M2.out _ (HR4.out.below (B5.out.trans (by (repeat (first | (with_reducible exact Below.refl _ _) | (with_reducible assumption) | ((with_reducible refine Below.alloc ?_ ?_ _); (rotate_left); (first | omega | (simp <;> omega))) | ((with_reducible refine Below.setCell ?_ ?_ _); (rotate_left); (first | omega | (simp <;> omega))) | (with_reducible refine Below.drew ?_) | (with_reducible refine below_drewN ?_ _)))))) (HJ4.out.below (B5.out.trans (by (repeat (first | (with_reducible exact Below.refl _ _) | (with_reducible assumption) | ((with_reducible refine Below.alloc ?_ ?_ _); (rotate_left); (first | omega | (simp <;> omega))) | ((with_reducible refine Below.setCell ?_ ?_ _); (rotate_left); (first | omega | (simp <;> omega))) | (with_reducible refine Below.drew ?_) | (with_reducible refine below_drewN ?_ _))))))).mono ?_
                      rintro e w6 ⟨b0, b1, b2, b3, b4, b5, A2, n2, d2, rfl, hb⟩
                      have X6 := hide (blk_below hb (by simp; omega) (blk_under X5.out))
                      have q5B : Below w5.heap.size w5 w6 := (by refine Below.trans ?_ (hb.mono (by first | omega | (simp <;> omega))); (repeat (first | (with_reducible exact Below.refl _ _) | (with_reducible assumption) | ((with_reducible refine Below.alloc ?_ ?_ _); (rotate_left); (first | omega | (simp <;> omega))) | ((with_reducible refine Below.setCell ?_ ?_ _); (rotate_left); (first | omega | (simp <;> omega))) | (with_reducible refine Below.drew ?_) | (with_reducible refine below_drewN ?_ _))))
                      have q5z := hb.size
                      try simp at q5z
                      have q5t : w5.heap.size ≤ w6.heap.size := (by omega)
                      have q5s0 : w.heap.size + 1 < w6.heap.size := (by omega)
                      have q5n0_0 : ¬ w6.heap.size = w.heap.size + 1 := (by omega)
                      have q5n0_1 : ¬ w6.heap.size + 1 = w.heap.size + 1 := (by omega)
                      have q5n0_2 : ¬ w6.heap.size + 2 = w.heap.size + 1 := (by omega)
                      have q5c0_0 := hb.cell (p := ⟨w.heap.size + 1, 0, none⟩) (by first | omega | (simp <;> omega))
                      simp [go_sem, *] at q5c0_0
                      have q5c0_1 := hb.cell (p := ⟨w.heap.size + 1, 1, none⟩) (by first | omega | (simp <;> omega))
                      simp [go_sem, *] at q5c0_1
                      have q5c0_2 := hb.cell (p := ⟨w.heap.size + 1, 2, none⟩) (by first | omega | (simp <;> omega))
                      simp [go_sem, *] at q5c0_2
                      have q5c0_3 := hb.cell (p := ⟨w.heap.size + 1, 3, none⟩) (by first | omega | (simp <;> omega))
                      simp [go_sem, *] at q5c0_3
                      have q5f0 := fun o => hb.frozen (p := ⟨w.heap.size + 1, o, none⟩) (by first | omega | (simp <;> omega))
                      simp [go_sem, *] at q5f0
                      have q5o : ∀ b o, b < w5.heap.size → w6.cell? ⟨b, o, none⟩ = w5.cell? ⟨b, o, none⟩ := fun b o h => q5B.cell (p := ⟨b, o, none⟩) h
                      clear hb q4o q4f0 q4c0_3 q4c0_2 q4c0_1 q4c0_0 q4s0 q4z q4B
                      have B6 := hide (B5.out.trans (q5B.mono (by omega)))
                      go_wp2_with (with_reducible refine wpList_load_row rfl 33 (.tmp 3) rfl w.heap.size rfl 33 C' (0, 0) _ (blk_under X6.out) Tryd.underlying33 rfl HWB.out ?_)
                      refine (M3.out _ (HR4.out.below (B6.out.trans (by (repeat (first | (with_reducible exact Below.refl _ _) | (with_reducible assumption) | ((with_reducible refine Below.alloc ?_ ?_ _); (rotate_left); (first | omega | (simp <;> omega))) | ((with_reducible refine Below.setCell ?_ ?_ _); (rotate_left); (first | omega | (simp <;> omega))) | (with_reducible refine Below.drew ?_) | (with_reducible refine below_drewN ?_ _)))))) (HJ4.out.below (B6.out.trans (by (repeat (first | (with_reducible exact Below.refl _ _) | (with_reducible assumption) | ((with_reducible refine Below.alloc ?_ ?_ _); (rotate_left); (first | omega | (simp <;> omega))) | ((with_reducible refine Below.setCell ?_ ?_ _); (rotate_left); (first | omega | (simp <;> omega))) | (with_reducible refine Below.drew ?_) | (with_reducible refine below_drewN ?_ _))))))).mono ?_
                      rintro e w7 ⟨c0, c1, c2, c3, c4, c5, A3, n3, d3, rfl, hb⟩
                      have X7 := hide (blk_below hb (by simp; omega) (blk_under X6.out))
                      have q6B : Below w6.heap.size w6 w7 := (by refine Below.trans ?_ (hb.mono (by first | omega | (simp <;> omega))); (repeat (first | (with_reducible exact Below.refl _ _) | (with_reducible assumption) | ((with_reducible refine Below.alloc ?_ ?_ _); (rotate_left); (first | omega | (simp <;> omega))) | ((with_reducible refine Below.setCell ?_ ?_ _); (rotate_left); (first | omega | (simp <;> omega))) | (with_reducible refine Below.drew ?_) | (with_reducible refine below_drewN ?_ _))))
                      have q6z := hb.size
                      try simp at q6z
                      have q6t : w6.heap.size ≤ w7.heap.size := (by omega)
                      have q6s0 : w.heap.size + 1 < w7.heap.size := (by omega)
                      have q6n0_0 : ¬ w7.heap.size = w.heap.size + 1 := (by omega)
                      have q6n0_1 : ¬ w7.heap.size + 1 = w.heap.size + 1 := (by omega)
                      have q6n0_2 : ¬ w7.heap.size + 2 = w.heap.size + 1 := (by omega)
                      have q6c0_0 := hb.cell (p := ⟨w.heap.size + 1, 0, none⟩) (by first | omega | (simp <;> omega))
                      simp [go_sem, *] at q6c0_0
                      have q6c0_1 := hb.cell (p := ⟨w.heap.size + 1, 1, none⟩) (by first | omega | (simp <;> omega))
                      simp [go_sem, *] at q6c0_1
                      have q6c0_2 := hb.cell (p := ⟨w.heap.size + 1, 2, none⟩) (by first | omega | (simp <;> omega))
                      simp [go_sem, *] at q6c0_2
                      have q6c0_3 := hb.cell (p := ⟨w.heap.size + 1, 3, none⟩) (by first | omega | (simp <;> omega))
                      simp [go_sem, *] at q6c0_3
                      have q6f0 := fun o => hb.frozen (p := ⟨w.heap.size + 1, o, none⟩) (by first | omega | (simp <;> omega))
                      simp [go_sem, *] at q6f0
                      have q6o : ∀ b o, b < w6.heap.size → w7.cell? ⟨b, o, none⟩ = w6.cell? ⟨b, o, none⟩ := fun b o h => q6B.cell (p := ⟨b, o, none⟩) h
                      clear hb q5o q5f0 q5c0_3 q5c0_2 q5c0_1 q5c0_0 q5s0 q5z q5B
                      have B7 := hide (B6.out.trans (q6B.mono (by omega)))
                      go_wp2_with (with_reducible refine wpList_load_row rfl 33 (.tmp 3) rfl w.heap.size rfl 33 C' (0, 0) _ (blk_under X7.out) Tryd.underlying33 rfl HWB.out ?_)
                      refine (rfind_any C' aA an ac A' jn c' HC2.out a x0 hn _ (HR4.out.below (B7.out.trans (by (repeat (first | (with_reducible exact Below.refl _ _) | (with_reducible assumption) | ((with_reducible refine Below.alloc ?_ ?_ _); (rotate_left); (first | omega | (simp <;> omega))) | ((with_reducible refine Below.setCell ?_ ?_ _); (rotate_left); (first | omega | (simp <;> omega))) | (with_reducible refine Below.drew ?_) | (with_reducible refine below_drewN ?_ _))))))).mono ?_
                      rintro e w8 ⟨rfl, hb⟩
                      rw [HHAS.out]
                      have q7B : Below w7.heap.size w7 w8 := (by refine Below.trans ?_ (hb.mono (by first | omega | (simp <;> omega))); (repeat (first | (with_reducible exact Below.refl _ _) | (with_reducible assumption) | ((with_reducible refine Below.alloc ?_ ?_ _); (rotate_left); (first | omega | (simp <;> omega))) | ((with_reducible refine Below.setCell ?_ ?_ _); (rotate_left); (first | omega | (simp <;> omega))) | (with_reducible refine Below.drew ?_) | (with_reducible refine below_drewN ?_ _))))
                      have q7z := hb.size
                      try simp at q7z
                      have q7t : w7.heap.size ≤ w8.heap.size := (by omega)
                      have q7s0 : w.heap.size + 1 < w8.heap.size := (by omega)
                      have q7n0_0 : ¬ w8.heap.size = w.heap.size + 1 := (by omega)
                      have q7n0_1 : ¬ w8.heap.size + 1 = w.heap.size + 1 := (by omega)
                      have q7n0_2 : ¬ w8.heap.size + 2 = w.heap.size + 1 := (by omega)
                      have q7c0_0 := hb.cell (p := ⟨w.heap.size + 1, 0, none⟩) (by first | omega | (simp <;> omega))
                      simp [go_sem, *] at q7c0_0
                      have q7c0_1 := hb.cell (p := ⟨w.heap.size + 1, 1, none⟩) (by first | omega | (simp <;> omega))
                      simp [go_sem, *] at q7c0_1
                      have q7c0_2 := hb.cell (p := ⟨w.heap.size + 1, 2, none⟩) (by first | omega | (simp <;> omega))
                      simp [go_sem, *] at q7c0_2
                      have q7c0_3 := hb.cell (p := ⟨w.heap.size + 1, 3, none⟩) (by first | omega | (simp <;> omega))
                      simp [go_sem, *] at q7c0_3
                      have q7f0 := fun o => hb.frozen (p := ⟨w.heap.size + 1, o, none⟩) (by first | omega | (simp <;> omega))
                      simp [go_sem, *] at q7f0
                      have q7o : ∀ b o, b < w7.heap.size → w8.cell? ⟨b, o, none⟩ = w7.cell? ⟨b, o, none⟩ := fun b o h => q7B.cell (p := ⟨b, o, none⟩) h
                      clear hb q6o q6f0 q6c0_3 q6c0_2 q6c0_1 q6c0_0 q6s0 q6z q6B
                      have B8 := hide (B4.out.trans ((B7.out.trans (q7B.mono (by omega))).mono (by omega)))
                      have z8 := B8.out.size
                      go_wp2_with fail
                      refine (lives_any _ (HT.out.below (B8.out.trans (by (repeat (first | (with_reducible exact Below.refl _ _) | (with_reducible assumption) | ((with_reducible refine Below.alloc ?_ ?_ _); (rotate_left); (first | omega | (simp <;> omega))) | ((with_reducible refine Below.setCell ?_ ?_ _); (rotate_left); (first | omega | (simp <;> omega))) | (with_reducible refine Below.drew ?_) | (with_reducible refine below_drewN ?_ _))))))).mono ?_
                      rintro e w9 ⟨rfl, hb⟩
                      have B9 : Below w8.heap.size w8 w9 := Below.trans (by (repeat (first | (with_reducible exact Below.refl _ _) | (with_reducible assumption) | ((with_reducible refine Below.alloc ?_ ?_ _); (rotate_left); (first | omega | (simp <;> omega))) | ((with_reducible refine Below.setCell ?_ ?_ _); (rotate_left); (first | omega | (simp <;> omega))) | (with_reducible refine Below.drew ?_) | (with_reducible refine below_drewN ?_ _)))) (hb.mono (by simp))
                      go_wp2_with fail
                      go_ret
                      exact ⟨rfl, B8.out.trans (B9.mono z8)⟩
end Go.Proofs.YtodfpfbcjiganaaDoor
