/- The walks of the laws StatementChecks, StatementTexts. -/
import Derived.Test.YtodfpfbcjiganaaDoorSwA
namespace Go.Proofs.YtodfpfbcjiganaaDoor
set_option linter.unusedSimpArgs false
set_option linter.unusedVariables false
open Go.RowKit

set_option maxRecDepth 4000 in
set_option maxHeartbeats 4000000 in
theorem walk_checks (ac no f t op cl bac bno bf bt bop bcl : Int) (lA mA : Option Addr) (ln lc mn mc : Nat) (P Q : Nat → LPos) (i1 : IIn no) (i2 : IIn t) (i3 : IIn bno) (i4 : IIn bf) (w : World) (hr : RowPos w lA ln P) (hq : RowPos w mA mn Q) (ht : Tab w) :
    Calls Tryd.prog 4 #[.agg #[.int .i64 ac, .int .i64 no, .int .i64 f, .int .i64 t, .int .i64 op, .int .i64 cl, .slice lA ln lc], .agg #[.int .i64 bac, .int .i64 bno, .int .i64 bf, .int .i64 bt, .int .i64 bop, .int .i64 bcl, .slice mA mn mc]] w fun e w' => e = .returned (.bool true) ∧ Below w.heap.size w w' := by
  have HR := hide hr
  have HQ := hide hq
  have HT := hide ht
  have HI := hide (And.intro i1 (And.intro i2 (And.intro i3 i4)))
  clear hr hq ht i1 i2 i3 i4
  cases hf : shB ln P with
  | false =>
    have HF := hide hf
    clear hf
    go_enter Tryd.func4, Tryd.ntmps4
    go_wp2_with fail
    refine (short_any ac no f t op cl lA ln lc P _ (HR.out.below (by (repeat (first | (with_reducible exact Below.refl _ _) | (with_reducible assumption) | ((with_reducible refine Below.alloc ?_ ?_ _); (rotate_left); (first | omega | (simp <;> omega))) | ((with_reducible refine Below.setCell ?_ ?_ _); (rotate_left); (first | omega | (simp <;> omega))) | (with_reducible refine Below.drew ?_) | (with_reducible refine below_drewN ?_ _)))))).mono ?_
    rintro e w1 ⟨rfl, hb⟩
    rw [HF.out]
    have q1B : Below w.heap.size w w1 := (by refine Below.trans ?_ (hb.mono (by first | omega | (simp <;> omega))); (repeat (first | (with_reducible exact Below.refl _ _) | (with_reducible assumption) | ((with_reducible refine Below.alloc ?_ ?_ _); (rotate_left); (first | omega | (simp <;> omega))) | ((with_reducible refine Below.setCell ?_ ?_ _); (rotate_left); (first | omega | (simp <;> omega))) | (with_reducible refine Below.drew ?_) | (with_reducible refine below_drewN ?_ _))))
    have q1z := hb.size
    try simp at q1z
    have q1t : w.heap.size ≤ w1.heap.size := (by omega)
    have q1o : ∀ b o, b < w.heap.size → w1.cell? ⟨b, o, none⟩ = w.cell? ⟨b, o, none⟩ := fun b o h => q1B.cell (p := ⟨b, o, none⟩) h
    clear hb
    go_wp2_with fail
    refine (lives_any _ (HT.out.below q1B)).mono ?_
    rintro e w2 ⟨rfl, hb⟩
    go_wp2_with fail
    go_ret
    exact ⟨rfl, q1B.trans (hb.mono q1t)⟩
  | true =>
    have HL := hide (show ln ≤ 1000000 by have := (shB_iff.1 hf).1; omega)
    have HF := hide hf
    clear hf
    cases hg : shB mn Q with
    | false =>
      have HG := hide hg
      clear hg
      go_enter Tryd.func4, Tryd.ntmps4
      go_wp2_with fail
      refine (short_any ac no f t op cl lA ln lc P _ (HR.out.below (by (repeat (first | (with_reducible exact Below.refl _ _) | (with_reducible assumption) | ((with_reducible refine Below.alloc ?_ ?_ _); (rotate_left); (first | omega | (simp <;> omega))) | ((with_reducible refine Below.setCell ?_ ?_ _); (rotate_left); (first | omega | (simp <;> omega))) | (with_reducible refine Below.drew ?_) | (with_reducible refine below_drewN ?_ _)))))).mono ?_
      rintro e w1 ⟨rfl, hb⟩
      rw [HF.out]
      have q1B : Below w.heap.size w w1 := (by refine Below.trans ?_ (hb.mono (by first | omega | (simp <;> omega))); (repeat (first | (with_reducible exact Below.refl _ _) | (with_reducible assumption) | ((with_reducible refine Below.alloc ?_ ?_ _); (rotate_left); (first | omega | (simp <;> omega))) | ((with_reducible refine Below.setCell ?_ ?_ _); (rotate_left); (first | omega | (simp <;> omega))) | (with_reducible refine Below.drew ?_) | (with_reducible refine below_drewN ?_ _))))
      have q1z := hb.size
      try simp at q1z
      have q1t : w.heap.size ≤ w1.heap.size := (by omega)
      have q1s0 : w.heap.size + 1 < w1.heap.size := (by omega)
      have q1n0_0 : ¬ w1.heap.size = w.heap.size + 1 := (by omega)
      have q1n0_1 : ¬ w1.heap.size + 1 = w.heap.size + 1 := (by omega)
      have q1n0_2 : ¬ w1.heap.size + 2 = w.heap.size + 1 := (by omega)
      have q1c0_0 := hb.cell (p := ⟨w.heap.size + 1, 0, none⟩) (by first | omega | (simp <;> omega))
      simp [go_sem, *] at q1c0_0
      have q1c0_1 := hb.cell (p := ⟨w.heap.size + 1, 1, none⟩) (by first | omega | (simp <;> omega))
      simp [go_sem, *] at q1c0_1
      have q1c0_2 := hb.cell (p := ⟨w.heap.size + 1, 2, none⟩) (by first | omega | (simp <;> omega))
      simp [go_sem, *] at q1c0_2
      have q1c0_3 := hb.cell (p := ⟨w.heap.size + 1, 3, none⟩) (by first | omega | (simp <;> omega))
      simp [go_sem, *] at q1c0_3
      have q1c0_4 := hb.cell (p := ⟨w.heap.size + 1, 4, none⟩) (by first | omega | (simp <;> omega))
      simp [go_sem, *] at q1c0_4
      have q1c0_5 := hb.cell (p := ⟨w.heap.size + 1, 5, none⟩) (by first | omega | (simp <;> omega))
      simp [go_sem, *] at q1c0_5
      have q1c0_6 := hb.cell (p := ⟨w.heap.size + 1, 6, none⟩) (by first | omega | (simp <;> omega))
      simp [go_sem, *] at q1c0_6
      have q1f0 := fun o => hb.frozen (p := ⟨w.heap.size + 1, o, none⟩) (by first | omega | (simp <;> omega))
      simp [go_sem, *] at q1f0
      have q1o : ∀ b o, b < w.heap.size → w1.cell? ⟨b, o, none⟩ = w.cell? ⟨b, o, none⟩ := fun b o h => q1B.cell (p := ⟨b, o, none⟩) h
      clear hb
      have B1 := hide q1B
      go_wp2_with fail
      refine (short_any bac bno bf bt bop bcl mA mn mc Q _ (HQ.out.below B1.out)).mono ?_
      rintro e w2 ⟨rfl, hb⟩
      rw [HG.out]
      have B2 := hide (B1.out.trans (hb.mono q1t))
      have z2 := B2.out.size
      clear hb
      go_wp2_with fail
      refine (lives_any _ (HT.out.below B2.out)).mono ?_
      rintro e w3 ⟨rfl, hb⟩
      go_wp2_with fail
      go_ret
      exact ⟨rfl, B2.out.trans (hb.mono z2)⟩
    | true =>
      have HM := hide (show mn ≤ 1000000 by have := (shB_iff.1 hg).1; omega)
      have HG := hide hg
      clear hg
      go_enter Tryd.func4, Tryd.ntmps4
      go_wp2_with fail
      refine (short_any ac no f t op cl lA ln lc P _ (HR.out.below (by (repeat (first | (with_reducible exact Below.refl _ _) | (with_reducible assumption) | ((with_reducible refine Below.alloc ?_ ?_ _); (rotate_left); (first | omega | (simp <;> omega))) | ((with_reducible refine Below.setCell ?_ ?_ _); (rotate_left); (first | omega | (simp <;> omega))) | (with_reducible refine Below.drew ?_) | (with_reducible refine below_drewN ?_ _)))))).mono ?_
      rintro e w1 ⟨rfl, hb⟩
      rw [HF.out]
      have q1B : Below w.heap.size w w1 := (by refine Below.trans ?_ (hb.mono (by first | omega | (simp <;> omega))); (repeat (first | (with_reducible exact Below.refl _ _) | (with_reducible assumption) | ((with_reducible refine Below.alloc ?_ ?_ _); (rotate_left); (first | omega | (simp <;> omega))) | ((with_reducible refine Below.setCell ?_ ?_ _); (rotate_left); (first | omega | (simp <;> omega))) | (with_reducible refine Below.drew ?_) | (with_reducible refine below_drewN ?_ _))))
      have q1z := hb.size
      try simp at q1z
      have q1t : w.heap.size ≤ w1.heap.size := (by omega)
      have q1s0 : w.heap.size < w1.heap.size := (by omega)
      have q1n0_0 : ¬ w1.heap.size = w.heap.size := (by omega)
      have q1n0_1 : ¬ w1.heap.size + 1 = w.heap.size := (by omega)
      have q1n0_2 : ¬ w1.heap.size + 2 = w.heap.size := (by omega)
      have q1c0_0 := hb.cell (p := ⟨w.heap.size, 0, none⟩) (by first | omega | (simp <;> omega))
      simp [go_sem, *] at q1c0_0
      have q1c0_1 := hb.cell (p := ⟨w.heap.size, 1, none⟩) (by first | omega | (simp <;> omega))
      simp [go_sem, *] at q1c0_1
      have q1c0_2 := hb.cell (p := ⟨w.heap.size, 2, none⟩) (by first | omega | (simp <;> omega))
      simp [go_sem, *] at q1c0_2
      have q1c0_3 := hb.cell (p := ⟨w.heap.size, 3, none⟩) (by first | omega | (simp <;> omega))
      simp [go_sem, *] at q1c0_3
      have q1c0_4 := hb.cell (p := ⟨w.heap.size, 4, none⟩) (by first | omega | (simp <;> omega))
      simp [go_sem, *] at q1c0_4
      have q1c0_5 := hb.cell (p := ⟨w.heap.size, 5, none⟩) (by first | omega | (simp <;> omega))
      simp [go_sem, *] at q1c0_5
      have q1c0_6 := hb.cell (p := ⟨w.heap.size, 6, none⟩) (by first | omega | (simp <;> omega))
      simp [go_sem, *] at q1c0_6
      have q1f0 := fun o => hb.frozen (p := ⟨w.heap.size, o, none⟩) (by first | omega | (simp <;> omega))
      simp [go_sem, *] at q1f0
      have q1s1 : w.heap.size + 1 < w1.heap.size := (by omega)
      have q1n1_0 : ¬ w1.heap.size = w.heap.size + 1 := (by omega)
      have q1n1_1 : ¬ w1.heap.size + 1 = w.heap.size + 1 := (by omega)
      have q1n1_2 : ¬ w1.heap.size + 2 = w.heap.size + 1 := (by omega)
      have q1c1_0 := hb.cell (p := ⟨w.heap.size + 1, 0, none⟩) (by first | omega | (simp <;> omega))
      simp [go_sem, *] at q1c1_0
      have q1c1_1 := hb.cell (p := ⟨w.heap.size + 1, 1, none⟩) (by first | omega | (simp <;> omega))
      simp [go_sem, *] at q1c1_1
      have q1c1_2 := hb.cell (p := ⟨w.heap.size + 1, 2, none⟩) (by first | omega | (simp <;> omega))
      simp [go_sem, *] at q1c1_2
      have q1c1_3 := hb.cell (p := ⟨w.heap.size + 1, 3, none⟩) (by first | omega | (simp <;> omega))
      simp [go_sem, *] at q1c1_3
      have q1c1_4 := hb.cell (p := ⟨w.heap.size + 1, 4, none⟩) (by first | omega | (simp <;> omega))
      simp [go_sem, *] at q1c1_4
      have q1c1_5 := hb.cell (p := ⟨w.heap.size + 1, 5, none⟩) (by first | omega | (simp <;> omega))
      simp [go_sem, *] at q1c1_5
      have q1c1_6 := hb.cell (p := ⟨w.heap.size + 1, 6, none⟩) (by first | omega | (simp <;> omega))
      simp [go_sem, *] at q1c1_6
      have q1f1 := fun o => hb.frozen (p := ⟨w.heap.size + 1, o, none⟩) (by first | omega | (simp <;> omega))
      simp [go_sem, *] at q1f1
      have q1o : ∀ b o, b < w.heap.size → w1.cell? ⟨b, o, none⟩ = w.cell? ⟨b, o, none⟩ := fun b o h => q1B.cell (p := ⟨b, o, none⟩) h
      clear hb
      have B1 := hide q1B
      go_wp2_with fail
      refine (short_any bac bno bf bt bop bcl mA mn mc Q _ (HQ.out.below B1.out)).mono ?_
      rintro e w2 ⟨rfl, hb⟩
      rw [HG.out]
      have B2 := hide (B1.out.trans (hb.mono q1t))
      have z2 := B2.out.size
      have q2B : Below w1.heap.size w1 w2 := (by refine Below.trans ?_ (hb.mono (by first | omega | (simp <;> omega))); (repeat (first | (with_reducible exact Below.refl _ _) | (with_reducible assumption) | ((with_reducible refine Below.alloc ?_ ?_ _); (rotate_left); (first | omega | (simp <;> omega))) | ((with_reducible refine Below.setCell ?_ ?_ _); (rotate_left); (first | omega | (simp <;> omega))) | (with_reducible refine Below.drew ?_) | (with_reducible refine below_drewN ?_ _))))
      have q2z := hb.size
      try simp at q2z
      have q2t : w1.heap.size ≤ w2.heap.size := (by omega)
      have q2s0 : w.heap.size < w2.heap.size := (by omega)
      have q2n0_0 : ¬ w2.heap.size = w.heap.size := (by omega)
      have q2n0_1 : ¬ w2.heap.size + 1 = w.heap.size := (by omega)
      have q2n0_2 : ¬ w2.heap.size + 2 = w.heap.size := (by omega)
      have q2c0_0 := hb.cell (p := ⟨w.heap.size, 0, none⟩) (by first | omega | (simp <;> omega))
      simp [go_sem, *] at q2c0_0
      have q2c0_1 := hb.cell (p := ⟨w.heap.size, 1, none⟩) (by first | omega | (simp <;> omega))
      simp [go_sem, *] at q2c0_1
      have q2c0_2 := hb.cell (p := ⟨w.heap.size, 2, none⟩) (by first | omega | (simp <;> omega))
      simp [go_sem, *] at q2c0_2
      have q2c0_3 := hb.cell (p := ⟨w.heap.size, 3, none⟩) (by first | omega | (simp <;> omega))
      simp [go_sem, *] at q2c0_3
      have q2c0_4 := hb.cell (p := ⟨w.heap.size, 4, none⟩) (by first | omega | (simp <;> omega))
      simp [go_sem, *] at q2c0_4
      have q2c0_5 := hb.cell (p := ⟨w.heap.size, 5, none⟩) (by first | omega | (simp <;> omega))
      simp [go_sem, *] at q2c0_5
      have q2c0_6 := hb.cell (p := ⟨w.heap.size, 6, none⟩) (by first | omega | (simp <;> omega))
      simp [go_sem, *] at q2c0_6
      have q2f0 := fun o => hb.frozen (p := ⟨w.heap.size, o, none⟩) (by first | omega | (simp <;> omega))
      simp [go_sem, *] at q2f0
      have q2s1 : w.heap.size + 1 < w2.heap.size := (by omega)
      have q2n1_0 : ¬ w2.heap.size = w.heap.size + 1 := (by omega)
      have q2n1_1 : ¬ w2.heap.size + 1 = w.heap.size + 1 := (by omega)
      have q2n1_2 : ¬ w2.heap.size + 2 = w.heap.size + 1 := (by omega)
      have q2c1_0 := hb.cell (p := ⟨w.heap.size + 1, 0, none⟩) (by first | omega | (simp <;> omega))
      simp [go_sem, *] at q2c1_0
      have q2c1_1 := hb.cell (p := ⟨w.heap.size + 1, 1, none⟩) (by first | omega | (simp <;> omega))
      simp [go_sem, *] at q2c1_1
      have q2c1_2 := hb.cell (p := ⟨w.heap.size + 1, 2, none⟩) (by first | omega | (simp <;> omega))
      simp [go_sem, *] at q2c1_2
      have q2c1_3 := hb.cell (p := ⟨w.heap.size + 1, 3, none⟩) (by first | omega | (simp <;> omega))
      simp [go_sem, *] at q2c1_3
      have q2c1_4 := hb.cell (p := ⟨w.heap.size + 1, 4, none⟩) (by first | omega | (simp <;> omega))
      simp [go_sem, *] at q2c1_4
      have q2c1_5 := hb.cell (p := ⟨w.heap.size + 1, 5, none⟩) (by first | omega | (simp <;> omega))
      simp [go_sem, *] at q2c1_5
      have q2c1_6 := hb.cell (p := ⟨w.heap.size + 1, 6, none⟩) (by first | omega | (simp <;> omega))
      simp [go_sem, *] at q2c1_6
      have q2f1 := fun o => hb.frozen (p := ⟨w.heap.size + 1, o, none⟩) (by first | omega | (simp <;> omega))
      simp [go_sem, *] at q2f1
      have q2o : ∀ b o, b < w1.heap.size → w2.cell? ⟨b, o, none⟩ = w1.cell? ⟨b, o, none⟩ := fun b o h => q2B.cell (p := ⟨b, o, none⟩) h
      clear hb q1o q1f1 q1c1_6 q1c1_5 q1c1_4 q1c1_3 q1c1_2 q1c1_1 q1c1_0 q1s1 q1f0 q1c0_6 q1c0_5 q1c0_4 q1c0_3 q1c0_2 q1c0_1 q1c0_0 q1s0 q1z q1B
      go_wp2_with fail
      refine ord_start (SB (w2.heap.size) [] _) 18 #[false, false, false, false, false, false, false, false, false, false, false, false, false, false, false, false, false, false] (by kernel_rfl) (by kernel_rfl) (by kernel_rfl) SB.refl.drew (fun hHeld => ?_)
      refine ord_take (i := 0) #[true, false, false, false, false, false, false, false, false, false, false, false, false, false, false, false, false, false] ?_ rfl (by kernel_rfl) (by kernel_rfl) (by kernel_rfl) (by kernel_rfl) (fun _ _ _ h => h) hHeld (by rfl) (fun wx hSx => ?_) ?_
      rotate_left
      · (unfold SB at hSx; go_simp; (try with_reducible rfl))
      (try simp only [Act.put, List.setIfInBounds_toArray, List.set_cons_zero, List.set_cons_succ])
      refine ord_take (i := 2) #[true, false, true, false, false, false, false, false, false, false, false, false, false, false, false, false, false, false] ?_ rfl (by kernel_rfl) (by kernel_rfl) (by kernel_rfl) (by kernel_rfl) (fun _ _ _ h => h) hHeld (by rfl) (fun wx hSx => ?_) ?_
      rotate_left
      · (unfold SB at hSx; go_simp; (try with_reducible rfl))
      (try simp only [Act.put, List.setIfInBounds_toArray, List.set_cons_zero, List.set_cons_succ])
      refine wpAnyH_ready (rs := [1]) (by kernel_rfl) (by simp) ?_
      refine ord_run (i := 1) #[true, true, true, false, false, false, false, false, false, false, false, false, false, false, false, false, false, false] rfl (by kernel_rfl) (by rfl) (fun K hK => ?_) AllReadyH.nil
      go_simp
      (refine Calls.mono (check_any ac no f t op cl lA ln lc P HL.out _ ?_) ?_; (focus (exact HR.out.below (B2.out.trans (by (repeat (first | (with_reducible exact Below.refl _ _) | (with_reducible assumption) | ((with_reducible refine Below.alloc ?_ ?_ _); (rotate_left); (first | omega | (simp <;> omega))) | ((with_reducible refine Below.setCell ?_ ?_ _); (rotate_left); (first | omega | (simp <;> omega))) | (with_reducible refine Below.drew ?_) | (with_reducible refine below_drewN ?_ _))))))); rintro e w3 ⟨rfl, hb⟩; have hbS := hb; have hb0 : Below w2.heap.size w2 w3 := Below.trans (by (repeat (first | (with_reducible exact Below.refl _ _) | (with_reducible assumption) | ((with_reducible refine Below.alloc ?_ ?_ _); (rotate_left); (first | omega | (simp <;> omega))) | ((with_reducible refine Below.setCell ?_ ?_ _); (rotate_left); (first | omega | (simp <;> omega))) | (with_reducible refine Below.drew ?_) | (with_reducible refine below_drewN ?_ _)))) hb; have B3 := hide (B2.out.trans (hb0.mono z2)); have z3 := hb0.size; clear hb hb0)
      go_simp
      refine hK.out _ _ ?_ (fun hHeld => ?_)
      · (repeat (first | (with_reducible exact SB.refl) | (with_reducible exact hHeld) | (with_reducible refine SB.drew ?_) | (with_reducible refine SB.drewN ?_ _) | ((with_reducible refine SB.alloc ?_ ?_ _); (rotate_left); (first | omega | (simp <;> omega))) | ((with_reducible refine SB.setCell ?_ ?_ _); (rotate_left); (focus (first | (simp; done) | (right; first | omega | (simp <;> omega))))) | ((with_reducible refine SB.below ?_ hbS ?_); (rotate_left); (first | omega | (simp <;> omega))) | ((with_reducible refine SB.below ?_ hbS1 ?_); (rotate_left); (first | omega | (simp <;> omega))) | ((with_reducible refine SB.below ?_ hbS2 ?_); (rotate_left); (first | omega | (simp <;> omega))) | ((with_reducible refine SB.below ?_ hbS3 ?_); (rotate_left); (first | omega | (simp <;> omega))) | ((with_reducible refine SB.below ?_ hbS4 ?_); (rotate_left); (first | omega | (simp <;> omega))) | (with_reducible refine SB.undrew ?_) | ((with_reducible refine SB.congr ?_ ?_); (rotate_left); (focus (simp; done))) | ((with_reducible refine SB.realloc ?_ ?_ ?_); (rotate_left); (focus (simp; done)); (focus (simp; done)))))
      clear hK K
      (try simp only [Act.put, List.setIfInBounds_toArray, List.set_cons_zero, List.set_cons_succ])
      refine wpAnyH_ready (rs := [3]) (by kernel_rfl) (by simp) ?_
      refine ord_run (i := 3) #[true, true, true, true, false, false, false, false, false, false, false, false, false, false, false, false, false, false] rfl (by kernel_rfl) (by rfl) (fun K hK => ?_) AllReadyH.nil
      go_simp
      (refine Calls.mono (rcheck_any ac no f t op cl lA ln lc P HL.out _ ?_) ?_; (focus (exact HR.out.below (B3.out.trans (by (repeat (first | (with_reducible exact Below.refl _ _) | (with_reducible assumption) | ((with_reducible refine Below.alloc ?_ ?_ _); (rotate_left); (first | omega | (simp <;> omega))) | ((with_reducible refine Below.setCell ?_ ?_ _); (rotate_left); (first | omega | (simp <;> omega))) | (with_reducible refine Below.drew ?_) | (with_reducible refine below_drewN ?_ _))))))); rintro e w4 ⟨rfl, hb⟩; have hbS1 := hb; have B4 := hide (B3.out.trans (hb.mono (by omega))); have z4 := hb.size; clear hb)
      go_simp
      refine hK.out _ _ ?_ (fun hHeld => ?_)
      · (repeat (first | (with_reducible exact SB.refl) | (with_reducible exact hHeld) | (with_reducible refine SB.drew ?_) | (with_reducible refine SB.drewN ?_ _) | ((with_reducible refine SB.alloc ?_ ?_ _); (rotate_left); (first | omega | (simp <;> omega))) | ((with_reducible refine SB.setCell ?_ ?_ _); (rotate_left); (focus (first | (simp; done) | (right; first | omega | (simp <;> omega))))) | ((with_reducible refine SB.below ?_ hbS ?_); (rotate_left); (first | omega | (simp <;> omega))) | ((with_reducible refine SB.below ?_ hbS1 ?_); (rotate_left); (first | omega | (simp <;> omega))) | ((with_reducible refine SB.below ?_ hbS2 ?_); (rotate_left); (first | omega | (simp <;> omega))) | ((with_reducible refine SB.below ?_ hbS3 ?_); (rotate_left); (first | omega | (simp <;> omega))) | ((with_reducible refine SB.below ?_ hbS4 ?_); (rotate_left); (first | omega | (simp <;> omega))) | (with_reducible refine SB.undrew ?_) | ((with_reducible refine SB.congr ?_ ?_); (rotate_left); (focus (simp; done))) | ((with_reducible refine SB.realloc ?_ ?_ ?_); (rotate_left); (focus (simp; done)); (focus (simp; done)))))
      clear hK K
      (try simp only [Act.put, List.setIfInBounds_toArray, List.set_cons_zero, List.set_cons_succ])
      refine ord_take (i := 4) #[true, true, true, true, true, false, false, false, false, false, false, false, false, false, false, false, false, false] ?_ rfl (by kernel_rfl) (by kernel_rfl) (by kernel_rfl) (by kernel_rfl) (fun _ _ _ h => h) hHeld (by rfl) (fun wx hSx => ?_) ?_
      rotate_left
      · (unfold SB at hSx; go_simp; (try with_reducible rfl))
      (try simp only [Act.put, List.setIfInBounds_toArray, List.set_cons_zero, List.set_cons_succ])
      refine ord_take (i := 5) #[true, true, true, true, true, true, false, false, false, false, false, false, false, false, false, false, false, false] ?_ rfl (by kernel_rfl) (by kernel_rfl) (by kernel_rfl) (by kernel_rfl) (fun _ _ _ h => h) hHeld (by rfl) (fun wx hSx => ?_) ?_
      rotate_left
      · (unfold SB at hSx; go_simp; (try with_reducible rfl))
      (try simp only [Act.put, List.setIfInBounds_toArray, List.set_cons_zero, List.set_cons_succ])
      refine ord_take (i := 6) #[true, true, true, true, true, true, true, false, false, false, false, false, false, false, false, false, false, false] ?_ rfl (by kernel_rfl) (by kernel_rfl) (by kernel_rfl) (by kernel_rfl) (fun _ _ _ h => h) hHeld (by rfl) (fun wx hSx => ?_) ?_
      rotate_left
      · (unfold SB at hSx; go_simp; (try with_reducible rfl))
      (try simp only [Act.put, List.setIfInBounds_toArray, List.set_cons_zero, List.set_cons_succ])
      refine ord_take (i := 7) #[true, true, true, true, true, true, true, true, false, false, false, false, false, false, false, false, false, false] ?_ rfl (by kernel_rfl) (by kernel_rfl) (by kernel_rfl) (by kernel_rfl) (fun _ _ _ h => h) hHeld (by rfl) (fun wx hSx => ?_) ?_
      rotate_left
      · (unfold SB at hSx; go_simp; (try with_reducible rfl))
      (try simp only [Act.put, List.setIfInBounds_toArray, List.set_cons_zero, List.set_cons_succ])
      refine ord_take (i := 9) #[true, true, true, true, true, true, true, true, false, true, false, false, false, false, false, false, false, false] ?_ rfl (by kernel_rfl) (by kernel_rfl) (by kernel_rfl) (by kernel_rfl) (fun _ _ _ h => h) hHeld (by rfl) (fun wx hSx => ?_) ?_
      rotate_left
      · (unfold SB at hSx; go_simp; (try with_reducible rfl))
      (try simp only [Act.put, List.setIfInBounds_toArray, List.set_cons_zero, List.set_cons_succ])
      refine ord_take (i := 10) #[true, true, true, true, true, true, true, true, false, true, true, false, false, false, false, false, false, false] ?_ rfl (by kernel_rfl) (by kernel_rfl) (by kernel_rfl) (by kernel_rfl) (fun _ _ _ h => h) hHeld (by rfl) (fun wx hSx => ?_) ?_
      rotate_left
      · (unfold SB at hSx; go_simp; (try with_reducible rfl))
      (try simp only [Act.put, List.setIfInBounds_toArray, List.set_cons_zero, List.set_cons_succ])
      refine wpAnyH_ready (rs := [8]) (by kernel_rfl) (by simp) ?_
      refine ord_run (i := 8) #[true, true, true, true, true, true, true, true, true, true, true, false, false, false, false, false, false, false] rfl (by kernel_rfl) (by rfl) (fun K hK => ?_) AllReadyH.nil
      go_simp
      (refine (follows_any ac no f t op cl bac bno bf bt bop bcl lA mA ln lc mn mc HI.out.1 HI.out.2.1 HI.out.2.2.1 HI.out.2.2.2 _).mono ?_; rintro e w5 ⟨rfl, hb⟩; have hbS2 := hb; have B5 := hide (B4.out.trans (hb.mono (by omega))); have z5 := hb.size; clear hb)
      go_simp
      refine hK.out _ _ ?_ (fun hHeld => ?_)
      · (repeat (first | (with_reducible exact SB.refl) | (with_reducible exact hHeld) | (with_reducible refine SB.drew ?_) | (with_reducible refine SB.drewN ?_ _) | ((with_reducible refine SB.alloc ?_ ?_ _); (rotate_left); (first | omega | (simp <;> omega))) | ((with_reducible refine SB.setCell ?_ ?_ _); (rotate_left); (focus (first | (simp; done) | (right; first | omega | (simp <;> omega))))) | ((with_reducible refine SB.below ?_ hbS ?_); (rotate_left); (first | omega | (simp <;> omega))) | ((with_reducible refine SB.below ?_ hbS1 ?_); (rotate_left); (first | omega | (simp <;> omega))) | ((with_reducible refine SB.below ?_ hbS2 ?_); (rotate_left); (first | omega | (simp <;> omega))) | ((with_reducible refine SB.below ?_ hbS3 ?_); (rotate_left); (first | omega | (simp <;> omega))) | ((with_reducible refine SB.below ?_ hbS4 ?_); (rotate_left); (first | omega | (simp <;> omega))) | (with_reducible refine SB.undrew ?_) | ((with_reducible refine SB.congr ?_ ?_); (rotate_left); (focus (simp; done))) | ((with_reducible refine SB.realloc ?_ ?_ ?_); (rotate_left); (focus (simp; done)); (focus (simp; done)))))
      clear hK K
      (try simp only [Act.put, List.setIfInBounds_toArray, List.set_cons_zero, List.set_cons_succ])
      refine wpAnyH_ready (rs := [11]) (by kernel_rfl) (by simp) ?_
      refine ord_run (i := 11) #[true, true, true, true, true, true, true, true, true, true, true, true, false, false, false, false, false, false] rfl (by kernel_rfl) (by rfl) (fun K hK => ?_) AllReadyH.nil
      go_simp
      (refine (rfollows_any ac no f t op cl bac bno bf bt bop bcl lA mA ln lc mn mc HI.out.1 HI.out.2.1 HI.out.2.2.1 HI.out.2.2.2 _).mono ?_; rintro e w6 ⟨rfl, hb⟩; have hbS3 := hb; have B6 := hide (B5.out.trans (hb.mono (by omega))); have z6 := hb.size; clear hb)
      go_simp
      refine hK.out _ _ ?_ (fun hHeld => ?_)
      · (repeat (first | (with_reducible exact SB.refl) | (with_reducible exact hHeld) | (with_reducible refine SB.drew ?_) | (with_reducible refine SB.drewN ?_ _) | ((with_reducible refine SB.alloc ?_ ?_ _); (rotate_left); (first | omega | (simp <;> omega))) | ((with_reducible refine SB.setCell ?_ ?_ _); (rotate_left); (focus (first | (simp; done) | (right; first | omega | (simp <;> omega))))) | ((with_reducible refine SB.below ?_ hbS ?_); (rotate_left); (first | omega | (simp <;> omega))) | ((with_reducible refine SB.below ?_ hbS1 ?_); (rotate_left); (first | omega | (simp <;> omega))) | ((with_reducible refine SB.below ?_ hbS2 ?_); (rotate_left); (first | omega | (simp <;> omega))) | ((with_reducible refine SB.below ?_ hbS3 ?_); (rotate_left); (first | omega | (simp <;> omega))) | ((with_reducible refine SB.below ?_ hbS4 ?_); (rotate_left); (first | omega | (simp <;> omega))) | (with_reducible refine SB.undrew ?_) | ((with_reducible refine SB.congr ?_ ?_); (rotate_left); (focus (simp; done))) | ((with_reducible refine SB.realloc ?_ ?_ ?_); (rotate_left); (focus (simp; done)); (focus (simp; done)))))
      clear hK K
      (try simp only [Act.put, List.setIfInBounds_toArray, List.set_cons_zero, List.set_cons_succ])
      refine ord_take (i := 12) #[true, true, true, true, true, true, true, true, true, true, true, true, true, false, false, false, false, false] ?_ rfl (by kernel_rfl) (by kernel_rfl) (by kernel_rfl) (by kernel_rfl) (fun _ _ _ h => h) hHeld (by rfl) (fun wx hSx => ?_) ?_
      rotate_left
      · (unfold SB at hSx; go_simp; (try with_reducible rfl))
      (try simp only [Act.put, List.setIfInBounds_toArray, List.set_cons_zero, List.set_cons_succ])
      refine ord_take (i := 13) #[true, true, true, true, true, true, true, true, true, true, true, true, true, true, false, false, false, false] ?_ rfl (by kernel_rfl) (by kernel_rfl) (by kernel_rfl) (by kernel_rfl) (fun _ _ _ h => h) hHeld (by rfl) (fun wx hSx => ?_) ?_
      rotate_left
      · (unfold SB at hSx; go_simp; (try with_reducible rfl))
      (try simp only [Act.put, List.setIfInBounds_toArray, List.set_cons_zero, List.set_cons_succ])
      refine ord_take (i := 14) #[true, true, true, true, true, true, true, true, true, true, true, true, true, true, true, false, false, false] ?_ rfl (by kernel_rfl) (by kernel_rfl) (by kernel_rfl) (by kernel_rfl) (fun _ _ _ h => h) hHeld (by rfl) (fun wx hSx => ?_) ?_
      rotate_left
      · (unfold SB at hSx; go_simp; (try with_reducible rfl))
      (try simp only [Act.put, List.setIfInBounds_toArray, List.set_cons_zero, List.set_cons_succ])
      refine wpAnyH_ready (rs := [15]) (by kernel_rfl) (by simp) ?_
      refine ord_run (i := 15) #[true, true, true, true, true, true, true, true, true, true, true, true, true, true, true, true, false, false] rfl (by kernel_rfl) (by rfl) (fun K hK => ?_) AllReadyH.nil
      go_simp
      (refine Calls.mono (lives_any _ ?_) ?_; (focus (exact HT.out.below (B6.out.trans (by (repeat (first | (with_reducible exact Below.refl _ _) | (with_reducible assumption) | ((with_reducible refine Below.alloc ?_ ?_ _); (rotate_left); (first | omega | (simp <;> omega))) | ((with_reducible refine Below.setCell ?_ ?_ _); (rotate_left); (first | omega | (simp <;> omega))) | (with_reducible refine Below.drew ?_) | (with_reducible refine below_drewN ?_ _))))))); rintro e w7 ⟨rfl, hb⟩; have hbS4 := hb; have B7 := hide (B6.out.trans (hb.mono (by omega))); clear hb)
      go_simp
      refine hK.out _ _ ?_ (fun hHeld => ?_)
      · (repeat (first | (with_reducible exact SB.refl) | (with_reducible exact hHeld) | (with_reducible refine SB.drew ?_) | (with_reducible refine SB.drewN ?_ _) | ((with_reducible refine SB.alloc ?_ ?_ _); (rotate_left); (first | omega | (simp <;> omega))) | ((with_reducible refine SB.setCell ?_ ?_ _); (rotate_left); (focus (first | (simp; done) | (right; first | omega | (simp <;> omega))))) | ((with_reducible refine SB.below ?_ hbS ?_); (rotate_left); (first | omega | (simp <;> omega))) | ((with_reducible refine SB.below ?_ hbS1 ?_); (rotate_left); (first | omega | (simp <;> omega))) | ((with_reducible refine SB.below ?_ hbS2 ?_); (rotate_left); (first | omega | (simp <;> omega))) | ((with_reducible refine SB.below ?_ hbS3 ?_); (rotate_left); (first | omega | (simp <;> omega))) | ((with_reducible refine SB.below ?_ hbS4 ?_); (rotate_left); (first | omega | (simp <;> omega))) | (with_reducible refine SB.undrew ?_) | ((with_reducible refine SB.congr ?_ ?_); (rotate_left); (focus (simp; done))) | ((with_reducible refine SB.realloc ?_ ?_ ?_); (rotate_left); (focus (simp; done)); (focus (simp; done)))))
      clear hK K
      (try simp only [Act.put, List.setIfInBounds_toArray, List.set_cons_zero, List.set_cons_succ])
      refine ord_take (i := 16) #[true, true, true, true, true, true, true, true, true, true, true, true, true, true, true, true, true, false] ?_ rfl (by kernel_rfl) (by kernel_rfl) (by kernel_rfl) (by kernel_rfl) (fun _ _ _ h => h) hHeld (by rfl) (fun wx hSx => ?_) ?_
      rotate_left
      · (unfold SB at hSx; go_simp; (try with_reducible rfl))
      (try simp only [Act.put, List.setIfInBounds_toArray, List.set_cons_zero, List.set_cons_succ])
      refine wpAnyH_ready (rs := [17]) (by kernel_rfl) (by simp) ?_
      refine ord_run (i := 17) #[true, true, true, true, true, true, true, true, true, true, true, true, true, true, true, true, true, true] rfl (by kernel_rfl) (by rfl) (fun K hK => ?_) AllReadyH.nil
      go_simp
      refine hK.out _ _ ?_ (fun hHeld => ?_)
      · (repeat (first | (with_reducible exact SB.refl) | (with_reducible exact hHeld) | (with_reducible refine SB.drew ?_) | (with_reducible refine SB.drewN ?_ _) | ((with_reducible refine SB.alloc ?_ ?_ _); (rotate_left); (first | omega | (simp <;> omega))) | ((with_reducible refine SB.setCell ?_ ?_ _); (rotate_left); (focus (first | (simp; done) | (right; first | omega | (simp <;> omega))))) | ((with_reducible refine SB.below ?_ hbS ?_); (rotate_left); (first | omega | (simp <;> omega))) | ((with_reducible refine SB.below ?_ hbS1 ?_); (rotate_left); (first | omega | (simp <;> omega))) | ((with_reducible refine SB.below ?_ hbS2 ?_); (rotate_left); (first | omega | (simp <;> omega))) | ((with_reducible refine SB.below ?_ hbS3 ?_); (rotate_left); (first | omega | (simp <;> omega))) | ((with_reducible refine SB.below ?_ hbS4 ?_); (rotate_left); (first | omega | (simp <;> omega))) | (with_reducible refine SB.undrew ?_) | ((with_reducible refine SB.congr ?_ ?_); (rotate_left); (focus (simp; done))) | ((with_reducible refine SB.realloc ?_ ?_ ?_); (rotate_left); (focus (simp; done)); (focus (simp; done)))))
      clear hK K
      (try simp only [Act.put, List.setIfInBounds_toArray, List.set_cons_zero, List.set_cons_succ])
      refine wpAnyH_done (by kernel_rfl) ?_ _
      go_wp2_with fail; go_ret; exact ⟨rfl, B7.out⟩
set_option maxRecDepth 4000 in
set_option maxHeartbeats 2000000 in
theorem walk_texts (ac no f t op cl : Int) (lA : Option Addr) (ln lc : Nat) (P : Nat → LPos) (d : Int) (i1 : IIn ac) (i2 : IIn no) (w : World) (hr : RowPos w lA ln P) (ht : Tab w) :
    Calls Tryd.prog 5 #[.agg #[.int .i64 ac, .int .i64 no, .int .i64 f, .int .i64 t, .int .i64 op, .int .i64 cl, .slice lA ln lc], .int .i64 d] w fun e w' => e = .returned (.bool true) ∧ Below w.heap.size w w' := by
  have HR := hide hr
  have HT := hide ht
  have HI := hide (And.intro i1 i2)
  clear hr ht i1 i2
  cases hf : shB ln P with
  | false =>
    have HF := hide hf
    clear hf
    go_enter Tryd.func5, Tryd.ntmps5
    go_wp2_with fail
    refine (short_any ac no f t op cl lA ln lc P _ (HR.out.below (by (repeat (first | (with_reducible exact Below.refl _ _) | (with_reducible assumption) | ((with_reducible refine Below.alloc ?_ ?_ _); (rotate_left); (first | omega | (simp <;> omega))) | ((with_reducible refine Below.setCell ?_ ?_ _); (rotate_left); (first | omega | (simp <;> omega))) | (with_reducible refine Below.drew ?_) | (with_reducible refine below_drewN ?_ _)))))).mono ?_
    rintro e w1 ⟨rfl, hb⟩
    rw [HF.out]
    have q1B : Below w.heap.size w w1 := (by refine Below.trans ?_ (hb.mono (by first | omega | (simp <;> omega))); (repeat (first | (with_reducible exact Below.refl _ _) | (with_reducible assumption) | ((with_reducible refine Below.alloc ?_ ?_ _); (rotate_left); (first | omega | (simp <;> omega))) | ((with_reducible refine Below.setCell ?_ ?_ _); (rotate_left); (first | omega | (simp <;> omega))) | (with_reducible refine Below.drew ?_) | (with_reducible refine below_drewN ?_ _))))
    have q1z := hb.size
    try simp at q1z
    have q1t : w.heap.size ≤ w1.heap.size := (by omega)
    have q1o : ∀ b o, b < w.heap.size → w1.cell? ⟨b, o, none⟩ = w.cell? ⟨b, o, none⟩ := fun b o h => q1B.cell (p := ⟨b, o, none⟩) h
    clear hb
    go_wp2_with fail
    refine (lives_any _ (HT.out.below q1B)).mono ?_
    rintro e w2 ⟨rfl, hb⟩
    go_wp2_with fail
    go_ret
    exact ⟨rfl, q1B.trans (hb.mono q1t)⟩
  | true =>
    have HS := hide (shB_iff.1 hf)
    have HF := hide hf
    clear hf
    obtain ⟨T, hT⟩ : ∃ T : ByteArray, T = ⟨(txtR ac no f t op cl P ln d).toArray⟩ := ⟨_, rfl⟩
    obtain ⟨R, hR⟩ : ∃ R, R = txtE ac no f t op cl P ln d := ⟨_, rfl⟩
    have HM := hide (fun w1 h1 h2 => by have h := text_any ac no f t op cl lA ln lc P d HS.out.1 HS.out.2 HI.out.1 HI.out.2 w1 h1 h2; rw [← hT, ← hR] at h; exact h)
    have HN := hide (fun w1 h1 => by have h := rtext_any ac no f t op cl lA ln lc P d HS.out.1 HS.out.2 HI.out.1 HI.out.2 w1 h1; rw [← hT, ← hR] at h; exact h)
    clear hT hR
    go_enter Tryd.func5, Tryd.ntmps5
    go_wp2_with fail
    refine (short_any ac no f t op cl lA ln lc P _ (HR.out.below (by (repeat (first | (with_reducible exact Below.refl _ _) | (with_reducible assumption) | ((with_reducible refine Below.alloc ?_ ?_ _); (rotate_left); (first | omega | (simp <;> omega))) | ((with_reducible refine Below.setCell ?_ ?_ _); (rotate_left); (first | omega | (simp <;> omega))) | (with_reducible refine Below.drew ?_) | (with_reducible refine below_drewN ?_ _)))))).mono ?_
    rintro e w1 ⟨rfl, hb⟩
    rw [HF.out]
    have q1B : Below w.heap.size w w1 := (by refine Below.trans ?_ (hb.mono (by first | omega | (simp <;> omega))); (repeat (first | (with_reducible exact Below.refl _ _) | (with_reducible assumption) | ((with_reducible refine Below.alloc ?_ ?_ _); (rotate_left); (first | omega | (simp <;> omega))) | ((with_reducible refine Below.setCell ?_ ?_ _); (rotate_left); (first | omega | (simp <;> omega))) | (with_reducible refine Below.drew ?_) | (with_reducible refine below_drewN ?_ _))))
    have q1z := hb.size
    try simp at q1z
    have q1t : w.heap.size ≤ w1.heap.size := (by omega)
    have q1s0 : w.heap.size < w1.heap.size := (by omega)
    have q1n0_0 : ¬ w1.heap.size = w.heap.size := (by omega)
    have q1n0_1 : ¬ w1.heap.size + 1 = w.heap.size := (by omega)
    have q1n0_2 : ¬ w1.heap.size + 2 = w.heap.size := (by omega)
    have q1c0_0 := hb.cell (p := ⟨w.heap.size, 0, none⟩) (by first | omega | (simp <;> omega))
    simp [go_sem, *] at q1c0_0
    have q1c0_1 := hb.cell (p := ⟨w.heap.size, 1, none⟩) (by first | omega | (simp <;> omega))
    simp [go_sem, *] at q1c0_1
    have q1c0_2 := hb.cell (p := ⟨w.heap.size, 2, none⟩) (by first | omega | (simp <;> omega))
    simp [go_sem, *] at q1c0_2
    have q1c0_3 := hb.cell (p := ⟨w.heap.size, 3, none⟩) (by first | omega | (simp <;> omega))
    simp [go_sem, *] at q1c0_3
    have q1c0_4 := hb.cell (p := ⟨w.heap.size, 4, none⟩) (by first | omega | (simp <;> omega))
    simp [go_sem, *] at q1c0_4
    have q1c0_5 := hb.cell (p := ⟨w.heap.size, 5, none⟩) (by first | omega | (simp <;> omega))
    simp [go_sem, *] at q1c0_5
    have q1c0_6 := hb.cell (p := ⟨w.heap.size, 6, none⟩) (by first | omega | (simp <;> omega))
    simp [go_sem, *] at q1c0_6
    have q1f0 := fun o => hb.frozen (p := ⟨w.heap.size, o, none⟩) (by first | omega | (simp <;> omega))
    simp [go_sem, *] at q1f0
    have q1o : ∀ b o, b < w.heap.size → w1.cell? ⟨b, o, none⟩ = w.cell? ⟨b, o, none⟩ := fun b o h => q1B.cell (p := ⟨b, o, none⟩) h
    clear hb
    have B1 := hide q1B
    go_wp2_with fail
    refine (HM.out _ (HR.out.below B1.out) (HT.out.below B1.out)).mono ?_
    rintro e w2 ⟨rfl, hb⟩
    have B2 := hide (B1.out.trans (hb.mono q1t))
    have q2B : Below w1.heap.size w1 w2 := (by refine Below.trans ?_ (hb.mono (by first | omega | (simp <;> omega))); (repeat (first | (with_reducible exact Below.refl _ _) | (with_reducible assumption) | ((with_reducible refine Below.alloc ?_ ?_ _); (rotate_left); (first | omega | (simp <;> omega))) | ((with_reducible refine Below.setCell ?_ ?_ _); (rotate_left); (first | omega | (simp <;> omega))) | (with_reducible refine Below.drew ?_) | (with_reducible refine below_drewN ?_ _))))
    have q2z := hb.size
    try simp at q2z
    have q2t : w1.heap.size ≤ w2.heap.size := (by omega)
    have q2s0 : w.heap.size < w2.heap.size := (by omega)
    have q2n0_0 : ¬ w2.heap.size = w.heap.size := (by omega)
    have q2n0_1 : ¬ w2.heap.size + 1 = w.heap.size := (by omega)
    have q2n0_2 : ¬ w2.heap.size + 2 = w.heap.size := (by omega)
    have q2c0_0 := hb.cell (p := ⟨w.heap.size, 0, none⟩) (by first | omega | (simp <;> omega))
    simp [go_sem, *] at q2c0_0
    have q2c0_1 := hb.cell (p := ⟨w.heap.size, 1, none⟩) (by first | omega | (simp <;> omega))
    simp [go_sem, *] at q2c0_1
    have q2c0_2 := hb.cell (p := ⟨w.heap.size, 2, none⟩) (by first | omega | (simp <;> omega))
    simp [go_sem, *] at q2c0_2
    have q2c0_3 := hb.cell (p := ⟨w.heap.size, 3, none⟩) (by first | omega | (simp <;> omega))
    simp [go_sem, *] at q2c0_3
    have q2c0_4 := hb.cell (p := ⟨w.heap.size, 4, none⟩) (by first | omega | (simp <;> omega))
    simp [go_sem, *] at q2c0_4
    have q2c0_5 := hb.cell (p := ⟨w.heap.size, 5, none⟩) (by first | omega | (simp <;> omega))
    simp [go_sem, *] at q2c0_5
    have q2c0_6 := hb.cell (p := ⟨w.heap.size, 6, none⟩) (by first | omega | (simp <;> omega))
    simp [go_sem, *] at q2c0_6
    have q2f0 := fun o => hb.frozen (p := ⟨w.heap.size, o, none⟩) (by first | omega | (simp <;> omega))
    simp [go_sem, *] at q2f0
    have q2o : ∀ b o, b < w1.heap.size → w2.cell? ⟨b, o, none⟩ = w1.cell? ⟨b, o, none⟩ := fun b o h => q2B.cell (p := ⟨b, o, none⟩) h
    clear hb q1o q1f0 q1c0_6 q1c0_5 q1c0_4 q1c0_3 q1c0_2 q1c0_1 q1c0_0 q1s0 q1z q1B
    go_wp2_with fail
    refine (HN.out _ (HR.out.below B2.out)).mono ?_
    rintro e w3 ⟨rfl, hb⟩
    have B3 := hide (B2.out.trans (hb.mono B2.out.size))
    have z3 := B3.out.size
    clear hb
    go_wp2_with fail
    refine (lives_any _ (HT.out.below B3.out)).mono ?_
    rintro e w4 ⟨rfl, hb⟩
    go_wp2_with fail
    go_ret
    exact ⟨rfl, B3.out.trans (hb.mono z3)⟩
end Go.Proofs.YtodfpfbcjiganaaDoor
