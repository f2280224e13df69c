/- Texts laid together: Add. -/
import Derived.Test.YtfolccncegejjaaQAcZ
import Derived.Test.YtfolccncegejjaaQAcR
namespace Go.Proofs.Ytfolccncegejjaa
set_option maxRecDepth 4000
set_option linter.unusedSimpArgs false
set_option linter.unusedVariables false
open Go.RowKit
theorem lawTotals_any (A : Option Addr) (n c : Nat) (L : Nat → LAcr) (w : World) (hr : RowAcr w A n L) (hL : ∀ k, k < n → WIn (L k).cr ∧ WIn (L k).db) : Calls Try.prog 5 #[.slice A n c] w fun e w' => e = .returned (.bool true) ∧ Below w.heap.size w w' := by
  have HR := hide hr
  by_cases hn : n ≤ 300
  · have hm : (n : Int) ≤ 300 := by omega
    obtain ⟨o, ho⟩ : ∃ o, o = totS L n := ⟨_, rfl⟩
    have H1 := hide (fun W h => by have t := tot_any A n c L (by omega) hL W h; rw [← ho] at t; unfold TotRet at t; exact t)
    have H2 := hide (fun W h => by have t := rtot_any A n c L (by omega) hL W h; rw [← ho] at t; unfold TotRet at t; exact t)
    clear hr hL hn ho
    cases o with
    | none =>
      simp only at H1 H2
      go_enter Try.func5, Try.ntmps5
      go_wp2_with fail
      refine (H1.out _ (HR.out.below (by (repeat (first | (with_reducible first | exact Below.refl _ _ | assumption | refine Below.drew ?_ | refine below_drewN ?_ _) | ((with_reducible first | refine Below.alloc ?_ ?_ _ | refine Below.setCell ?_ ?_ _); rotate_left; (first | omega | (simp <;> omega)))))))).mono ?_
      rintro e w1 ⟨rfl, hb⟩
      have B1 := hide hb
      have q1B : Below w.heap.size w w1 := (by refine Below.trans ?_ (hb.mono (by first | omega | (simp <;> omega))); (repeat (first | (with_reducible first | exact Below.refl _ _ | assumption | refine Below.drew ?_ | refine below_drewN ?_ _) | ((with_reducible first | refine Below.alloc ?_ ?_ _ | refine Below.setCell ?_ ?_ _); rotate_left; (first | omega | (simp <;> omega))))))
      have q1z := hb.size
      try simp at q1z
      have q1t : w.heap.size ≤ w1.heap.size := (by omega)
      have q1o : ∀ b o, b < w.heap.size → w1.cell? ⟨b, o, none⟩ = w.cell? ⟨b, o, none⟩ := fun b o h => q1B.cell (p := ⟨b, o, none⟩) h
      clear hb
      go_wp2_with fail
      refine (H2.out _ (HR.out.below (by refine Below.trans B1.out ?_; (repeat (first | (with_reducible first | exact Below.refl _ _ | assumption | refine Below.drew ?_ | refine below_drewN ?_ _) | ((with_reducible first | refine Below.alloc ?_ ?_ _ | refine Below.setCell ?_ ?_ _); rotate_left; (first | omega | (simp <;> omega)))))))).mono ?_
      rintro e w2 ⟨rfl, hb⟩
      have q2B : Below w.heap.size w w2 := (by refine Below.trans ?_ (hb.mono (by first | omega | (simp <;> omega))); (repeat (first | (with_reducible first | exact Below.refl _ _ | assumption | refine Below.drew ?_ | refine below_drewN ?_ _) | ((with_reducible first | refine Below.alloc ?_ ?_ _ | refine Below.setCell ?_ ?_ _); rotate_left; (first | omega | (simp <;> omega))))))
      have q2z := hb.size
      try simp at q2z
      have q2t : w.heap.size ≤ w2.heap.size := (by omega)
      have q2s0 : w1.heap.size < w2.heap.size := (by omega)
      have q2n0_0 : ¬ w2.heap.size = w1.heap.size := (by omega)
      have q2n0_1 : ¬ w2.heap.size + 1 = w1.heap.size := (by omega)
      have q2n0_2 : ¬ w2.heap.size + 2 = w1.heap.size := (by omega)
      have q2c0_0 := hb.cell (p := ⟨w1.heap.size, 0, none⟩) (by first | omega | (simp <;> omega))
      simp [go_sem, *] at q2c0_0
      have q2c0_1 := hb.cell (p := ⟨w1.heap.size, 1, none⟩) (by first | omega | (simp <;> omega))
      simp [go_sem, *] at q2c0_1
      have q2f0 := fun o => hb.frozen (p := ⟨w1.heap.size, o, none⟩) (by first | omega | (simp <;> omega))
      simp [go_sem, *] at q2f0
      have q2s1 : w1.heap.size + 1 < w2.heap.size := (by omega)
      have q2n1_0 : ¬ w2.heap.size = w1.heap.size + 1 := (by omega)
      have q2n1_1 : ¬ w2.heap.size + 1 = w1.heap.size + 1 := (by omega)
      have q2n1_2 : ¬ w2.heap.size + 2 = w1.heap.size + 1 := (by omega)
      have q2c1_0 := hb.cell (p := ⟨w1.heap.size + 1, 0, none⟩) (by first | omega | (simp <;> omega))
      simp [go_sem, *] at q2c1_0
      have q2c1_1 := hb.cell (p := ⟨w1.heap.size + 1, 1, none⟩) (by first | omega | (simp <;> omega))
      simp [go_sem, *] at q2c1_1
      have q2f1 := fun o => hb.frozen (p := ⟨w1.heap.size + 1, o, none⟩) (by first | omega | (simp <;> omega))
      simp [go_sem, *] at q2f1
      have q2o : ∀ b o, b < w.heap.size → w2.cell? ⟨b, o, none⟩ = w.cell? ⟨b, o, none⟩ := fun b o h => q2B.cell (p := ⟨b, o, none⟩) h
      clear hb q1o q1z q1B
      go_wp2_with fail
      refine (lives_any _).mono ?_
      rintro e w3 ⟨rfl, hb⟩
      have q3B : Below w.heap.size w w3 := (by refine Below.trans ?_ (hb.mono (by first | omega | (simp <;> omega))); (repeat (first | (with_reducible first | exact Below.refl _ _ | assumption | refine Below.drew ?_ | refine below_drewN ?_ _) | ((with_reducible first | refine Below.alloc ?_ ?_ _ | refine Below.setCell ?_ ?_ _); rotate_left; (first | omega | (simp <;> omega))))))
      have q3z := hb.size
      try simp at q3z
      have q3t : w.heap.size ≤ w3.heap.size := (by omega)
      have q3o : ∀ b o, b < w.heap.size → w3.cell? ⟨b, o, none⟩ = w.cell? ⟨b, o, none⟩ := fun b o h => q3B.cell (p := ⟨b, o, none⟩) h
      clear hb q2o q2f1 q2c1_1 q2c1_0 q2s1 q2f0 q2c0_1 q2c0_0 q2s0 q2z q2B
      go_wp2_with fail
      go_ret
      exact ⟨rfl, q3B⟩
    | some p =>
      obtain ⟨x, y⟩ := p
      simp only at H1 H2
      go_enter Try.func5, Try.ntmps5
      go_wp2_with fail
      refine (H1.out _ (HR.out.below (by (repeat (first | (with_reducible first | exact Below.refl _ _ | assumption | refine Below.drew ?_ | refine below_drewN ?_ _) | ((with_reducible first | refine Below.alloc ?_ ?_ _ | refine Below.setCell ?_ ?_ _); rotate_left; (first | omega | (simp <;> omega)))))))).mono ?_
      rintro e w1 ⟨rfl, hb⟩
      have B1 := hide hb
      have q1B : Below w.heap.size w w1 := (by refine Below.trans ?_ (hb.mono (by first | omega | (simp <;> omega))); (repeat (first | (with_reducible first | exact Below.refl _ _ | assumption | refine Below.drew ?_ | refine below_drewN ?_ _) | ((with_reducible first | refine Below.alloc ?_ ?_ _ | refine Below.setCell ?_ ?_ _); rotate_left; (first | omega | (simp <;> omega))))))
      have q1z := hb.size
      try simp at q1z
      have q1t : w.heap.size ≤ w1.heap.size := (by omega)
      have q1o : ∀ b o, b < w.heap.size → w1.cell? ⟨b, o, none⟩ = w.cell? ⟨b, o, none⟩ := fun b o h => q1B.cell (p := ⟨b, o, none⟩) h
      clear hb
      go_wp2_with fail
      refine (H2.out _ (HR.out.below (by refine Below.trans B1.out ?_; (repeat (first | (with_reducible first | exact Below.refl _ _ | assumption | refine Below.drew ?_ | refine below_drewN ?_ _) | ((with_reducible first | refine Below.alloc ?_ ?_ _ | refine Below.setCell ?_ ?_ _); rotate_left; (first | omega | (simp <;> omega)))))))).mono ?_
      rintro e w2 ⟨rfl, hb⟩
      have q2B : Below w.heap.size w w2 := (by refine Below.trans ?_ (hb.mono (by first | omega | (simp <;> omega))); (repeat (first | (with_reducible first | exact Below.refl _ _ | assumption | refine Below.drew ?_ | refine below_drewN ?_ _) | ((with_reducible first | refine Below.alloc ?_ ?_ _ | refine Below.setCell ?_ ?_ _); rotate_left; (first | omega | (simp <;> omega))))))
      have q2z := hb.size
      try simp at q2z
      have q2t : w.heap.size ≤ w2.heap.size := (by omega)
      have q2s0 : w1.heap.size < w2.heap.size := (by omega)
      have q2n0_0 : ¬ w2.heap.size = w1.heap.size := (by omega)
      have q2n0_1 : ¬ w2.heap.size + 1 = w1.heap.size := (by omega)
      have q2n0_2 : ¬ w2.heap.size + 2 = w1.heap.size := (by omega)
      have q2c0_0 := hb.cell (p := ⟨w1.heap.size, 0, none⟩) (by first | omega | (simp <;> omega))
      simp [go_sem, *] at q2c0_0
      have q2c0_1 := hb.cell (p := ⟨w1.heap.size, 1, none⟩) (by first | omega | (simp <;> omega))
      simp [go_sem, *] at q2c0_1
      have q2f0 := fun o => hb.frozen (p := ⟨w1.heap.size, o, none⟩) (by first | omega | (simp <;> omega))
      simp [go_sem, *] at q2f0
      have q2s1 : w1.heap.size + 1 < w2.heap.size := (by omega)
      have q2n1_0 : ¬ w2.heap.size = w1.heap.size + 1 := (by omega)
      have q2n1_1 : ¬ w2.heap.size + 1 = w1.heap.size + 1 := (by omega)
      have q2n1_2 : ¬ w2.heap.size + 2 = w1.heap.size + 1 := (by omega)
      have q2c1_0 := hb.cell (p := ⟨w1.heap.size + 1, 0, none⟩) (by first | omega | (simp <;> omega))
      simp [go_sem, *] at q2c1_0
      have q2c1_1 := hb.cell (p := ⟨w1.heap.size + 1, 1, none⟩) (by first | omega | (simp <;> omega))
      simp [go_sem, *] at q2c1_1
      have q2f1 := fun o => hb.frozen (p := ⟨w1.heap.size + 1, o, none⟩) (by first | omega | (simp <;> omega))
      simp [go_sem, *] at q2f1
      have q2o : ∀ b o, b < w.heap.size → w2.cell? ⟨b, o, none⟩ = w.cell? ⟨b, o, none⟩ := fun b o h => q2B.cell (p := ⟨b, o, none⟩) h
      clear hb q1o q1z q1B
      go_wp2_with fail
      refine (lives_any _).mono ?_
      rintro e w3 ⟨rfl, hb⟩
      have q3B : Below w.heap.size w w3 := (by refine Below.trans ?_ (hb.mono (by first | omega | (simp <;> omega))); (repeat (first | (with_reducible first | exact Below.refl _ _ | assumption | refine Below.drew ?_ | refine below_drewN ?_ _) | ((with_reducible first | refine Below.alloc ?_ ?_ _ | refine Below.setCell ?_ ?_ _); rotate_left; (first | omega | (simp <;> omega))))))
      have q3z := hb.size
      try simp at q3z
      have q3t : w.heap.size ≤ w3.heap.size := (by omega)
      have q3o : ∀ b o, b < w.heap.size → w3.cell? ⟨b, o, none⟩ = w.cell? ⟨b, o, none⟩ := fun b o h => q3B.cell (p := ⟨b, o, none⟩) h
      clear hb q2o q2f1 q2c1_1 q2c1_0 q2s1 q2f0 q2c0_1 q2c0_0 q2s0 q2z q2B
      go_wp2_with fail
      go_ret
      exact ⟨rfl, q3B⟩
  · have hm : (300 : Int) < n := by omega
    clear hr hL hn
    go_enter Try.func5, Try.ntmps5
    go_wp2_with fail
    refine (lives_any _).mono ?_
    rintro e w1 ⟨rfl, hb⟩
    have q1B : Below w.heap.size w w1 := (by refine Below.trans ?_ (hb.mono (by first | omega | (simp <;> omega))); (repeat (first | (with_reducible first | exact Below.refl _ _ | assumption | refine Below.drew ?_ | refine below_drewN ?_ _) | ((with_reducible first | refine Below.alloc ?_ ?_ _ | refine Below.setCell ?_ ?_ _); rotate_left; (first | omega | (simp <;> omega))))))
    have q1z := hb.size
    try simp at q1z
    have q1t : w.heap.size ≤ w1.heap.size := (by omega)
    have q1o : ∀ b o, b < w.heap.size → w1.cell? ⟨b, o, none⟩ = w.cell? ⟨b, o, none⟩ := fun b o h => q1B.cell (p := ⟨b, o, none⟩) h
    clear hb
    go_wp2_with fail
    go_ret
    exact ⟨rfl, q1B⟩
end Go.Proofs.Ytfolccncegejjaa
