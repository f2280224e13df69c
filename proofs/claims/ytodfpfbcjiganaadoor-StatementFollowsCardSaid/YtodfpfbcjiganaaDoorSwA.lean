/- The walks of the laws StatementMakes, StatementChecks, StatementTexts. -/
import Derived.Test.YtodfpfbcjiganaaDoorStP
import Derived.Test.YtodfpfbcjiganaaDoorStH
import Derived.Test.YtodfpfbcjiganaaDoorStI
import Derived.Test.YtodfpfbcjiganaaDoorStL
import Derived.Test.YtodfpfbcjiganaaDoorTxR
namespace Go.Proofs.YtodfpfbcjiganaaDoor
set_option linter.unusedSimpArgs false
set_option linter.unusedVariables false
open Go.RowKit

theorem mkS_len (E : Nat → LEnt) (n : Nat) (has : Bool) (id no f t : Int) : (mkS E n has id no f t).ls.length ≤ n := by
  unfold mkS
  split
  · exact lnL_len E id f t n
  · exact Nat.zero_le _
theorem few_jrn {an jn : Nat} {E : Nat → LEnt} {w : World} {jA : Option Addr} (h : fewB an jn E = true) (he : RowEnt w jA jn E) : an ≤ 1000000 ∧ jn ≤ 1000000 ∧ Jrn w jA jn E := by
  obtain ⟨h1, h2, h3⟩ := fewB_iff.1 h
  exact ⟨by omega, by omega, he, fun k hk => by have := (h3 k hk).1; omega⟩
set_option maxRecDepth 4000 in
set_option maxHeartbeats 2000000 in
theorem walk_makes (C : Array Value) (aA : Option Addr) (an ac : Nat) (jA : Option Addr) (jn jc : Nat) (hC : Bks C aA an ac jA jn jc) (a : Nat → LAcc) (E : Nat → LEnt) (hjc : jn ≤ jc) (x0 x1 x2 x3 : Int) (w : World) (hr : RowAcc w aA an a) (he : RowEnt w jA jn E) (ht : Tab w) :
    Calls Tryd.prog 3 #[.agg C, .agg #[.int .i64 x0, .int .i64 x1, .int .i64 x2, .int .i64 x3]] w fun e w' => e = .returned (.bool true) ∧ Below w.heap.size w w' := by
  have HW := hide (show (Tryd.prog.info? 33).map (·.size) = some C.size by rw [hC.size]; kernel_rfl)
  have HC := hide hC
  have HR := hide hr
  have HE := hide he
  have HT := hide ht
  clear hC hr he ht
  cases hf : fewB an jn E with
  | false =>
    have HF := hide hf
    clear hf
    go_enter Tryd.func3, Tryd.ntmps3
    go_wp2_with (with_reducible refine wpList_load_row rfl 33 (.tmp 2) rfl w.heap.size rfl 33 C (0, 0) _ (two_boxes _ _ _) Tryd.underlying33 rfl HW.out ?_)
    refine (few_any C aA an ac jA jn jc HC.out E _ (HE.out.below (by (repeat (first | (with_reducible exact Below.refl _ _) | (with_reducible assumption) | ((with_reducible refine Below.alloc ?_ ?_ _); (rotate_left); (first | omega | (simp <;> omega))) | ((with_reducible refine Below.setCell ?_ ?_ _); (rotate_left); (first | omega | (simp <;> omega))) | (with_reducible refine Below.drew ?_) | (with_reducible refine below_drewN ?_ _)))))).mono ?_
    rintro e w1 ⟨rfl, hb⟩
    rw [HF.out]
    have q1B : Below w.heap.size w w1 := (by refine Below.trans ?_ (hb.mono (by first | omega | (simp <;> omega))); (repeat (first | (with_reducible exact Below.refl _ _) | (with_reducible assumption) | ((with_reducible refine Below.alloc ?_ ?_ _); (rotate_left); (first | omega | (simp <;> omega))) | ((with_reducible refine Below.setCell ?_ ?_ _); (rotate_left); (first | omega | (simp <;> omega))) | (with_reducible refine Below.drew ?_) | (with_reducible refine below_drewN ?_ _))))
    have q1z := hb.size
    try simp at q1z
    have q1t : w.heap.size ≤ w1.heap.size := (by omega)
    have q1o : ∀ b o, b < w.heap.size → w1.cell? ⟨b, o, none⟩ = w.cell? ⟨b, o, none⟩ := fun b o h => q1B.cell (p := ⟨b, o, none⟩) h
    clear hb
    go_wp2_with fail
    refine (lives_any _ (HT.out.below q1B)).mono ?_
    rintro e w2 ⟨rfl, hb⟩
    go_wp2_with fail
    go_ret
    exact ⟨rfl, q1B.trans (hb.mono q1t)⟩
  | true =>
    obtain ⟨hn, hjn, _⟩ := few_jrn hf HE.out
    have HJ := hide (few_jrn hf HE.out).2.2
    have HF := hide hf
    clear hf
    obtain ⟨S, hS⟩ : ∃ S, S = mkS E jn (hasA a x0 an) x0 x1 x2 x3 := ⟨_, rfl⟩
    obtain ⟨R, hR⟩ : ∃ R, R = mkE (hasA a x0 an) x1 x2 x3 := ⟨_, rfl⟩
    have hl : S.ls.length ≤ 1000000 := Nat.le_trans (by rw [hS]; exact mkS_len ..) hjn
    have HM := hide (fun w1 h1 h2 => by have h := make_any C aA an ac jA jn jc HC.out a E x0 x1 x2 x3 hn hjn w1 h1 h2; rw [← hS, ← hR] at h; exact h)
    have HN := hide (fun w1 h1 h2 => by have h := rmake_any C aA an ac jA jn jc HC.out a E x0 x1 x2 x3 hn hjn hjc w1 h1 h2; rw [← hS, ← hR] at h; exact h)
    clear hS hR
    go_enter Tryd.func3, Tryd.ntmps3
    go_wp2_with (with_reducible refine wpList_load_row rfl 33 (.tmp 2) rfl w.heap.size rfl 33 C (0, 0) _ (two_boxes _ _ _) Tryd.underlying33 rfl HW.out ?_)
    refine (few_any C aA an ac jA jn jc HC.out E _ (HE.out.below (by (repeat (first | (with_reducible exact Below.refl _ _) | (with_reducible assumption) | ((with_reducible refine Below.alloc ?_ ?_ _); (rotate_left); (first | omega | (simp <;> omega))) | ((with_reducible refine Below.setCell ?_ ?_ _); (rotate_left); (first | omega | (simp <;> omega))) | (with_reducible refine Below.drew ?_) | (with_reducible refine below_drewN ?_ _)))))).mono ?_
    rintro e w1 ⟨rfl, hb⟩
    rw [HF.out]
    have X1 := hide ((hb.block w.heap.size (by simp; omega)).trans (two_boxes _ _ _))
    have q1B : Below w.heap.size w w1 := (by refine Below.trans ?_ (hb.mono (by first | omega | (simp <;> omega))); (repeat (first | (with_reducible exact Below.refl _ _) | (with_reducible assumption) | ((with_reducible refine Below.alloc ?_ ?_ _); (rotate_left); (first | omega | (simp <;> omega))) | ((with_reducible refine Below.setCell ?_ ?_ _); (rotate_left); (first | omega | (simp <;> omega))) | (with_reducible refine Below.drew ?_) | (with_reducible refine below_drewN ?_ _))))
    have q1z := hb.size
    try simp at q1z
    have q1t : w.heap.size ≤ w1.heap.size := (by omega)
    have q1s0 : w.heap.size + 1 < w1.heap.size := (by omega)
    have q1n0_0 : ¬ w1.heap.size = w.heap.size + 1 := (by omega)
    have q1n0_1 : ¬ w1.heap.size + 1 = w.heap.size + 1 := (by omega)
    have q1n0_2 : ¬ w1.heap.size + 2 = w.heap.size + 1 := (by omega)
    have q1c0_0 := hb.cell (p := ⟨w.heap.size + 1, 0, none⟩) (by first | omega | (simp <;> omega))
    simp [go_sem, *] at q1c0_0
    have q1c0_1 := hb.cell (p := ⟨w.heap.size + 1, 1, none⟩) (by first | omega | (simp <;> omega))
    simp [go_sem, *] at q1c0_1
    have q1c0_2 := hb.cell (p := ⟨w.heap.size + 1, 2, none⟩) (by first | omega | (simp <;> omega))
    simp [go_sem, *] at q1c0_2
    have q1c0_3 := hb.cell (p := ⟨w.heap.size + 1, 3, none⟩) (by first | omega | (simp <;> omega))
    simp [go_sem, *] at q1c0_3
    have q1f0 := fun o => hb.frozen (p := ⟨w.heap.size + 1, o, none⟩) (by first | omega | (simp <;> omega))
    simp [go_sem, *] at q1f0
    have q1o : ∀ b o, b < w.heap.size → w1.cell? ⟨b, o, none⟩ = w.cell? ⟨b, o, none⟩ := fun b o h => q1B.cell (p := ⟨b, o, none⟩) h
    clear hb
    have B1 := hide q1B
    go_wp2_with (with_reducible refine wpList_load_row rfl 33 (.tmp 2) rfl w.heap.size rfl 33 C (0, 0) _ X1.out Tryd.underlying33 rfl HW.out ?_)
    refine (HM.out _ (HR.out.below B1.out) (HJ.out.below B1.out)).mono ?_
    rintro e w2 ⟨A, c, rfl, hrow, hb⟩
    have HA := hide hrow
    have X2 := hide ((hb.block w.heap.size (by omega)).trans X1.out)
    clear hrow
    have q2B : Below w1.heap.size w1 w2 := (by refine Below.trans ?_ (hb.mono (by first | omega | (simp <;> omega))); (repeat (first | (with_reducible exact Below.refl _ _) | (with_reducible assumption) | ((with_reducible refine Below.alloc ?_ ?_ _); (rotate_left); (first | omega | (simp <;> omega))) | ((with_reducible refine Below.setCell ?_ ?_ _); (rotate_left); (first | omega | (simp <;> omega))) | (with_reducible refine Below.drew ?_) | (with_reducible refine below_drewN ?_ _))))
    have q2z := hb.size
    try simp at q2z
    have q2t : w1.heap.size ≤ w2.heap.size := (by omega)
    have q2s0 : w.heap.size + 1 < w2.heap.size := (by omega)
    have q2n0_0 : ¬ w2.heap.size = w.heap.size + 1 := (by omega)
    have q2n0_1 : ¬ w2.heap.size + 1 = w.heap.size + 1 := (by omega)
    have q2n0_2 : ¬ w2.heap.size + 2 = w.heap.size + 1 := (by omega)
    have q2c0_0 := hb.cell (p := ⟨w.heap.size + 1, 0, none⟩) (by first | omega | (simp <;> omega))
    simp [go_sem, *] at q2c0_0
    have q2c0_1 := hb.cell (p := ⟨w.heap.size + 1, 1, none⟩) (by first | omega | (simp <;> omega))
    simp [go_sem, *] at q2c0_1
    have q2c0_2 := hb.cell (p := ⟨w.heap.size + 1, 2, none⟩) (by first | omega | (simp <;> omega))
    simp [go_sem, *] at q2c0_2
    have q2c0_3 := hb.cell (p := ⟨w.heap.size + 1, 3, none⟩) (by first | omega | (simp <;> omega))
    simp [go_sem, *] at q2c0_3
    have q2f0 := fun o => hb.frozen (p := ⟨w.heap.size + 1, o, none⟩) (by first | omega | (simp <;> omega))
    simp [go_sem, *] at q2f0
    have q2o : ∀ b o, b < w1.heap.size → w2.cell? ⟨b, o, none⟩ = w1.cell? ⟨b, o, none⟩ := fun b o h => q2B.cell (p := ⟨b, o, none⟩) h
    clear hb q1o q1f0 q1c0_3 q1c0_2 q1c0_1 q1c0_0 q1s0 q1z q1B
    have B2 := hide q2B
    go_wp2_with (with_reducible refine wpList_load_row rfl 33 (.tmp 2) rfl w.heap.size rfl 33 C (0, 0) _ (blk_under X2.out) Tryd.underlying33 rfl HW.out ?_)
    refine (HN.out _ ((HR.out.below B1.out).below (B2.out.trans (by (repeat (first | (with_reducible exact Below.refl _ _) | (with_reducible assumption) | ((with_reducible refine Below.alloc ?_ ?_ _); (rotate_left); (first | omega | (simp <;> omega))) | ((with_reducible refine Below.setCell ?_ ?_ _); (rotate_left); (first | omega | (simp <;> omega))) | (with_reducible refine Below.drew ?_) | (with_reducible refine below_drewN ?_ _)))))) ((HJ.out.below B1.out).below (B2.out.trans (by (repeat (first | (with_reducible exact Below.refl _ _) | (with_reducible assumption) | ((with_reducible refine Below.alloc ?_ ?_ _); (rotate_left); (first | omega | (simp <;> omega))) | ((with_reducible refine Below.setCell ?_ ?_ _); (rotate_left); (first | omega | (simp <;> omega))) | (with_reducible refine Below.drew ?_) | (with_reducible refine below_drewN ?_ _))))))).mono ?_
    rintro e w3 ⟨A', c', rfl, hrow, hb⟩
    have HA' := hide hrow
    clear hrow
    have q3B : Below w2.heap.size w2 w3 := (by refine Below.trans ?_ (hb.mono (by first | omega | (simp <;> omega))); (repeat (first | (with_reducible exact Below.refl _ _) | (with_reducible assumption) | ((with_reducible refine Below.alloc ?_ ?_ _); (rotate_left); (first | omega | (simp <;> omega))) | ((with_reducible refine Below.setCell ?_ ?_ _); (rotate_left); (first | omega | (simp <;> omega))) | (with_reducible refine Below.drew ?_) | (with_reducible refine below_drewN ?_ _))))
    have q3z := hb.size
    try simp at q3z
    have q3t : w2.heap.size ≤ w3.heap.size := (by omega)
    have q3s0 : w2.heap.size < w3.heap.size := (by omega)
    have q3n0_0 : ¬ w3.heap.size = w2.heap.size := (by omega)
    have q3n0_1 : ¬ w3.heap.size + 1 = w2.heap.size := (by omega)
    have q3n0_2 : ¬ w3.heap.size + 2 = w2.heap.size := (by omega)
    have q3c0_0 := hb.cell (p := ⟨w2.heap.size, 0, none⟩) (by first | omega | (simp <;> omega))
    simp [go_sem, *] at q3c0_0
    have q3c0_1 := hb.cell (p := ⟨w2.heap.size, 1, none⟩) (by first | omega | (simp <;> omega))
    simp [go_sem, *] at q3c0_1
    have q3c0_2 := hb.cell (p := ⟨w2.heap.size, 2, none⟩) (by first | omega | (simp <;> omega))
    simp [go_sem, *] at q3c0_2
    have q3c0_3 := hb.cell (p := ⟨w2.heap.size, 3, none⟩) (by first | omega | (simp <;> omega))
    simp [go_sem, *] at q3c0_3
    have q3c0_4 := hb.cell (p := ⟨w2.heap.size, 4, none⟩) (by first | omega | (simp <;> omega))
    simp [go_sem, *] at q3c0_4
    have q3c0_5 := hb.cell (p := ⟨w2.heap.size, 5, none⟩) (by first | omega | (simp <;> omega))
    simp [go_sem, *] at q3c0_5
    have q3c0_6 := hb.cell (p := ⟨w2.heap.size, 6, none⟩) (by first | omega | (simp <;> omega))
    simp [go_sem, *] at q3c0_6
    have q3f0 := fun o => hb.frozen (p := ⟨w2.heap.size, o, none⟩) (by first | omega | (simp <;> omega))
    simp [go_sem, *] at q3f0
    have q3o : ∀ b o, b < w2.heap.size → w3.cell? ⟨b, o, none⟩ = w2.cell? ⟨b, o, none⟩ := fun b o h => q3B.cell (p := ⟨b, o, none⟩) h
    clear hb q2o q2f0 q2c0_3 q2c0_2 q2c0_1 q2c0_0 q2s0 q2z q2B
    have B3 := hide q3B
    go_wp2_with fail
    refine (same_eq S.ac S.no S.f S.t S.op S.cl A A' S.ls.length c c' (atP S.ls) hl _ (HA.out.below (B3.out.trans (by (repeat (first | (with_reducible exact Below.refl _ _) | (with_reducible assumption) | ((with_reducible refine Below.alloc ?_ ?_ _); (rotate_left); (first | omega | (simp <;> omega))) | ((with_reducible refine Below.setCell ?_ ?_ _); (rotate_left); (first | omega | (simp <;> omega))) | (with_reducible refine Below.drew ?_) | (with_reducible refine below_drewN ?_ _)))))) (HA'.out.below (by (repeat (first | (with_reducible exact Below.refl _ _) | (with_reducible assumption) | ((with_reducible refine Below.alloc ?_ ?_ _); (rotate_left); (first | omega | (simp <;> omega))) | ((with_reducible refine Below.setCell ?_ ?_ _); (rotate_left); (first | omega | (simp <;> omega))) | (with_reducible refine Below.drew ?_) | (with_reducible refine below_drewN ?_ _)))))).mono ?_
    rintro e w4 ⟨rfl, hb⟩
    have q4B : Below w3.heap.size w3 w4 := (by refine Below.trans ?_ (hb.mono (by first | omega | (simp <;> omega))); (repeat (first | (with_reducible exact Below.refl _ _) | (with_reducible assumption) | ((with_reducible refine Below.alloc ?_ ?_ _); (rotate_left); (first | omega | (simp <;> omega))) | ((with_reducible refine Below.setCell ?_ ?_ _); (rotate_left); (first | omega | (simp <;> omega))) | (with_reducible refine Below.drew ?_) | (with_reducible refine below_drewN ?_ _))))
    have q4z := hb.size
    try simp at q4z
    have q4t : w3.heap.size ≤ w4.heap.size := (by omega)
    have q4s0 : w2.heap.size < w4.heap.size := (by omega)
    have q4n0_0 : ¬ w4.heap.size = w2.heap.size := (by omega)
    have q4n0_1 : ¬ w4.heap.size + 1 = w2.heap.size := (by omega)
    have q4n0_2 : ¬ w4.heap.size + 2 = w2.heap.size := (by omega)
    have q4c0_0 := hb.cell (p := ⟨w2.heap.size, 0, none⟩) (by first | omega | (simp <;> omega))
    simp [go_sem, *] at q4c0_0
    have q4c0_1 := hb.cell (p := ⟨w2.heap.size, 1, none⟩) (by first | omega | (simp <;> omega))
    simp [go_sem, *] at q4c0_1
    have q4c0_2 := hb.cell (p := ⟨w2.heap.size, 2, none⟩) (by first | omega | (simp <;> omega))
    simp [go_sem, *] at q4c0_2
    have q4c0_3 := hb.cell (p := ⟨w2.heap.size, 3, none⟩) (by first | omega | (simp <;> omega))
    simp [go_sem, *] at q4c0_3
    have q4c0_4 := hb.cell (p := ⟨w2.heap.size, 4, none⟩) (by first | omega | (simp <;> omega))
    simp [go_sem, *] at q4c0_4
    have q4c0_5 := hb.cell (p := ⟨w2.heap.size, 5, none⟩) (by first | omega | (simp <;> omega))
    simp [go_sem, *] at q4c0_5
    have q4c0_6 := hb.cell (p := ⟨w2.heap.size, 6, none⟩) (by first | omega | (simp <;> omega))
    simp [go_sem, *] at q4c0_6
    have q4f0 := fun o => hb.frozen (p := ⟨w2.heap.size, o, none⟩) (by first | omega | (simp <;> omega))
    simp [go_sem, *] at q4f0
    have q4o : ∀ b o, b < w3.heap.size → w4.cell? ⟨b, o, none⟩ = w3.cell? ⟨b, o, none⟩ := fun b o h => q4B.cell (p := ⟨b, o, none⟩) h
    clear hb q3o q3f0 q3c0_6 q3c0_5 q3c0_4 q3c0_3 q3c0_2 q3c0_1 q3c0_0 q3s0 q3z q3B
    have B4 := hide q4B
    go_wp2_with fail
    refine (lives_any _ (HT.out.below (B1.out.trans ((B2.out.mono q1t).trans ((B3.out.mono (by omega)).trans (B4.out.mono (by omega))))))).mono ?_
    rintro e w5 ⟨rfl, hb⟩
    go_wp2_with fail
    go_ret
    exact ⟨rfl, B1.out.trans ((B2.out.mono q1t).trans ((B3.out.mono (by omega)).trans ((B4.out.mono (by omega)).trans (hb.mono (by omega)))))⟩
end Go.Proofs.YtodfpfbcjiganaaDoor
