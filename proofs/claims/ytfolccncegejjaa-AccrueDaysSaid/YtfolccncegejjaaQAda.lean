/- Texts laid together: Ada. -/
import Derived.Test.YtfolccncegejjaaQAdH
import Derived.Test.YtfolccncegejjaaQAcL
namespace Go.Proofs.Ytfolccncegejjaa
set_option maxRecDepth 4000
set_option linter.unusedSimpArgs false
set_option linter.unusedVariables false
open Go.RowKit
set_option maxRecDepth 8000 in
set_option maxHeartbeats 8000000 in
theorem lawDays_any (B : LBk) (id day : Int) (w : World) (hA : BkArg w B) : Calls Try.prog 3 #[.agg B.C, .int .i64 id, .int .i64 day] w fun e w' => e = .returned (.bool true) ∧ Below w.heap.size w w' := by
  have HA := hide hA
  have hs := hA.bks.size
  have HS := hide (show (Try.prog.info? 33).map (·.size) = some B.C.size by rw [hs]; kernel_rfl)
  have HF := hide (fun h => few_ok hA h)
  obtain ⟨b, hb0⟩ : ∃ b, b = fewB B := ⟨_, rfl⟩
  have HFW := hide (fun W h => by have t := few_any B W h; rw [← hb0] at t; exact t)
  cases b with
  | false =>
    clear hA hs HF hb0
    go_enter Try.func3, Try.ntmps3
    go_wp2_with (with_reducible refine wpList_load_row rfl 33 (.tmp 3) rfl w.heap.size rfl 33 B.C (0, 0) _ (blk_new rfl) Try.underlying33 rfl HS.out ?_)
    refine (HFW.out _ (HA.out.below (by (repeat (first | (with_reducible first | exact Below.refl _ _ | assumption | refine Below.drew ?_ | refine below_drewN ?_ _) | ((with_reducible first | refine Below.alloc ?_ ?_ _ | refine Below.setCell ?_ ?_ _); rotate_left; (first | omega | (simp <;> omega)))))))).mono ?_
    rintro e w1 ⟨rfl, hb⟩
    have q1B : Below w.heap.size w w1 := (by refine Below.trans ?_ (hb.mono (by first | omega | (simp <;> omega))); (repeat (first | (with_reducible first | exact Below.refl _ _ | assumption | refine Below.drew ?_ | refine below_drewN ?_ _) | ((with_reducible first | refine Below.alloc ?_ ?_ _ | refine Below.setCell ?_ ?_ _); rotate_left; (first | omega | (simp <;> omega))))))
    have q1z := hb.size
    try simp at q1z
    have q1t : w.heap.size ≤ w1.heap.size := (by omega)
    have q1o : ∀ b o, b < w.heap.size → w1.cell? ⟨b, o, none⟩ = w.cell? ⟨b, o, none⟩ := fun b o h => q1B.cell (p := ⟨b, o, none⟩) h
    clear hb
    go_wp2_with fail
    refine (lives_any _).mono ?_
    rintro e w2 ⟨rfl, hb⟩
    have q2B : Below w.heap.size w w2 := (by refine Below.trans ?_ (hb.mono (by first | omega | (simp <;> omega))); (repeat (first | (with_reducible first | exact Below.refl _ _ | assumption | refine Below.drew ?_ | refine below_drewN ?_ _) | ((with_reducible first | refine Below.alloc ?_ ?_ _ | refine Below.setCell ?_ ?_ _); rotate_left; (first | omega | (simp <;> omega))))))
    have q2z := hb.size
    try simp at q2z
    have q2t : w.heap.size ≤ w2.heap.size := (by omega)
    have q2o : ∀ b o, b < w.heap.size → w2.cell? ⟨b, o, none⟩ = w.cell? ⟨b, o, none⟩ := fun b o h => q2B.cell (p := ⟨b, o, none⟩) h
    clear hb q1o q1z q1B
    go_wp2_with fail
    go_ret
    exact ⟨rfl, q2B⟩
  | true =>
    have HB := hide (HF.out hb0.symm).1
    have HW := hide (HF.out hb0.symm).2
    clear hA hs HF hb0
    obtain ⟨V, hV⟩ : ∃ x, x = dayV B id day := ⟨_, rfl⟩
    obtain ⟨E, hE⟩ : ∃ x, x = dayE B id day := ⟨_, rfl⟩
    have HD1 := hide (fun W h => by have t := day_any B HB.out id day W h; unfold DayRet at t; rw [← hV, ← hE] at t; exact t)
    have HD2 := hide (fun W h => by have t := rday_any B HB.out id day W h; unfold DayRet at t; rw [← hV, ← hE] at t; exact t)
    clear hV hE
    go_enter Try.func3, Try.ntmps3
    go_wp2_with (with_reducible refine wpList_load_row rfl 33 (.tmp 3) rfl w.heap.size rfl 33 B.C (0, 0) _ (blk_new rfl) Try.underlying33 rfl HS.out ?_)
    refine (HFW.out _ (HA.out.below (by (repeat (first | (with_reducible first | exact Below.refl _ _ | assumption | refine Below.drew ?_ | refine below_drewN ?_ _) | ((with_reducible first | refine Below.alloc ?_ ?_ _ | refine Below.setCell ?_ ?_ _); rotate_left; (first | omega | (simp <;> omega)))))))).mono ?_
    rintro e w1 ⟨rfl, hb⟩
    have X1 := hide (blk_below hb (by simp) (blk_new (k := w.heap.size) rfl))
    have q1B : Below w.heap.size w w1 := (by refine Below.trans ?_ (hb.mono (by first | omega | (simp <;> omega))); (repeat (first | (with_reducible first | exact Below.refl _ _ | assumption | refine Below.drew ?_ | refine below_drewN ?_ _) | ((with_reducible first | refine Below.alloc ?_ ?_ _ | refine Below.setCell ?_ ?_ _); rotate_left; (first | omega | (simp <;> omega))))))
    have q1z := hb.size
    try simp at q1z
    have q1t : w.heap.size ≤ w1.heap.size := (by omega)
    have q1o : ∀ b o, b < w.heap.size → w1.cell? ⟨b, o, none⟩ = w.cell? ⟨b, o, none⟩ := fun b o h => q1B.cell (p := ⟨b, o, none⟩) h
    clear hb
    go_wp2_with (with_reducible refine wpList_load_row rfl 33 (.tmp 3) rfl w.heap.size rfl 33 B.C (0, 0) _ (X1.out) Try.underlying33 rfl HS.out ?_)
    refine (HD1.out _ (HW.out.below q1B)).mono ?_
    rintro e w2 ⟨rfl, hb⟩
    have X2 := hide (blk_below hb (by omega) X1.out)
    have HN := hide (show w.heap.size < w1.heap.size by omega)
    have q2B : Below w.heap.size w w2 := (by refine Below.trans ?_ (hb.mono (by first | omega | (simp <;> omega))); (repeat (first | (with_reducible first | exact Below.refl _ _ | assumption | refine Below.drew ?_ | refine below_drewN ?_ _) | ((with_reducible first | refine Below.alloc ?_ ?_ _ | refine Below.setCell ?_ ?_ _); rotate_left; (first | omega | (simp <;> omega))))))
    have q2z := hb.size
    try simp at q2z
    have q2t : w.heap.size ≤ w2.heap.size := (by omega)
    have q2o : ∀ b o, b < w.heap.size → w2.cell? ⟨b, o, none⟩ = w.cell? ⟨b, o, none⟩ := fun b o h => q2B.cell (p := ⟨b, o, none⟩) h
    clear hb q1o q1z q1B
    have HN2 := hide (show w.heap.size ≠ w2.heap.size by have := HN.out; omega)
    go_wp2_with (with_reducible refine wpList_load_row rfl 33 (.tmp 3) rfl w.heap.size rfl 33 B.C (0, 0) _ (by repeat (first | exact X2.out | refine blk_setOther HN2.out ?_ | refine blk_under ?_)) Try.underlying33 rfl HS.out ?_)
    refine (HD2.out _ (HW.out.below (Below.trans q2B (by (repeat (first | (with_reducible first | exact Below.refl _ _ | assumption | refine Below.drew ?_ | refine below_drewN ?_ _) | ((with_reducible first | refine Below.alloc ?_ ?_ _ | refine Below.setCell ?_ ?_ _); rotate_left; (first | omega | (simp <;> omega))))))))).mono ?_
    rintro e w3 ⟨rfl, hb⟩
    have q3B : Below w.heap.size w w3 := (by refine Below.trans ?_ (hb.mono (by first | omega | (simp <;> omega))); (repeat (first | (with_reducible first | exact Below.refl _ _ | assumption | refine Below.drew ?_ | refine below_drewN ?_ _) | ((with_reducible first | refine Below.alloc ?_ ?_ _ | refine Below.setCell ?_ ?_ _); rotate_left; (first | omega | (simp <;> omega))))))
    have q3z := hb.size
    try simp at q3z
    have q3t : w.heap.size ≤ w3.heap.size := (by omega)
    have q3s0 : w2.heap.size < w3.heap.size := (by omega)
    have q3n0_0 : ¬ w3.heap.size = w2.heap.size := (by omega)
    have q3n0_1 : ¬ w3.heap.size + 1 = w2.heap.size := (by omega)
    have q3n0_2 : ¬ w3.heap.size + 2 = w2.heap.size := (by omega)
    have q3c0_0 := hb.cell (p := ⟨w2.heap.size, 0, none⟩) (by first | omega | (simp <;> omega))
    simp [go_sem, *] at q3c0_0
    have q3c0_1 := hb.cell (p := ⟨w2.heap.size, 1, none⟩) (by first | omega | (simp <;> omega))
    simp [go_sem, *] at q3c0_1
    have q3c0_2 := hb.cell (p := ⟨w2.heap.size, 2, none⟩) (by first | omega | (simp <;> omega))
    simp [go_sem, *] at q3c0_2
    have q3c0_3 := hb.cell (p := ⟨w2.heap.size, 3, none⟩) (by first | omega | (simp <;> omega))
    simp [go_sem, *] at q3c0_3
    have q3c0_4 := hb.cell (p := ⟨w2.heap.size, 4, none⟩) (by first | omega | (simp <;> omega))
    simp [go_sem, *] at q3c0_4
    have q3c0_5 := hb.cell (p := ⟨w2.heap.size, 5, none⟩) (by first | omega | (simp <;> omega))
    simp [go_sem, *] at q3c0_5
    have q3c0_6 := hb.cell (p := ⟨w2.heap.size, 6, none⟩) (by first | omega | (simp <;> omega))
    simp [go_sem, *] at q3c0_6
    have q3f0 := fun o => hb.frozen (p := ⟨w2.heap.size, o, none⟩) (by first | omega | (simp <;> omega))
    simp [go_sem, *] at q3f0
    have q3o : ∀ b o, b < w.heap.size → w3.cell? ⟨b, o, none⟩ = w.cell? ⟨b, o, none⟩ := fun b o h => q3B.cell (p := ⟨b, o, none⟩) h
    clear hb q2o q2z q2B
    go_wp2_with fail
    refine (lives_any _).mono ?_
    rintro e w4 ⟨rfl, hb⟩
    have q4B : Below w.heap.size w w4 := (by refine Below.trans ?_ (hb.mono (by first | omega | (simp <;> omega))); (repeat (first | (with_reducible first | exact Below.refl _ _ | assumption | refine Below.drew ?_ | refine below_drewN ?_ _) | ((with_reducible first | refine Below.alloc ?_ ?_ _ | refine Below.setCell ?_ ?_ _); rotate_left; (first | omega | (simp <;> omega))))))
    have q4z := hb.size
    try simp at q4z
    have q4t : w.heap.size ≤ w4.heap.size := (by omega)
    have q4o : ∀ b o, b < w.heap.size → w4.cell? ⟨b, o, none⟩ = w.cell? ⟨b, o, none⟩ := fun b o h => q4B.cell (p := ⟨b, o, none⟩) h
    clear hb q3o q3f0 q3c0_6 q3c0_5 q3c0_4 q3c0_3 q3c0_2 q3c0_1 q3c0_0 q3s0 q3z q3B
    go_wp2_with fail
    go_ret
    exact ⟨rfl, q4B⟩
end Go.Proofs.Ytfolccncegejjaa
