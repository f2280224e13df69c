/- Texts laid together: Adc. -/
import Derived.Test.YtfolccncegejjaaQAdH
namespace Go.Proofs.Ytfolccncegejjaa
set_option maxRecDepth 4000
set_option linter.unusedSimpArgs false
set_option linter.unusedVariables false
open Go.RowKit
set_option maxRecDepth 8000 in
set_option maxHeartbeats 8000000 in
theorem lawSides_any (B : LBk) (id day : Int) (w : World) (hA : BkArg w B) : Calls Try.prog 8 #[.agg B.C, .int .i64 id, .int .i64 day] w fun e w' => e = .returned (.bool true) ∧ Below w.heap.size w w' := by
  have HA := hide hA
  have hs := hA.bks.size
  have HS := hide (show (Try.prog.info? 33).map (·.size) = some B.C.size by rw [hs]; kernel_rfl)
  have HF := hide (fun h => few_ok hA h)
  obtain ⟨b, hb0⟩ : ∃ b, b = fewB B := ⟨_, rfl⟩
  have HFW := hide (fun W h => by have t := few_any B W h; rw [← hb0] at t; exact t)
  cases b with
  | false =>
    clear hA hs HF hb0
    go_enter Try.func8, Try.ntmps8
    go_wp2_with (with_reducible refine wpList_load_row rfl 33 (.tmp 3) rfl w.heap.size rfl 33 B.C (0, 0) _ (blk_new rfl) Try.underlying33 rfl HS.out ?_)
    refine (HFW.out _ (HA.out.below (by (repeat (first | (with_reducible first | exact Below.refl _ _ | assumption | refine Below.drew ?_ | refine below_drewN ?_ _) | ((with_reducible first | refine Below.alloc ?_ ?_ _ | refine Below.setCell ?_ ?_ _); rotate_left; (first | omega | (simp <;> omega)))))))).mono ?_
    rintro e w1 ⟨rfl, hb⟩
    have q1B : Below w.heap.size w w1 := (by refine Below.trans ?_ (hb.mono (by first | omega | (simp <;> omega))); (repeat (first | (with_reducible first | exact Below.refl _ _ | assumption | refine Below.drew ?_ | refine below_drewN ?_ _) | ((with_reducible first | refine Below.alloc ?_ ?_ _ | refine Below.setCell ?_ ?_ _); rotate_left; (first | omega | (simp <;> omega))))))
    have q1z := hb.size
    try simp at q1z
    have q1t : w.heap.size ≤ w1.heap.size := (by omega)
    have q1o : ∀ b o, b < w.heap.size → w1.cell? ⟨b, o, none⟩ = w.cell? ⟨b, o, none⟩ := fun b o h => q1B.cell (p := ⟨b, o, none⟩) h
    clear hb
    go_wp2_with fail
    refine (lives_any _).mono ?_
    rintro e w2 ⟨rfl, hb⟩
    have q2B : Below w.heap.size w w2 := (by refine Below.trans ?_ (hb.mono (by first | omega | (simp <;> omega))); (repeat (first | (with_reducible first | exact Below.refl _ _ | assumption | refine Below.drew ?_ | refine below_drewN ?_ _) | ((with_reducible first | refine Below.alloc ?_ ?_ _ | refine Below.setCell ?_ ?_ _); rotate_left; (first | omega | (simp <;> omega))))))
    have q2z := hb.size
    try simp at q2z
    have q2t : w.heap.size ≤ w2.heap.size := (by omega)
    have q2o : ∀ b o, b < w.heap.size → w2.cell? ⟨b, o, none⟩ = w.cell? ⟨b, o, none⟩ := fun b o h => q2B.cell (p := ⟨b, o, none⟩) h
    clear hb q1o q1z q1B
    go_wp2_with fail
    go_ret
    exact ⟨rfl, q2B⟩
  | true =>
    have HB := hide (HF.out hb0.symm).1
    have HW := hide (HF.out hb0.symm).2
    clear hA hs HF hb0
    obtain ⟨hE, hV⟩ | ⟨hE, hV⟩ := day_cases B id day
    · obtain ⟨bal, cr, db, hVV, hok, hac2⟩ := acr_is B id day
      rw [hVV] at hV
      clear hVV
      have HD0 := hide (fun W h => by have t := day_any B HB.out id day W h; unfold DayRet at t; rw [hE, hV] at t; exact t)
      obtain ⟨act, ha⟩ : ∃ a, a = actB B id day := ⟨_, rfl⟩
      have HA1 := hide (fun W h => by have t := ractive_any B HB.out id day W h; rw [← ha] at t; exact t)
      rw [← ha] at hac2
      have hc0 := (hi_nonneg hok.c0 hok.c1).1
      have hd0 := (hi_nonneg hok.d0 hok.d1).1
      have HO := hide hok
      have hcb : bal ≤ 0 → hiW cr = 0 ∧ loW cr = 0 := fun h => by have t : cr = 0 := HO.out.cb h; rw [t]; exact ⟨by decide +kernel, by decide +kernel⟩
      have hdb : 0 ≤ bal → hiW db = 0 ∧ loW db = 0 := fun h => by have t : db = 0 := HO.out.db h; rw [t]; exact ⟨by decide +kernel, by decide +kernel⟩
      have HD1 := hide (fun W h => by have t := HD0.out W h; unfold AcrV at t; exact t)
      simp only at HD1 hac2
      clear HD0 hok HO hE hV ha
      generalize hiW cr = hc at *
      generalize loW cr = lc at *
      generalize hiW db = hd at *
      generalize loW db = ld at *
      clear cr db
      by_cases c1 : 0 < bal
      · obtain ⟨rfl, rfl⟩ := hdb (by omega)
        obtain rfl : act = true := by rcases hac2 with h | h; exact h; omega
        have hb0 : ¬ bal = 0 := by omega
        clear hcb hdb hac2
        by_cases z1 : hc = 0
        · subst z1
          by_cases z2 : lc = 0
          · subst z2
            go_enter Try.func8, Try.ntmps8
            go_wp2_with (with_reducible refine wpList_load_row rfl 33 (.tmp 3) rfl w.heap.size rfl 33 B.C (0, 0) _ (blk_new rfl) Try.underlying33 rfl HS.out ?_)
            refine (HFW.out _ (HA.out.below (by (repeat (first | (with_reducible first | exact Below.refl _ _ | assumption | refine Below.drew ?_ | refine below_drewN ?_ _) | ((with_reducible first | refine Below.alloc ?_ ?_ _ | refine Below.setCell ?_ ?_ _); rotate_left; (first | omega | (simp <;> omega)))))))).mono ?_
            rintro e w1 ⟨rfl, hb⟩
            have X1 := hide (blk_below hb (by simp) (blk_new (k := w.heap.size) rfl))
            have q1B : Below w.heap.size w w1 := (by refine Below.trans ?_ (hb.mono (by first | omega | (simp <;> omega))); (repeat (first | (with_reducible first | exact Below.refl _ _ | assumption | refine Below.drew ?_ | refine below_drewN ?_ _) | ((with_reducible first | refine Below.alloc ?_ ?_ _ | refine Below.setCell ?_ ?_ _); rotate_left; (first | omega | (simp <;> omega))))))
            have q1z := hb.size
            try simp at q1z
            have q1t : w.heap.size ≤ w1.heap.size := (by omega)
            have q1o : ∀ b o, b < w.heap.size → w1.cell? ⟨b, o, none⟩ = w.cell? ⟨b, o, none⟩ := fun b o h => q1B.cell (p := ⟨b, o, none⟩) h
            clear hb
            go_wp2_with (with_reducible refine wpList_load_row rfl 33 (.tmp 3) rfl w.heap.size rfl 33 B.C (0, 0) _ (X1.out) Try.underlying33 rfl HS.out ?_)
            refine (HD1.out _ (HW.out.below q1B)).mono ?_
            rintro e w2 ⟨rfl, hb⟩
            have X2 := hide (blk_below hb (by omega) X1.out)
            have HN := hide (show w.heap.size < w1.heap.size by omega)
            have q2B : Below w.heap.size w w2 := (by refine Below.trans ?_ (hb.mono (by first | omega | (simp <;> omega))); (repeat (first | (with_reducible first | exact Below.refl _ _ | assumption | refine Below.drew ?_ | refine below_drewN ?_ _) | ((with_reducible first | refine Below.alloc ?_ ?_ _ | refine Below.setCell ?_ ?_ _); rotate_left; (first | omega | (simp <;> omega))))))
            have q2z := hb.size
            try simp at q2z
            have q2t : w.heap.size ≤ w2.heap.size := (by omega)
            have q2o : ∀ b o, b < w.heap.size → w2.cell? ⟨b, o, none⟩ = w.cell? ⟨b, o, none⟩ := fun b o h => q2B.cell (p := ⟨b, o, none⟩) h
            clear hb q1o q1z q1B
            have HN2 := hide (show w.heap.size ≠ w2.heap.size by have := HN.out; omega)
            go_wp2_with (with_reducible refine wpList_load_row rfl 33 (.tmp 3) rfl w.heap.size rfl 33 B.C (0, 0) _ (by repeat (first | exact X2.out | refine blk_setOther HN2.out ?_ | refine blk_under ?_)) Try.underlying33 rfl HS.out ?_)
            refine (HA1.out _ (HW.out.below (Below.trans q2B (by (repeat (first | (with_reducible first | exact Below.refl _ _ | assumption | refine Below.drew ?_ | refine below_drewN ?_ _) | ((with_reducible first | refine Below.alloc ?_ ?_ _ | refine Below.setCell ?_ ?_ _); rotate_left; (first | omega | (simp <;> omega))))))))).mono ?_
            rintro e w3 ⟨rfl, hb⟩
            have q3B : Below w.heap.size w w3 := (by refine Below.trans ?_ (hb.mono (by first | omega | (simp <;> omega))); (repeat (first | (with_reducible first | exact Below.refl _ _ | assumption | refine Below.drew ?_ | refine below_drewN ?_ _) | ((with_reducible first | refine Below.alloc ?_ ?_ _ | refine Below.setCell ?_ ?_ _); rotate_left; (first | omega | (simp <;> omega))))))
            have q3z := hb.size
            try simp at q3z
            have q3t : w.heap.size ≤ w3.heap.size := (by omega)
            have q3s0 : w2.heap.size < w3.heap.size := (by omega)
            have q3n0_0 : ¬ w3.heap.size = w2.heap.size := (by omega)
            have q3n0_1 : ¬ w3.heap.size + 1 = w2.heap.size := (by omega)
            have q3n0_2 : ¬ w3.heap.size + 2 = w2.heap.size := (by omega)
            have q3c0_0 := hb.cell (p := ⟨w2.heap.size, 0, none⟩) (by first | omega | (simp <;> omega))
            simp [go_sem, *] at q3c0_0
            have q3c0_1 := hb.cell (p := ⟨w2.heap.size, 1, none⟩) (by first | omega | (simp <;> omega))
            simp [go_sem, *] at q3c0_1
            have q3c0_2 := hb.cell (p := ⟨w2.heap.size, 2, none⟩) (by first | omega | (simp <;> omega))
            simp [go_sem, *] at q3c0_2
            have q3c0_3 := hb.cell (p := ⟨w2.heap.size, 3, none⟩) (by first | omega | (simp <;> omega))
            simp [go_sem, *] at q3c0_3
            have q3c0_4 := hb.cell (p := ⟨w2.heap.size, 4, none⟩) (by first | omega | (simp <;> omega))
            simp [go_sem, *] at q3c0_4
            have q3c0_5 := hb.cell (p := ⟨w2.heap.size, 5, none⟩) (by first | omega | (simp <;> omega))
            simp [go_sem, *] at q3c0_5
            have q3c0_6 := hb.cell (p := ⟨w2.heap.size, 6, none⟩) (by first | omega | (simp <;> omega))
            simp [go_sem, *] at q3c0_6
            have q3f0 := fun o => hb.frozen (p := ⟨w2.heap.size, o, none⟩) (by first | omega | (simp <;> omega))
            simp [go_sem, *] at q3f0
            have q3o : ∀ b o, b < w.heap.size → w3.cell? ⟨b, o, none⟩ = w.cell? ⟨b, o, none⟩ := fun b o h => q3B.cell (p := ⟨b, o, none⟩) h
            clear hb q2o q2z q2B
            go_wp2_with fail
            refine (lives_any _).mono ?_
            rintro e w4 ⟨rfl, hb⟩
            have q4B : Below w.heap.size w w4 := (by refine Below.trans ?_ (hb.mono (by first | omega | (simp <;> omega))); (repeat (first | (with_reducible first | exact Below.refl _ _ | assumption | refine Below.drew ?_ | refine below_drewN ?_ _) | ((with_reducible first | refine Below.alloc ?_ ?_ _ | refine Below.setCell ?_ ?_ _); rotate_left; (first | omega | (simp <;> omega))))))
            have q4z := hb.size
            try simp at q4z
            have q4t : w.heap.size ≤ w4.heap.size := (by omega)
            have q4o : ∀ b o, b < w.heap.size → w4.cell? ⟨b, o, none⟩ = w.cell? ⟨b, o, none⟩ := fun b o h => q4B.cell (p := ⟨b, o, none⟩) h
            clear hb q3o q3f0 q3c0_6 q3c0_5 q3c0_4 q3c0_3 q3c0_2 q3c0_1 q3c0_0 q3s0 q3z q3B
            go_wp2_with fail
            go_ret
            exact ⟨rfl, q4B⟩
          · go_enter Try.func8, Try.ntmps8
            go_wp2_with (with_reducible refine wpList_load_row rfl 33 (.tmp 3) rfl w.heap.size rfl 33 B.C (0, 0) _ (blk_new rfl) Try.underlying33 rfl HS.out ?_)
            refine (HFW.out _ (HA.out.below (by (repeat (first | (with_reducible first | exact Below.refl _ _ | assumption | refine Below.drew ?_ | refine below_drewN ?_ _) | ((with_reducible first | refine Below.alloc ?_ ?_ _ | refine Below.setCell ?_ ?_ _); rotate_left; (first | omega | (simp <;> omega)))))))).mono ?_
            rintro e w1 ⟨rfl, hb⟩
            have X1 := hide (blk_below hb (by simp) (blk_new (k := w.heap.size) rfl))
            have q1B : Below w.heap.size w w1 := (by refine Below.trans ?_ (hb.mono (by first | omega | (simp <;> omega))); (repeat (first | (with_reducible first | exact Below.refl _ _ | assumption | refine Below.drew ?_ | refine below_drewN ?_ _) | ((with_reducible first | refine Below.alloc ?_ ?_ _ | refine Below.setCell ?_ ?_ _); rotate_left; (first | omega | (simp <;> omega))))))
            have q1z := hb.size
            try simp at q1z
            have q1t : w.heap.size ≤ w1.heap.size := (by omega)
            have q1o : ∀ b o, b < w.heap.size → w1.cell? ⟨b, o, none⟩ = w.cell? ⟨b, o, none⟩ := fun b o h => q1B.cell (p := ⟨b, o, none⟩) h
            clear hb
            go_wp2_with (with_reducible refine wpList_load_row rfl 33 (.tmp 3) rfl w.heap.size rfl 33 B.C (0, 0) _ (X1.out) Try.underlying33 rfl HS.out ?_)
            refine (HD1.out _ (HW.out.below q1B)).mono ?_
            rintro e w2 ⟨rfl, hb⟩
            have X2 := hide (blk_below hb (by omega) X1.out)
            have HN := hide (show w.heap.size < w1.heap.size by omega)
            have q2B : Below w.heap.size w w2 := (by refine Below.trans ?_ (hb.mono (by first | omega | (simp <;> omega))); (repeat (first | (with_reducible first | exact Below.refl _ _ | assumption | refine Below.drew ?_ | refine below_drewN ?_ _) | ((with_reducible first | refine Below.alloc ?_ ?_ _ | refine Below.setCell ?_ ?_ _); rotate_left; (first | omega | (simp <;> omega))))))
            have q2z := hb.size
            try simp at q2z
            have q2t : w.heap.size ≤ w2.heap.size := (by omega)
            have q2o : ∀ b o, b < w.heap.size → w2.cell? ⟨b, o, none⟩ = w.cell? ⟨b, o, none⟩ := fun b o h => q2B.cell (p := ⟨b, o, none⟩) h
            clear hb q1o q1z q1B
            have HN2 := hide (show w.heap.size ≠ w2.heap.size by have := HN.out; omega)
            go_wp2_with (with_reducible refine wpList_load_row rfl 33 (.tmp 3) rfl w.heap.size rfl 33 B.C (0, 0) _ (by repeat (first | exact X2.out | refine blk_setOther HN2.out ?_ | refine blk_under ?_)) Try.underlying33 rfl HS.out ?_)
            refine (HA1.out _ (HW.out.below (Below.trans q2B (by (repeat (first | (with_reducible first | exact Below.refl _ _ | assumption | refine Below.drew ?_ | refine below_drewN ?_ _) | ((with_reducible first | refine Below.alloc ?_ ?_ _ | refine Below.setCell ?_ ?_ _); rotate_left; (first | omega | (simp <;> omega))))))))).mono ?_
            rintro e w3 ⟨rfl, hb⟩
            have q3B : Below w.heap.size w w3 := (by refine Below.trans ?_ (hb.mono (by first | omega | (simp <;> omega))); (repeat (first | (with_reducible first | exact Below.refl _ _ | assumption | refine Below.drew ?_ | refine below_drewN ?_ _) | ((with_reducible first | refine Below.alloc ?_ ?_ _ | refine Below.setCell ?_ ?_ _); rotate_left; (first | omega | (simp <;> omega))))))
            have q3z := hb.size
            try simp at q3z
            have q3t : w.heap.size ≤ w3.heap.size := (by omega)
            have q3s0 : w2.heap.size < w3.heap.size := (by omega)
            have q3n0_0 : ¬ w3.heap.size = w2.heap.size := (by omega)
            have q3n0_1 : ¬ w3.heap.size + 1 = w2.heap.size := (by omega)
            have q3n0_2 : ¬ w3.heap.size + 2 = w2.heap.size := (by omega)
            have q3c0_0 := hb.cell (p := ⟨w2.heap.size, 0, none⟩) (by first | omega | (simp <;> omega))
            simp [go_sem, *] at q3c0_0
            have q3c0_1 := hb.cell (p := ⟨w2.heap.size, 1, none⟩) (by first | omega | (simp <;> omega))
            simp [go_sem, *] at q3c0_1
            have q3c0_2 := hb.cell (p := ⟨w2.heap.size, 2, none⟩) (by first | omega | (simp <;> omega))
            simp [go_sem, *] at q3c0_2
            have q3c0_3 := hb.cell (p := ⟨w2.heap.size, 3, none⟩) (by first | omega | (simp <;> omega))
            simp [go_sem, *] at q3c0_3
            have q3c0_4 := hb.cell (p := ⟨w2.heap.size, 4, none⟩) (by first | omega | (simp <;> omega))
            simp [go_sem, *] at q3c0_4
            have q3c0_5 := hb.cell (p := ⟨w2.heap.size, 5, none⟩) (by first | omega | (simp <;> omega))
            simp [go_sem, *] at q3c0_5
            have q3c0_6 := hb.cell (p := ⟨w2.heap.size, 6, none⟩) (by first | omega | (simp <;> omega))
            simp [go_sem, *] at q3c0_6
            have q3f0 := fun o => hb.frozen (p := ⟨w2.heap.size, o, none⟩) (by first | omega | (simp <;> omega))
            simp [go_sem, *] at q3f0
            have q3o : ∀ b o, b < w.heap.size → w3.cell? ⟨b, o, none⟩ = w.cell? ⟨b, o, none⟩ := fun b o h => q3B.cell (p := ⟨b, o, none⟩) h
            clear hb q2o q2z q2B
            go_wp2_with fail
            refine (lives_any _).mono ?_
            rintro e w4 ⟨rfl, hb⟩
            have q4B : Below w.heap.size w w4 := (by refine Below.trans ?_ (hb.mono (by first | omega | (simp <;> omega))); (repeat (first | (with_reducible first | exact Below.refl _ _ | assumption | refine Below.drew ?_ | refine below_drewN ?_ _) | ((with_reducible first | refine Below.alloc ?_ ?_ _ | refine Below.setCell ?_ ?_ _); rotate_left; (first | omega | (simp <;> omega))))))
            have q4z := hb.size
            try simp at q4z
            have q4t : w.heap.size ≤ w4.heap.size := (by omega)
            have q4o : ∀ b o, b < w.heap.size → w4.cell? ⟨b, o, none⟩ = w.cell? ⟨b, o, none⟩ := fun b o h => q4B.cell (p := ⟨b, o, none⟩) h
            clear hb q3o q3f0 q3c0_6 q3c0_5 q3c0_4 q3c0_3 q3c0_2 q3c0_1 q3c0_0 q3s0 q3z q3B
            go_wp2_with fail
            go_ret
            exact ⟨rfl, q4B⟩
        · go_enter Try.func8, Try.ntmps8
          go_wp2_with (with_reducible refine wpList_load_row rfl 33 (.tmp 3) rfl w.heap.size rfl 33 B.C (0, 0) _ (blk_new rfl) Try.underlying33 rfl HS.out ?_)
          refine (HFW.out _ (HA.out.below (by (repeat (first | (with_reducible first | exact Below.refl _ _ | assumption | refine Below.drew ?_ | refine below_drewN ?_ _) | ((with_reducible first | refine Below.alloc ?_ ?_ _ | refine Below.setCell ?_ ?_ _); rotate_left; (first | omega | (simp <;> omega)))))))).mono ?_
          rintro e w1 ⟨rfl, hb⟩
          have X1 := hide (blk_below hb (by simp) (blk_new (k := w.heap.size) rfl))
          have q1B : Below w.heap.size w w1 := (by refine Below.trans ?_ (hb.mono (by first | omega | (simp <;> omega))); (repeat (first | (with_reducible first | exact Below.refl _ _ | assumption | refine Below.drew ?_ | refine below_drewN ?_ _) | ((with_reducible first | refine Below.alloc ?_ ?_ _ | refine Below.setCell ?_ ?_ _); rotate_left; (first | omega | (simp <;> omega))))))
          have q1z := hb.size
          try simp at q1z
          have q1t : w.heap.size ≤ w1.heap.size := (by omega)
          have q1o : ∀ b o, b < w.heap.size → w1.cell? ⟨b, o, none⟩ = w.cell? ⟨b, o, none⟩ := fun b o h => q1B.cell (p := ⟨b, o, none⟩) h
          clear hb
          go_wp2_with (with_reducible refine wpList_load_row rfl 33 (.tmp 3) rfl w.heap.size rfl 33 B.C (0, 0) _ (X1.out) Try.underlying33 rfl HS.out ?_)
          refine (HD1.out _ (HW.out.below q1B)).mono ?_
          rintro e w2 ⟨rfl, hb⟩
          have X2 := hide (blk_below hb (by omega) X1.out)
          have HN := hide (show w.heap.size < w1.heap.size by omega)
          have q2B : Below w.heap.size w w2 := (by refine Below.trans ?_ (hb.mono (by first | omega | (simp <;> omega))); (repeat (first | (with_reducible first | exact Below.refl _ _ | assumption | refine Below.drew ?_ | refine below_drewN ?_ _) | ((with_reducible first | refine Below.alloc ?_ ?_ _ | refine Below.setCell ?_ ?_ _); rotate_left; (first | omega | (simp <;> omega))))))
          have q2z := hb.size
          try simp at q2z
          have q2t : w.heap.size ≤ w2.heap.size := (by omega)
          have q2o : ∀ b o, b < w.heap.size → w2.cell? ⟨b, o, none⟩ = w.cell? ⟨b, o, none⟩ := fun b o h => q2B.cell (p := ⟨b, o, none⟩) h
          clear hb q1o q1z q1B
          have HN2 := hide (show w.heap.size ≠ w2.heap.size by have := HN.out; omega)
          go_wp2_with (with_reducible refine wpList_load_row rfl 33 (.tmp 3) rfl w.heap.size rfl 33 B.C (0, 0) _ (by repeat (first | exact X2.out | refine blk_setOther HN2.out ?_ | refine blk_under ?_)) Try.underlying33 rfl HS.out ?_)
          refine (HA1.out _ (HW.out.below (Below.trans q2B (by (repeat (first | (with_reducible first | exact Below.refl _ _ | assumption | refine Below.drew ?_ | refine below_drewN ?_ _) | ((with_reducible first | refine Below.alloc ?_ ?_ _ | refine Below.setCell ?_ ?_ _); rotate_left; (first | omega | (simp <;> omega))))))))).mono ?_
          rintro e w3 ⟨rfl, hb⟩
          have q3B : Below w.heap.size w w3 := (by refine Below.trans ?_ (hb.mono (by first | omega | (simp <;> omega))); (repeat (first | (with_reducible first | exact Below.refl _ _ | assumption | refine Below.drew ?_ | refine below_drewN ?_ _) | ((with_reducible first | refine Below.alloc ?_ ?_ _ | refine Below.setCell ?_ ?_ _); rotate_left; (first | omega | (simp <;> omega))))))
          have q3z := hb.size
          try simp at q3z
          have q3t : w.heap.size ≤ w3.heap.size := (by omega)
          have q3s0 : w2.heap.size < w3.heap.size := (by omega)
          have q3n0_0 : ¬ w3.heap.size = w2.heap.size := (by omega)
          have q3n0_1 : ¬ w3.heap.size + 1 = w2.heap.size := (by omega)
          have q3n0_2 : ¬ w3.heap.size + 2 = w2.heap.size := (by omega)
          have q3c0_0 := hb.cell (p := ⟨w2.heap.size, 0, none⟩) (by first | omega | (simp <;> omega))
          simp [go_sem, *] at q3c0_0
          have q3c0_1 := hb.cell (p := ⟨w2.heap.size, 1, none⟩) (by first | omega | (simp <;> omega))
          simp [go_sem, *] at q3c0_1
          have q3c0_2 := hb.cell (p := ⟨w2.heap.size, 2, none⟩) (by first | omega | (simp <;> omega))
          simp [go_sem, *] at q3c0_2
          have q3c0_3 := hb.cell (p := ⟨w2.heap.size, 3, none⟩) (by first | omega | (simp <;> omega))
          simp [go_sem, *] at q3c0_3
          have q3c0_4 := hb.cell (p := ⟨w2.heap.size, 4, none⟩) (by first | omega | (simp <;> omega))
          simp [go_sem, *] at q3c0_4
          have q3c0_5 := hb.cell (p := ⟨w2.heap.size, 5, none⟩) (by first | omega | (simp <;> omega))
          simp [go_sem, *] at q3c0_5
          have q3c0_6 := hb.cell (p := ⟨w2.heap.size, 6, none⟩) (by first | omega | (simp <;> omega))
          simp [go_sem, *] at q3c0_6
          have q3f0 := fun o => hb.frozen (p := ⟨w2.heap.size, o, none⟩) (by first | omega | (simp <;> omega))
          simp [go_sem, *] at q3f0
          have q3o : ∀ b o, b < w.heap.size → w3.cell? ⟨b, o, none⟩ = w.cell? ⟨b, o, none⟩ := fun b o h => q3B.cell (p := ⟨b, o, none⟩) h
          clear hb q2o q2z q2B
          go_wp2_with fail
          refine (lives_any _).mono ?_
          rintro e w4 ⟨rfl, hb⟩
          have q4B : Below w.heap.size w w4 := (by refine Below.trans ?_ (hb.mono (by first | omega | (simp <;> omega))); (repeat (first | (with_reducible first | exact Below.refl _ _ | assumption | refine Below.drew ?_ | refine below_drewN ?_ _) | ((with_reducible first | refine Below.alloc ?_ ?_ _ | refine Below.setCell ?_ ?_ _); rotate_left; (first | omega | (simp <;> omega))))))
          have q4z := hb.size
          try simp at q4z
          have q4t : w.heap.size ≤ w4.heap.size := (by omega)
          have q4o : ∀ b o, b < w.heap.size → w4.cell? ⟨b, o, none⟩ = w.cell? ⟨b, o, none⟩ := fun b o h => q4B.cell (p := ⟨b, o, none⟩) h
          clear hb q3o q3f0 q3c0_6 q3c0_5 q3c0_4 q3c0_3 q3c0_2 q3c0_1 q3c0_0 q3s0 q3z q3B
          go_wp2_with fail
          go_ret
          exact ⟨rfl, q4B⟩
      · by_cases c2 : bal < 0
        · obtain ⟨rfl, rfl⟩ := hcb (by omega)
          obtain rfl : act = true := by rcases hac2 with h | h; exact h; omega
          have hb0 : ¬ bal = 0 := by omega
          clear hcb hdb hac2 c1
          by_cases z1 : hd = 0
          · subst z1
            by_cases z2 : ld = 0
            · subst z2
              go_enter Try.func8, Try.ntmps8
              go_wp2_with (with_reducible refine wpList_load_row rfl 33 (.tmp 3) rfl w.heap.size rfl 33 B.C (0, 0) _ (blk_new rfl) Try.underlying33 rfl HS.out ?_)
              refine (HFW.out _ (HA.out.below (by (repeat (first | (with_reducible first | exact Below.refl _ _ | assumption | refine Below.drew ?_ | refine below_drewN ?_ _) | ((with_reducible first | refine Below.alloc ?_ ?_ _ | refine Below.setCell ?_ ?_ _); rotate_left; (first | omega | (simp <;> omega)))))))).mono ?_
              rintro e w1 ⟨rfl, hb⟩
              have X1 := hide (blk_below hb (by simp) (blk_new (k := w.heap.size) rfl))
              have q1B : Below w.heap.size w w1 := (by refine Below.trans ?_ (hb.mono (by first | omega | (simp <;> omega))); (repeat (first | (with_reducible first | exact Below.refl _ _ | assumption | refine Below.drew ?_ | refine below_drewN ?_ _) | ((with_reducible first | refine Below.alloc ?_ ?_ _ | refine Below.setCell ?_ ?_ _); rotate_left; (first | omega | (simp <;> omega))))))
              have q1z := hb.size
              try simp at q1z
              have q1t : w.heap.size ≤ w1.heap.size := (by omega)
              have q1o : ∀ b o, b < w.heap.size → w1.cell? ⟨b, o, none⟩ = w.cell? ⟨b, o, none⟩ := fun b o h => q1B.cell (p := ⟨b, o, none⟩) h
              clear hb
              go_wp2_with (with_reducible refine wpList_load_row rfl 33 (.tmp 3) rfl w.heap.size rfl 33 B.C (0, 0) _ (X1.out) Try.underlying33 rfl HS.out ?_)
              refine (HD1.out _ (HW.out.below q1B)).mono ?_
              rintro e w2 ⟨rfl, hb⟩
              have X2 := hide (blk_below hb (by omega) X1.out)
              have HN := hide (show w.heap.size < w1.heap.size by omega)
              have q2B : Below w.heap.size w w2 := (by refine Below.trans ?_ (hb.mono (by first | omega | (simp <;> omega))); (repeat (first | (with_reducible first | exact Below.refl _ _ | assumption | refine Below.drew ?_ | refine below_drewN ?_ _) | ((with_reducible first | refine Below.alloc ?_ ?_ _ | refine Below.setCell ?_ ?_ _); rotate_left; (first | omega | (simp <;> omega))))))
              have q2z := hb.size
              try simp at q2z
              have q2t : w.heap.size ≤ w2.heap.size := (by omega)
              have q2o : ∀ b o, b < w.heap.size → w2.cell? ⟨b, o, none⟩ = w.cell? ⟨b, o, none⟩ := fun b o h => q2B.cell (p := ⟨b, o, none⟩) h
              clear hb q1o q1z q1B
              have HN2 := hide (show w.heap.size ≠ w2.heap.size by have := HN.out; omega)
              go_wp2_with (with_reducible refine wpList_load_row rfl 33 (.tmp 3) rfl w.heap.size rfl 33 B.C (0, 0) _ (by repeat (first | exact X2.out | refine blk_setOther HN2.out ?_ | refine blk_under ?_)) Try.underlying33 rfl HS.out ?_)
              refine (HA1.out _ (HW.out.below (Below.trans q2B (by (repeat (first | (with_reducible first | exact Below.refl _ _ | assumption | refine Below.drew ?_ | refine below_drewN ?_ _) | ((with_reducible first | refine Below.alloc ?_ ?_ _ | refine Below.setCell ?_ ?_ _); rotate_left; (first | omega | (simp <;> omega))))))))).mono ?_
              rintro e w3 ⟨rfl, hb⟩
              have q3B : Below w.heap.size w w3 := (by refine Below.trans ?_ (hb.mono (by first | omega | (simp <;> omega))); (repeat (first | (with_reducible first | exact Below.refl _ _ | assumption | refine Below.drew ?_ | refine below_drewN ?_ _) | ((with_reducible first | refine Below.alloc ?_ ?_ _ | refine Below.setCell ?_ ?_ _); rotate_left; (first | omega | (simp <;> omega))))))
              have q3z := hb.size
              try simp at q3z
              have q3t : w.heap.size ≤ w3.heap.size := (by omega)
              have q3s0 : w2.heap.size < w3.heap.size := (by omega)
              have q3n0_0 : ¬ w3.heap.size = w2.heap.size := (by omega)
              have q3n0_1 : ¬ w3.heap.size + 1 = w2.heap.size := (by omega)
              have q3n0_2 : ¬ w3.heap.size + 2 = w2.heap.size := (by omega)
              have q3c0_0 := hb.cell (p := ⟨w2.heap.size, 0, none⟩) (by first | omega | (simp <;> omega))
              simp [go_sem, *] at q3c0_0
              have q3c0_1 := hb.cell (p := ⟨w2.heap.size, 1, none⟩) (by first | omega | (simp <;> omega))
              simp [go_sem, *] at q3c0_1
              have q3c0_2 := hb.cell (p := ⟨w2.heap.size, 2, none⟩) (by first | omega | (simp <;> omega))
              simp [go_sem, *] at q3c0_2
              have q3c0_3 := hb.cell (p := ⟨w2.heap.size, 3, none⟩) (by first | omega | (simp <;> omega))
              simp [go_sem, *] at q3c0_3
              have q3c0_4 := hb.cell (p := ⟨w2.heap.size, 4, none⟩) (by first | omega | (simp <;> omega))
              simp [go_sem, *] at q3c0_4
              have q3c0_5 := hb.cell (p := ⟨w2.heap.size, 5, none⟩) (by first | omega | (simp <;> omega))
              simp [go_sem, *] at q3c0_5
              have q3c0_6 := hb.cell (p := ⟨w2.heap.size, 6, none⟩) (by first | omega | (simp <;> omega))
              simp [go_sem, *] at q3c0_6
              have q3f0 := fun o => hb.frozen (p := ⟨w2.heap.size, o, none⟩) (by first | omega | (simp <;> omega))
              simp [go_sem, *] at q3f0
              have q3o : ∀ b o, b < w.heap.size → w3.cell? ⟨b, o, none⟩ = w.cell? ⟨b, o, none⟩ := fun b o h => q3B.cell (p := ⟨b, o, none⟩) h
              clear hb q2o q2z q2B
              go_wp2_with fail
              refine (lives_any _).mono ?_
              rintro e w4 ⟨rfl, hb⟩
              have q4B : Below w.heap.size w w4 := (by refine Below.trans ?_ (hb.mono (by first | omega | (simp <;> omega))); (repeat (first | (with_reducible first | exact Below.refl _ _ | assumption | refine Below.drew ?_ | refine below_drewN ?_ _) | ((with_reducible first | refine Below.alloc ?_ ?_ _ | refine Below.setCell ?_ ?_ _); rotate_left; (first | omega | (simp <;> omega))))))
              have q4z := hb.size
              try simp at q4z
              have q4t : w.heap.size ≤ w4.heap.size := (by omega)
              have q4o : ∀ b o, b < w.heap.size → w4.cell? ⟨b, o, none⟩ = w.cell? ⟨b, o, none⟩ := fun b o h => q4B.cell (p := ⟨b, o, none⟩) h
              clear hb q3o q3f0 q3c0_6 q3c0_5 q3c0_4 q3c0_3 q3c0_2 q3c0_1 q3c0_0 q3s0 q3z q3B
              go_wp2_with fail
              go_ret
              exact ⟨rfl, q4B⟩
            · go_enter Try.func8, Try.ntmps8
              go_wp2_with (with_reducible refine wpList_load_row rfl 33 (.tmp 3) rfl w.heap.size rfl 33 B.C (0, 0) _ (blk_new rfl) Try.underlying33 rfl HS.out ?_)
              refine (HFW.out _ (HA.out.below (by (repeat (first | (with_reducible first | exact Below.refl _ _ | assumption | refine Below.drew ?_ | refine below_drewN ?_ _) | ((with_reducible first | refine Below.alloc ?_ ?_ _ | refine Below.setCell ?_ ?_ _); rotate_left; (first | omega | (simp <;> omega)))))))).mono ?_
              rintro e w1 ⟨rfl, hb⟩
              have X1 := hide (blk_below hb (by simp) (blk_new (k := w.heap.size) rfl))
              have q1B : Below w.heap.size w w1 := (by refine Below.trans ?_ (hb.mono (by first | omega | (simp <;> omega))); (repeat (first | (with_reducible first | exact Below.refl _ _ | assumption | refine Below.drew ?_ | refine below_drewN ?_ _) | ((with_reducible first | refine Below.alloc ?_ ?_ _ | refine Below.setCell ?_ ?_ _); rotate_left; (first | omega | (simp <;> omega))))))
              have q1z := hb.size
              try simp at q1z
              have q1t : w.heap.size ≤ w1.heap.size := (by omega)
              have q1o : ∀ b o, b < w.heap.size → w1.cell? ⟨b, o, none⟩ = w.cell? ⟨b, o, none⟩ := fun b o h => q1B.cell (p := ⟨b, o, none⟩) h
              clear hb
              go_wp2_with (with_reducible refine wpList_load_row rfl 33 (.tmp 3) rfl w.heap.size rfl 33 B.C (0, 0) _ (X1.out) Try.underlying33 rfl HS.out ?_)
              refine (HD1.out _ (HW.out.below q1B)).mono ?_
              rintro e w2 ⟨rfl, hb⟩
              have X2 := hide (blk_below hb (by omega) X1.out)
              have HN := hide (show w.heap.size < w1.heap.size by omega)
              have q2B : Below w.heap.size w w2 := (by refine Below.trans ?_ (hb.mono (by first | omega | (simp <;> omega))); (repeat (first | (with_reducible first | exact Below.refl _ _ | assumption | refine Below.drew ?_ | refine below_drewN ?_ _) | ((with_reducible first | refine Below.alloc ?_ ?_ _ | refine Below.setCell ?_ ?_ _); rotate_left; (first | omega | (simp <;> omega))))))
              have q2z := hb.size
              try simp at q2z
              have q2t : w.heap.size ≤ w2.heap.size := (by omega)
              have q2o : ∀ b o, b < w.heap.size → w2.cell? ⟨b, o, none⟩ = w.cell? ⟨b, o, none⟩ := fun b o h => q2B.cell (p := ⟨b, o, none⟩) h
              clear hb q1o q1z q1B
              have HN2 := hide (show w.heap.size ≠ w2.heap.size by have := HN.out; omega)
              go_wp2_with (with_reducible refine wpList_load_row rfl 33 (.tmp 3) rfl w.heap.size rfl 33 B.C (0, 0) _ (by repeat (first | exact X2.out | refine blk_setOther HN2.out ?_ | refine blk_under ?_)) Try.underlying33 rfl HS.out ?_)
              refine (HA1.out _ (HW.out.below (Below.trans q2B (by (repeat (first | (with_reducible first | exact Below.refl _ _ | assumption | refine Below.drew ?_ | refine below_drewN ?_ _) | ((with_reducible first | refine Below.alloc ?_ ?_ _ | refine Below.setCell ?_ ?_ _); rotate_left; (first | omega | (simp <;> omega))))))))).mono ?_
              rintro e w3 ⟨rfl, hb⟩
              have q3B : Below w.heap.size w w3 := (by refine Below.trans ?_ (hb.mono (by first | omega | (simp <;> omega))); (repeat (first | (with_reducible first | exact Below.refl _ _ | assumption | refine Below.drew ?_ | refine below_drewN ?_ _) | ((with_reducible first | refine Below.alloc ?_ ?_ _ | refine Below.setCell ?_ ?_ _); rotate_left; (first | omega | (simp <;> omega))))))
              have q3z := hb.size
              try simp at q3z
              have q3t : w.heap.size ≤ w3.heap.size := (by omega)
              have q3s0 : w2.heap.size < w3.heap.size := (by omega)
              have q3n0_0 : ¬ w3.heap.size = w2.heap.size := (by omega)
              have q3n0_1 : ¬ w3.heap.size + 1 = w2.heap.size := (by omega)
              have q3n0_2 : ¬ w3.heap.size + 2 = w2.heap.size := (by omega)
              have q3c0_0 := hb.cell (p := ⟨w2.heap.size, 0, none⟩) (by first | omega | (simp <;> omega))
              simp [go_sem, *] at q3c0_0
              have q3c0_1 := hb.cell (p := ⟨w2.heap.size, 1, none⟩) (by first | omega | (simp <;> omega))
              simp [go_sem, *] at q3c0_1
              have q3c0_2 := hb.cell (p := ⟨w2.heap.size, 2, none⟩) (by first | omega | (simp <;> omega))
              simp [go_sem, *] at q3c0_2
              have q3c0_3 := hb.cell (p := ⟨w2.heap.size, 3, none⟩) (by first | omega | (simp <;> omega))
              simp [go_sem, *] at q3c0_3
              have q3c0_4 := hb.cell (p := ⟨w2.heap.size, 4, none⟩) (by first | omega | (simp <;> omega))
              simp [go_sem, *] at q3c0_4
              have q3c0_5 := hb.cell (p := ⟨w2.heap.size, 5, none⟩) (by first | omega | (simp <;> omega))
              simp [go_sem, *] at q3c0_5
              have q3c0_6 := hb.cell (p := ⟨w2.heap.size, 6, none⟩) (by first | omega | (simp <;> omega))
              simp [go_sem, *] at q3c0_6
              have q3f0 := fun o => hb.frozen (p := ⟨w2.heap.size, o, none⟩) (by first | omega | (simp <;> omega))
              simp [go_sem, *] at q3f0
              have q3o : ∀ b o, b < w.heap.size → w3.cell? ⟨b, o, none⟩ = w.cell? ⟨b, o, none⟩ := fun b o h => q3B.cell (p := ⟨b, o, none⟩) h
              clear hb q2o q2z q2B
              go_wp2_with fail
              refine (lives_any _).mono ?_
              rintro e w4 ⟨rfl, hb⟩
              have q4B : Below w.heap.size w w4 := (by refine Below.trans ?_ (hb.mono (by first | omega | (simp <;> omega))); (repeat (first | (with_reducible first | exact Below.refl _ _ | assumption | refine Below.drew ?_ | refine below_drewN ?_ _) | ((with_reducible first | refine Below.alloc ?_ ?_ _ | refine Below.setCell ?_ ?_ _); rotate_left; (first | omega | (simp <;> omega))))))
              have q4z := hb.size
              try simp at q4z
              have q4t : w.heap.size ≤ w4.heap.size := (by omega)
              have q4o : ∀ b o, b < w.heap.size → w4.cell? ⟨b, o, none⟩ = w.cell? ⟨b, o, none⟩ := fun b o h => q4B.cell (p := ⟨b, o, none⟩) h
              clear hb q3o q3f0 q3c0_6 q3c0_5 q3c0_4 q3c0_3 q3c0_2 q3c0_1 q3c0_0 q3s0 q3z q3B
              go_wp2_with fail
              go_ret
              exact ⟨rfl, q4B⟩
          · go_enter Try.func8, Try.ntmps8
            go_wp2_with (with_reducible refine wpList_load_row rfl 33 (.tmp 3) rfl w.heap.size rfl 33 B.C (0, 0) _ (blk_new rfl) Try.underlying33 rfl HS.out ?_)
            refine (HFW.out _ (HA.out.below (by (repeat (first | (with_reducible first | exact Below.refl _ _ | assumption | refine Below.drew ?_ | refine below_drewN ?_ _) | ((with_reducible first | refine Below.alloc ?_ ?_ _ | refine Below.setCell ?_ ?_ _); rotate_left; (first | omega | (simp <;> omega)))))))).mono ?_
            rintro e w1 ⟨rfl, hb⟩
            have X1 := hide (blk_below hb (by simp) (blk_new (k := w.heap.size) rfl))
            have q1B : Below w.heap.size w w1 := (by refine Below.trans ?_ (hb.mono (by first | omega | (simp <;> omega))); (repeat (first | (with_reducible first | exact Below.refl _ _ | assumption | refine Below.drew ?_ | refine below_drewN ?_ _) | ((with_reducible first | refine Below.alloc ?_ ?_ _ | refine Below.setCell ?_ ?_ _); rotate_left; (first | omega | (simp <;> omega))))))
            have q1z := hb.size
            try simp at q1z
            have q1t : w.heap.size ≤ w1.heap.size := (by omega)
            have q1o : ∀ b o, b < w.heap.size → w1.cell? ⟨b, o, none⟩ = w.cell? ⟨b, o, none⟩ := fun b o h => q1B.cell (p := ⟨b, o, none⟩) h
            clear hb
            go_wp2_with (with_reducible refine wpList_load_row rfl 33 (.tmp 3) rfl w.heap.size rfl 33 B.C (0, 0) _ (X1.out) Try.underlying33 rfl HS.out ?_)
            refine (HD1.out _ (HW.out.below q1B)).mono ?_
            rintro e w2 ⟨rfl, hb⟩
            have X2 := hide (blk_below hb (by omega) X1.out)
            have HN := hide (show w.heap.size < w1.heap.size by omega)
            have q2B : Below w.heap.size w w2 := (by refine Below.trans ?_ (hb.mono (by first | omega | (simp <;> omega))); (repeat (first | (with_reducible first | exact Below.refl _ _ | assumption | refine Below.drew ?_ | refine below_drewN ?_ _) | ((with_reducible first | refine Below.alloc ?_ ?_ _ | refine Below.setCell ?_ ?_ _); rotate_left; (first | omega | (simp <;> omega))))))
            have q2z := hb.size
            try simp at q2z
            have q2t : w.heap.size ≤ w2.heap.size := (by omega)
            have q2o : ∀ b o, b < w.heap.size → w2.cell? ⟨b, o, none⟩ = w.cell? ⟨b, o, none⟩ := fun b o h => q2B.cell (p := ⟨b, o, none⟩) h
            clear hb q1o q1z q1B
            have HN2 := hide (show w.heap.size ≠ w2.heap.size by have := HN.out; omega)
            go_wp2_with (with_reducible refine wpList_load_row rfl 33 (.tmp 3) rfl w.heap.size rfl 33 B.C (0, 0) _ (by repeat (first | exact X2.out | refine blk_setOther HN2.out ?_ | refine blk_under ?_)) Try.underlying33 rfl HS.out ?_)
            refine (HA1.out _ (HW.out.below (Below.trans q2B (by (repeat (first | (with_reducible first | exact Below.refl _ _ | assumption | refine Below.drew ?_ | refine below_drewN ?_ _) | ((with_reducible first | refine Below.alloc ?_ ?_ _ | refine Below.setCell ?_ ?_ _); rotate_left; (first | omega | (simp <;> omega))))))))).mono ?_
            rintro e w3 ⟨rfl, hb⟩
            have q3B : Below w.heap.size w w3 := (by refine Below.trans ?_ (hb.mono (by first | omega | (simp <;> omega))); (repeat (first | (with_reducible first | exact Below.refl _ _ | assumption | refine Below.drew ?_ | refine below_drewN ?_ _) | ((with_reducible first | refine Below.alloc ?_ ?_ _ | refine Below.setCell ?_ ?_ _); rotate_left; (first | omega | (simp <;> omega))))))
            have q3z := hb.size
            try simp at q3z
            have q3t : w.heap.size ≤ w3.heap.size := (by omega)
            have q3s0 : w2.heap.size < w3.heap.size := (by omega)
            have q3n0_0 : ¬ w3.heap.size = w2.heap.size := (by omega)
            have q3n0_1 : ¬ w3.heap.size + 1 = w2.heap.size := (by omega)
            have q3n0_2 : ¬ w3.heap.size + 2 = w2.heap.size := (by omega)
            have q3c0_0 := hb.cell (p := ⟨w2.heap.size, 0, none⟩) (by first | omega | (simp <;> omega))
            simp [go_sem, *] at q3c0_0
            have q3c0_1 := hb.cell (p := ⟨w2.heap.size, 1, none⟩) (by first | omega | (simp <;> omega))
            simp [go_sem, *] at q3c0_1
            have q3c0_2 := hb.cell (p := ⟨w2.heap.size, 2, none⟩) (by first | omega | (simp <;> omega))
            simp [go_sem, *] at q3c0_2
            have q3c0_3 := hb.cell (p := ⟨w2.heap.size, 3, none⟩) (by first | omega | (simp <;> omega))
            simp [go_sem, *] at q3c0_3
            have q3c0_4 := hb.cell (p := ⟨w2.heap.size, 4, none⟩) (by first | omega | (simp <;> omega))
            simp [go_sem, *] at q3c0_4
            have q3c0_5 := hb.cell (p := ⟨w2.heap.size, 5, none⟩) (by first | omega | (simp <;> omega))
            simp [go_sem, *] at q3c0_5
            have q3c0_6 := hb.cell (p := ⟨w2.heap.size, 6, none⟩) (by first | omega | (simp <;> omega))
            simp [go_sem, *] at q3c0_6
            have q3f0 := fun o => hb.frozen (p := ⟨w2.heap.size, o, none⟩) (by first | omega | (simp <;> omega))
            simp [go_sem, *] at q3f0
            have q3o : ∀ b o, b < w.heap.size → w3.cell? ⟨b, o, none⟩ = w.cell? ⟨b, o, none⟩ := fun b o h => q3B.cell (p := ⟨b, o, none⟩) h
            clear hb q2o q2z q2B
            go_wp2_with fail
            refine (lives_any _).mono ?_
            rintro e w4 ⟨rfl, hb⟩
            have q4B : Below w.heap.size w w4 := (by refine Below.trans ?_ (hb.mono (by first | omega | (simp <;> omega))); (repeat (first | (with_reducible first | exact Below.refl _ _ | assumption | refine Below.drew ?_ | refine below_drewN ?_ _) | ((with_reducible first | refine Below.alloc ?_ ?_ _ | refine Below.setCell ?_ ?_ _); rotate_left; (first | omega | (simp <;> omega))))))
            have q4z := hb.size
            try simp at q4z
            have q4t : w.heap.size ≤ w4.heap.size := (by omega)
            have q4o : ∀ b o, b < w.heap.size → w4.cell? ⟨b, o, none⟩ = w.cell? ⟨b, o, none⟩ := fun b o h => q4B.cell (p := ⟨b, o, none⟩) h
            clear hb q3o q3f0 q3c0_6 q3c0_5 q3c0_4 q3c0_3 q3c0_2 q3c0_1 q3c0_0 q3s0 q3z q3B
            go_wp2_with fail
            go_ret
            exact ⟨rfl, q4B⟩
        · obtain rfl : bal = 0 := by omega
          obtain ⟨rfl, rfl⟩ := hcb (by omega)
          obtain ⟨rfl, rfl⟩ := hdb (by omega)
          clear hcb hdb hac2 c1 c2
          cases act
          · go_enter Try.func8, Try.ntmps8
            go_wp2_with (with_reducible refine wpList_load_row rfl 33 (.tmp 3) rfl w.heap.size rfl 33 B.C (0, 0) _ (blk_new rfl) Try.underlying33 rfl HS.out ?_)
            refine (HFW.out _ (HA.out.below (by (repeat (first | (with_reducible first | exact Below.refl _ _ | assumption | refine Below.drew ?_ | refine below_drewN ?_ _) | ((with_reducible first | refine Below.alloc ?_ ?_ _ | refine Below.setCell ?_ ?_ _); rotate_left; (first | omega | (simp <;> omega)))))))).mono ?_
            rintro e w1 ⟨rfl, hb⟩
            have X1 := hide (blk_below hb (by simp) (blk_new (k := w.heap.size) rfl))
            have q1B : Below w.heap.size w w1 := (by refine Below.trans ?_ (hb.mono (by first | omega | (simp <;> omega))); (repeat (first | (with_reducible first | exact Below.refl _ _ | assumption | refine Below.drew ?_ | refine below_drewN ?_ _) | ((with_reducible first | refine Below.alloc ?_ ?_ _ | refine Below.setCell ?_ ?_ _); rotate_left; (first | omega | (simp <;> omega))))))
            have q1z := hb.size
            try simp at q1z
            have q1t : w.heap.size ≤ w1.heap.size := (by omega)
            have q1o : ∀ b o, b < w.heap.size → w1.cell? ⟨b, o, none⟩ = w.cell? ⟨b, o, none⟩ := fun b o h => q1B.cell (p := ⟨b, o, none⟩) h
            clear hb
            go_wp2_with (with_reducible refine wpList_load_row rfl 33 (.tmp 3) rfl w.heap.size rfl 33 B.C (0, 0) _ (X1.out) Try.underlying33 rfl HS.out ?_)
            refine (HD1.out _ (HW.out.below q1B)).mono ?_
            rintro e w2 ⟨rfl, hb⟩
            have X2 := hide (blk_below hb (by omega) X1.out)
            have HN := hide (show w.heap.size < w1.heap.size by omega)
            have q2B : Below w.heap.size w w2 := (by refine Below.trans ?_ (hb.mono (by first | omega | (simp <;> omega))); (repeat (first | (with_reducible first | exact Below.refl _ _ | assumption | refine Below.drew ?_ | refine below_drewN ?_ _) | ((with_reducible first | refine Below.alloc ?_ ?_ _ | refine Below.setCell ?_ ?_ _); rotate_left; (first | omega | (simp <;> omega))))))
            have q2z := hb.size
            try simp at q2z
            have q2t : w.heap.size ≤ w2.heap.size := (by omega)
            have q2o : ∀ b o, b < w.heap.size → w2.cell? ⟨b, o, none⟩ = w.cell? ⟨b, o, none⟩ := fun b o h => q2B.cell (p := ⟨b, o, none⟩) h
            clear hb q1o q1z q1B
            have HN2 := hide (show w.heap.size ≠ w2.heap.size by have := HN.out; omega)
            go_wp2_with (with_reducible refine wpList_load_row rfl 33 (.tmp 3) rfl w.heap.size rfl 33 B.C (0, 0) _ (by repeat (first | exact X2.out | refine blk_setOther HN2.out ?_ | refine blk_under ?_)) Try.underlying33 rfl HS.out ?_)
            refine (HA1.out _ (HW.out.below (Below.trans q2B (by (repeat (first | (with_reducible first | exact Below.refl _ _ | assumption | refine Below.drew ?_ | refine below_drewN ?_ _) | ((with_reducible first | refine Below.alloc ?_ ?_ _ | refine Below.setCell ?_ ?_ _); rotate_left; (first | omega | (simp <;> omega))))))))).mono ?_
            rintro e w3 ⟨rfl, hb⟩
            have q3B : Below w.heap.size w w3 := (by refine Below.trans ?_ (hb.mono (by first | omega | (simp <;> omega))); (repeat (first | (with_reducible first | exact Below.refl _ _ | assumption | refine Below.drew ?_ | refine below_drewN ?_ _) | ((with_reducible first | refine Below.alloc ?_ ?_ _ | refine Below.setCell ?_ ?_ _); rotate_left; (first | omega | (simp <;> omega))))))
            have q3z := hb.size
            try simp at q3z
            have q3t : w.heap.size ≤ w3.heap.size := (by omega)
            have q3s0 : w2.heap.size < w3.heap.size := (by omega)
            have q3n0_0 : ¬ w3.heap.size = w2.heap.size := (by omega)
            have q3n0_1 : ¬ w3.heap.size + 1 = w2.heap.size := (by omega)
            have q3n0_2 : ¬ w3.heap.size + 2 = w2.heap.size := (by omega)
            have q3c0_0 := hb.cell (p := ⟨w2.heap.size, 0, none⟩) (by first | omega | (simp <;> omega))
            simp [go_sem, *] at q3c0_0
            have q3c0_1 := hb.cell (p := ⟨w2.heap.size, 1, none⟩) (by first | omega | (simp <;> omega))
            simp [go_sem, *] at q3c0_1
            have q3c0_2 := hb.cell (p := ⟨w2.heap.size, 2, none⟩) (by first | omega | (simp <;> omega))
            simp [go_sem, *] at q3c0_2
            have q3c0_3 := hb.cell (p := ⟨w2.heap.size, 3, none⟩) (by first | omega | (simp <;> omega))
            simp [go_sem, *] at q3c0_3
            have q3c0_4 := hb.cell (p := ⟨w2.heap.size, 4, none⟩) (by first | omega | (simp <;> omega))
            simp [go_sem, *] at q3c0_4
            have q3c0_5 := hb.cell (p := ⟨w2.heap.size, 5, none⟩) (by first | omega | (simp <;> omega))
            simp [go_sem, *] at q3c0_5
            have q3c0_6 := hb.cell (p := ⟨w2.heap.size, 6, none⟩) (by first | omega | (simp <;> omega))
            simp [go_sem, *] at q3c0_6
            have q3f0 := fun o => hb.frozen (p := ⟨w2.heap.size, o, none⟩) (by first | omega | (simp <;> omega))
            simp [go_sem, *] at q3f0
            have q3o : ∀ b o, b < w.heap.size → w3.cell? ⟨b, o, none⟩ = w.cell? ⟨b, o, none⟩ := fun b o h => q3B.cell (p := ⟨b, o, none⟩) h
            clear hb q2o q2z q2B
            go_wp2_with fail
            refine (lives_any _).mono ?_
            rintro e w4 ⟨rfl, hb⟩
            have q4B : Below w.heap.size w w4 := (by refine Below.trans ?_ (hb.mono (by first | omega | (simp <;> omega))); (repeat (first | (with_reducible first | exact Below.refl _ _ | assumption | refine Below.drew ?_ | refine below_drewN ?_ _) | ((with_reducible first | refine Below.alloc ?_ ?_ _ | refine Below.setCell ?_ ?_ _); rotate_left; (first | omega | (simp <;> omega))))))
            have q4z := hb.size
            try simp at q4z
            have q4t : w.heap.size ≤ w4.heap.size := (by omega)
            have q4o : ∀ b o, b < w.heap.size → w4.cell? ⟨b, o, none⟩ = w.cell? ⟨b, o, none⟩ := fun b o h => q4B.cell (p := ⟨b, o, none⟩) h
            clear hb q3o q3f0 q3c0_6 q3c0_5 q3c0_4 q3c0_3 q3c0_2 q3c0_1 q3c0_0 q3s0 q3z q3B
            go_wp2_with fail
            go_ret
            exact ⟨rfl, q4B⟩
          · go_enter Try.func8, Try.ntmps8
            go_wp2_with (with_reducible refine wpList_load_row rfl 33 (.tmp 3) rfl w.heap.size rfl 33 B.C (0, 0) _ (blk_new rfl) Try.underlying33 rfl HS.out ?_)
            refine (HFW.out _ (HA.out.below (by (repeat (first | (with_reducible first | exact Below.refl _ _ | assumption | refine Below.drew ?_ | refine below_drewN ?_ _) | ((with_reducible first | refine Below.alloc ?_ ?_ _ | refine Below.setCell ?_ ?_ _); rotate_left; (first | omega | (simp <;> omega)))))))).mono ?_
            rintro e w1 ⟨rfl, hb⟩
            have X1 := hide (blk_below hb (by simp) (blk_new (k := w.heap.size) rfl))
            have q1B : Below w.heap.size w w1 := (by refine Below.trans ?_ (hb.mono (by first | omega | (simp <;> omega))); (repeat (first | (with_reducible first | exact Below.refl _ _ | assumption | refine Below.drew ?_ | refine below_drewN ?_ _) | ((with_reducible first | refine Below.alloc ?_ ?_ _ | refine Below.setCell ?_ ?_ _); rotate_left; (first | omega | (simp <;> omega))))))
            have q1z := hb.size
            try simp at q1z
            have q1t : w.heap.size ≤ w1.heap.size := (by omega)
            have q1o : ∀ b o, b < w.heap.size → w1.cell? ⟨b, o, none⟩ = w.cell? ⟨b, o, none⟩ := fun b o h => q1B.cell (p := ⟨b, o, none⟩) h
            clear hb
            go_wp2_with (with_reducible refine wpList_load_row rfl 33 (.tmp 3) rfl w.heap.size rfl 33 B.C (0, 0) _ (X1.out) Try.underlying33 rfl HS.out ?_)
            refine (HD1.out _ (HW.out.below q1B)).mono ?_
            rintro e w2 ⟨rfl, hb⟩
            have X2 := hide (blk_below hb (by omega) X1.out)
            have HN := hide (show w.heap.size < w1.heap.size by omega)
            have q2B : Below w.heap.size w w2 := (by refine Below.trans ?_ (hb.mono (by first | omega | (simp <;> omega))); (repeat (first | (with_reducible first | exact Below.refl _ _ | assumption | refine Below.drew ?_ | refine below_drewN ?_ _) | ((with_reducible first | refine Below.alloc ?_ ?_ _ | refine Below.setCell ?_ ?_ _); rotate_left; (first | omega | (simp <;> omega))))))
            have q2z := hb.size
            try simp at q2z
            have q2t : w.heap.size ≤ w2.heap.size := (by omega)
            have q2o : ∀ b o, b < w.heap.size → w2.cell? ⟨b, o, none⟩ = w.cell? ⟨b, o, none⟩ := fun b o h => q2B.cell (p := ⟨b, o, none⟩) h
            clear hb q1o q1z q1B
            have HN2 := hide (show w.heap.size ≠ w2.heap.size by have := HN.out; omega)
            go_wp2_with (with_reducible refine wpList_load_row rfl 33 (.tmp 3) rfl w.heap.size rfl 33 B.C (0, 0) _ (by repeat (first | exact X2.out | refine blk_setOther HN2.out ?_ | refine blk_under ?_)) Try.underlying33 rfl HS.out ?_)
            refine (HA1.out _ (HW.out.below (Below.trans q2B (by (repeat (first | (with_reducible first | exact Below.refl _ _ | assumption | refine Below.drew ?_ | refine below_drewN ?_ _) | ((with_reducible first | refine Below.alloc ?_ ?_ _ | refine Below.setCell ?_ ?_ _); rotate_left; (first | omega | (simp <;> omega))))))))).mono ?_
            rintro e w3 ⟨rfl, hb⟩
            have q3B : Below w.heap.size w w3 := (by refine Below.trans ?_ (hb.mono (by first | omega | (simp <;> omega))); (repeat (first | (with_reducible first | exact Below.refl _ _ | assumption | refine Below.drew ?_ | refine below_drewN ?_ _) | ((with_reducible first | refine Below.alloc ?_ ?_ _ | refine Below.setCell ?_ ?_ _); rotate_left; (first | omega | (simp <;> omega))))))
            have q3z := hb.size
            try simp at q3z
            have q3t : w.heap.size ≤ w3.heap.size := (by omega)
            have q3s0 : w2.heap.size < w3.heap.size := (by omega)
            have q3n0_0 : ¬ w3.heap.size = w2.heap.size := (by omega)
            have q3n0_1 : ¬ w3.heap.size + 1 = w2.heap.size := (by omega)
            have q3n0_2 : ¬ w3.heap.size + 2 = w2.heap.size := (by omega)
            have q3c0_0 := hb.cell (p := ⟨w2.heap.size, 0, none⟩) (by first | omega | (simp <;> omega))
            simp [go_sem, *] at q3c0_0
            have q3c0_1 := hb.cell (p := ⟨w2.heap.size, 1, none⟩) (by first | omega | (simp <;> omega))
            simp [go_sem, *] at q3c0_1
            have q3c0_2 := hb.cell (p := ⟨w2.heap.size, 2, none⟩) (by first | omega | (simp <;> omega))
            simp [go_sem, *] at q3c0_2
            have q3c0_3 := hb.cell (p := ⟨w2.heap.size, 3, none⟩) (by first | omega | (simp <;> omega))
            simp [go_sem, *] at q3c0_3
            have q3c0_4 := hb.cell (p := ⟨w2.heap.size, 4, none⟩) (by first | omega | (simp <;> omega))
            simp [go_sem, *] at q3c0_4
            have q3c0_5 := hb.cell (p := ⟨w2.heap.size, 5, none⟩) (by first | omega | (simp <;> omega))
            simp [go_sem, *] at q3c0_5
            have q3c0_6 := hb.cell (p := ⟨w2.heap.size, 6, none⟩) (by first | omega | (simp <;> omega))
            simp [go_sem, *] at q3c0_6
            have q3f0 := fun o => hb.frozen (p := ⟨w2.heap.size, o, none⟩) (by first | omega | (simp <;> omega))
            simp [go_sem, *] at q3f0
            have q3o : ∀ b o, b < w.heap.size → w3.cell? ⟨b, o, none⟩ = w.cell? ⟨b, o, none⟩ := fun b o h => q3B.cell (p := ⟨b, o, none⟩) h
            clear hb q2o q2z q2B
            go_wp2_with fail
            refine (lives_any _).mono ?_
            rintro e w4 ⟨rfl, hb⟩
            have q4B : Below w.heap.size w w4 := (by refine Below.trans ?_ (hb.mono (by first | omega | (simp <;> omega))); (repeat (first | (with_reducible first | exact Below.refl _ _ | assumption | refine Below.drew ?_ | refine below_drewN ?_ _) | ((with_reducible first | refine Below.alloc ?_ ?_ _ | refine Below.setCell ?_ ?_ _); rotate_left; (first | omega | (simp <;> omega))))))
            have q4z := hb.size
            try simp at q4z
            have q4t : w.heap.size ≤ w4.heap.size := (by omega)
            have q4o : ∀ b o, b < w.heap.size → w4.cell? ⟨b, o, none⟩ = w.cell? ⟨b, o, none⟩ := fun b o h => q4B.cell (p := ⟨b, o, none⟩) h
            clear hb q3o q3f0 q3c0_6 q3c0_5 q3c0_4 q3c0_3 q3c0_2 q3c0_1 q3c0_0 q3s0 q3z q3B
            go_wp2_with fail
            go_ret
            exact ⟨rfl, q4B⟩
    · have HD0 := hide (fun W h => by have t := day_any B HB.out id day W h; unfold DayRet at t; rw [hV] at t; exact t)
      clear hV
      generalize dayE B id day = E at *
      have HD1 := hide (fun W h => by have t := HD0.out W h; rw [zAcrV] at t; exact t)
      clear HD0
      rcases hE with rfl | rfl
      · go_enter Try.func8, Try.ntmps8
        go_wp2_with (with_reducible refine wpList_load_row rfl 33 (.tmp 3) rfl w.heap.size rfl 33 B.C (0, 0) _ (blk_new rfl) Try.underlying33 rfl HS.out ?_)
        refine (HFW.out _ (HA.out.below (by (repeat (first | (with_reducible first | exact Below.refl _ _ | assumption | refine Below.drew ?_ | refine below_drewN ?_ _) | ((with_reducible first | refine Below.alloc ?_ ?_ _ | refine Below.setCell ?_ ?_ _); rotate_left; (first | omega | (simp <;> omega)))))))).mono ?_
        rintro e w1 ⟨rfl, hb⟩
        have X1 := hide (blk_below hb (by simp) (blk_new (k := w.heap.size) rfl))
        have q1B : Below w.heap.size w w1 := (by refine Below.trans ?_ (hb.mono (by first | omega | (simp <;> omega))); (repeat (first | (with_reducible first | exact Below.refl _ _ | assumption | refine Below.drew ?_ | refine below_drewN ?_ _) | ((with_reducible first | refine Below.alloc ?_ ?_ _ | refine Below.setCell ?_ ?_ _); rotate_left; (first | omega | (simp <;> omega))))))
        have q1z := hb.size
        try simp at q1z
        have q1t : w.heap.size ≤ w1.heap.size := (by omega)
        have q1o : ∀ b o, b < w.heap.size → w1.cell? ⟨b, o, none⟩ = w.cell? ⟨b, o, none⟩ := fun b o h => q1B.cell (p := ⟨b, o, none⟩) h
        clear hb
        go_wp2_with (with_reducible refine wpList_load_row rfl 33 (.tmp 3) rfl w.heap.size rfl 33 B.C (0, 0) _ (X1.out) Try.underlying33 rfl HS.out ?_)
        refine (HD1.out _ (HW.out.below q1B)).mono ?_
        rintro e w2 ⟨rfl, hb⟩
        have q2B : Below w.heap.size w w2 := (by refine Below.trans ?_ (hb.mono (by first | omega | (simp <;> omega))); (repeat (first | (with_reducible first | exact Below.refl _ _ | assumption | refine Below.drew ?_ | refine below_drewN ?_ _) | ((with_reducible first | refine Below.alloc ?_ ?_ _ | refine Below.setCell ?_ ?_ _); rotate_left; (first | omega | (simp <;> omega))))))
        have q2z := hb.size
        try simp at q2z
        have q2t : w.heap.size ≤ w2.heap.size := (by omega)
        have q2o : ∀ b o, b < w.heap.size → w2.cell? ⟨b, o, none⟩ = w.cell? ⟨b, o, none⟩ := fun b o h => q2B.cell (p := ⟨b, o, none⟩) h
        clear hb q1o q1z q1B
        go_wp2_with fail
        refine (lives_any _).mono ?_
        rintro e w3 ⟨rfl, hb⟩
        have q3B : Below w.heap.size w w3 := (by refine Below.trans ?_ (hb.mono (by first | omega | (simp <;> omega))); (repeat (first | (with_reducible first | exact Below.refl _ _ | assumption | refine Below.drew ?_ | refine below_drewN ?_ _) | ((with_reducible first | refine Below.alloc ?_ ?_ _ | refine Below.setCell ?_ ?_ _); rotate_left; (first | omega | (simp <;> omega))))))
        have q3z := hb.size
        try simp at q3z
        have q3t : w.heap.size ≤ w3.heap.size := (by omega)
        have q3o : ∀ b o, b < w.heap.size → w3.cell? ⟨b, o, none⟩ = w.cell? ⟨b, o, none⟩ := fun b o h => q3B.cell (p := ⟨b, o, none⟩) h
        clear hb q2o q2z q2B
        go_wp2_with fail
        go_ret
        exact ⟨rfl, q3B⟩
      · go_enter Try.func8, Try.ntmps8
        go_wp2_with (with_reducible refine wpList_load_row rfl 33 (.tmp 3) rfl w.heap.size rfl 33 B.C (0, 0) _ (blk_new rfl) Try.underlying33 rfl HS.out ?_)
        refine (HFW.out _ (HA.out.below (by (repeat (first | (with_reducible first | exact Below.refl _ _ | assumption | refine Below.drew ?_ | refine below_drewN ?_ _) | ((with_reducible first | refine Below.alloc ?_ ?_ _ | refine Below.setCell ?_ ?_ _); rotate_left; (first | omega | (simp <;> omega)))))))).mono ?_
        rintro e w1 ⟨rfl, hb⟩
        have X1 := hide (blk_below hb (by simp) (blk_new (k := w.heap.size) rfl))
        have q1B : Below w.heap.size w w1 := (by refine Below.trans ?_ (hb.mono (by first | omega | (simp <;> omega))); (repeat (first | (with_reducible first | exact Below.refl _ _ | assumption | refine Below.drew ?_ | refine below_drewN ?_ _) | ((with_reducible first | refine Below.alloc ?_ ?_ _ | refine Below.setCell ?_ ?_ _); rotate_left; (first | omega | (simp <;> omega))))))
        have q1z := hb.size
        try simp at q1z
        have q1t : w.heap.size ≤ w1.heap.size := (by omega)
        have q1o : ∀ b o, b < w.heap.size → w1.cell? ⟨b, o, none⟩ = w.cell? ⟨b, o, none⟩ := fun b o h => q1B.cell (p := ⟨b, o, none⟩) h
        clear hb
        go_wp2_with (with_reducible refine wpList_load_row rfl 33 (.tmp 3) rfl w.heap.size rfl 33 B.C (0, 0) _ (X1.out) Try.underlying33 rfl HS.out ?_)
        refine (HD1.out _ (HW.out.below q1B)).mono ?_
        rintro e w2 ⟨rfl, hb⟩
        have q2B : Below w.heap.size w w2 := (by refine Below.trans ?_ (hb.mono (by first | omega | (simp <;> omega))); (repeat (first | (with_reducible first | exact Below.refl _ _ | assumption | refine Below.drew ?_ | refine below_drewN ?_ _) | ((with_reducible first | refine Below.alloc ?_ ?_ _ | refine Below.setCell ?_ ?_ _); rotate_left; (first | omega | (simp <;> omega))))))
        have q2z := hb.size
        try simp at q2z
        have q2t : w.heap.size ≤ w2.heap.size := (by omega)
        have q2o : ∀ b o, b < w.heap.size → w2.cell? ⟨b, o, none⟩ = w.cell? ⟨b, o, none⟩ := fun b o h => q2B.cell (p := ⟨b, o, none⟩) h
        clear hb q1o q1z q1B
        go_wp2_with fail
        refine (lives_any _).mono ?_
        rintro e w3 ⟨rfl, hb⟩
        have q3B : Below w.heap.size w w3 := (by refine Below.trans ?_ (hb.mono (by first | omega | (simp <;> omega))); (repeat (first | (with_reducible first | exact Below.refl _ _ | assumption | refine Below.drew ?_ | refine below_drewN ?_ _) | ((with_reducible first | refine Below.alloc ?_ ?_ _ | refine Below.setCell ?_ ?_ _); rotate_left; (first | omega | (simp <;> omega))))))
        have q3z := hb.size
        try simp at q3z
        have q3t : w.heap.size ≤ w3.heap.size := (by omega)
        have q3o : ∀ b o, b < w.heap.size → w3.cell? ⟨b, o, none⟩ = w.cell? ⟨b, o, none⟩ := fun b o h => q3B.cell (p := ⟨b, o, none⟩) h
        clear hb q2o q2z q2B
        go_wp2_with fail
        go_ret
        exact ⟨rfl, q3B⟩
end Go.Proofs.Ytfolccncegejjaa
