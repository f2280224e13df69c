/- Texts laid together: Adb. -/
import Derived.Test.YtfolccncegejjaaQAdH
import Derived.Test.YtfolccncegejjaaQAcV
namespace Go.Proofs.Ytfolccncegejjaa
set_option maxRecDepth 4000
set_option linter.unusedSimpArgs false
set_option linter.unusedVariables false
open Go.RowKit
theorem ser_len (B : LBk) (id f t : Int) : (serV B id f t).length ≤ 1000000 := by
  by_cases h : serE B id f t = 0
  · unfold serV
    rw [if_pos h, serL_len]
    unfold serE at h
    repeat (first | (split at h; cases h) | omega)
    all_goals omega
  · unfold serV
    rw [if_neg h]
    exact Nat.zero_le _
set_option maxRecDepth 8000 in
set_option maxHeartbeats 8000000 in
theorem lawSeries_any (B : LBk) (id f t : Int) (w : World) (hA : BkArg w B) : Calls Try.prog 4 #[.agg B.C, .int .i64 id, .int .i64 f, .int .i64 t] w fun e w' => e = .returned (.bool true) ∧ Below w.heap.size w w' := by
  have HA := hide hA
  have hs := hA.bks.size
  have HS := hide (show (Try.prog.info? 33).map (·.size) = some B.C.size by rw [hs]; kernel_rfl)
  have HF := hide (fun h => few_ok hA h)
  obtain ⟨b, hb0⟩ : ∃ b, b = fewB B := ⟨_, rfl⟩
  have HFW := hide (fun W h => by have t := few_any B W h; rw [← hb0] at t; exact t)
  cases b with
  | false =>
    clear hA hs HF hb0
    go_enter Try.func4, Try.ntmps4
    go_wp2_with (with_reducible refine wpList_load_row rfl 33 (.tmp 4) rfl w.heap.size rfl 33 B.C (0, 0) _ (blk_new rfl) Try.underlying33 rfl HS.out ?_)
    refine (HFW.out _ (HA.out.below (by (repeat (first | (with_reducible first | exact Below.refl _ _ | assumption | refine Below.drew ?_ | refine below_drewN ?_ _) | ((with_reducible first | refine Below.alloc ?_ ?_ _ | refine Below.setCell ?_ ?_ _); rotate_left; (first | omega | (simp <;> omega)))))))).mono ?_
    rintro e w1 ⟨rfl, hb⟩
    have q1B : Below w.heap.size w w1 := (by refine Below.trans ?_ (hb.mono (by first | omega | (simp <;> omega))); (repeat (first | (with_reducible first | exact Below.refl _ _ | assumption | refine Below.drew ?_ | refine below_drewN ?_ _) | ((with_reducible first | refine Below.alloc ?_ ?_ _ | refine Below.setCell ?_ ?_ _); rotate_left; (first | omega | (simp <;> omega))))))
    have q1z := hb.size
    try simp at q1z
    have q1t : w.heap.size ≤ w1.heap.size := (by omega)
    have q1o : ∀ b o, b < w.heap.size → w1.cell? ⟨b, o, none⟩ = w.cell? ⟨b, o, none⟩ := fun b o h => q1B.cell (p := ⟨b, o, none⟩) h
    clear hb
    go_wp2_with fail
    refine (lives_any _).mono ?_
    rintro e w2 ⟨rfl, hb⟩
    have q2B : Below w.heap.size w w2 := (by refine Below.trans ?_ (hb.mono (by first | omega | (simp <;> omega))); (repeat (first | (with_reducible first | exact Below.refl _ _ | assumption | refine Below.drew ?_ | refine below_drewN ?_ _) | ((with_reducible first | refine Below.alloc ?_ ?_ _ | refine Below.setCell ?_ ?_ _); rotate_left; (first | omega | (simp <;> omega))))))
    have q2z := hb.size
    try simp at q2z
    have q2t : w.heap.size ≤ w2.heap.size := (by omega)
    have q2o : ∀ b o, b < w.heap.size → w2.cell? ⟨b, o, none⟩ = w.cell? ⟨b, o, none⟩ := fun b o h => q2B.cell (p := ⟨b, o, none⟩) h
    clear hb q1o q1z q1B
    go_wp2_with fail
    go_ret
    exact ⟨rfl, q2B⟩
  | true =>
    have HB := hide (HF.out hb0.symm).1
    have HW := hide (HF.out hb0.symm).2
    clear hA hs HF hb0
    obtain ⟨n, hn⟩ : ∃ x, x = (serV B id f t).length := ⟨_, rfl⟩
    obtain ⟨L, hL⟩ : ∃ x, x = atR (serV B id f t) := ⟨_, rfl⟩
    obtain ⟨E, hE⟩ : ∃ x, x = serE B id f t := ⟨_, rfl⟩
    have HN := hide (show n ≤ 1000000 by rw [hn]; exact ser_len B id f t)
    have HD1 := hide (fun W h => by have t := series_any B HB.out id f t W h; unfold SerRet at t; rw [← hn, ← hL, ← hE] at t; exact t)
    have HD2 := hide (fun W h => by have t := rseries_any B HB.out id f t W h; unfold SerRet at t; rw [← hn, ← hL, ← hE] at t; exact t)
    clear hn hL hE
    by_cases c0 : 0 ≤ f
    · by_cases c1 : t ≤ 73048
      · by_cases c2 : 100 < wrap64 (t - f)
        · by_cases c3 : wrap64 (t - f) < 4000
          · go_enter Try.func4, Try.ntmps4
            go_wp2_with (with_reducible refine wpList_load_row rfl 33 (.tmp 4) rfl w.heap.size rfl 33 B.C (0, 0) _ (blk_new rfl) Try.underlying33 rfl HS.out ?_)
            refine (HFW.out _ (HA.out.below (by (repeat (first | (with_reducible first | exact Below.refl _ _ | assumption | refine Below.drew ?_ | refine below_drewN ?_ _) | ((with_reducible first | refine Below.alloc ?_ ?_ _ | refine Below.setCell ?_ ?_ _); rotate_left; (first | omega | (simp <;> omega)))))))).mono ?_
            rintro e w1 ⟨rfl, hb⟩
            have X1 := hide (blk_below hb (by simp) (blk_new (k := w.heap.size) rfl))
            have q1B : Below w.heap.size w w1 := (by refine Below.trans ?_ (hb.mono (by first | omega | (simp <;> omega))); (repeat (first | (with_reducible first | exact Below.refl _ _ | assumption | refine Below.drew ?_ | refine below_drewN ?_ _) | ((with_reducible first | refine Below.alloc ?_ ?_ _ | refine Below.setCell ?_ ?_ _); rotate_left; (first | omega | (simp <;> omega))))))
            have q1z := hb.size
            try simp at q1z
            have q1t : w.heap.size ≤ w1.heap.size := (by omega)
            have q1o : ∀ b o, b < w.heap.size → w1.cell? ⟨b, o, none⟩ = w.cell? ⟨b, o, none⟩ := fun b o h => q1B.cell (p := ⟨b, o, none⟩) h
            clear hb
            go_wp2_with fail
            refine (lives_any _).mono ?_
            rintro e w2 ⟨rfl, hb⟩
            have q2B : Below w.heap.size w w2 := (by refine Below.trans ?_ (hb.mono (by first | omega | (simp <;> omega))); (repeat (first | (with_reducible first | exact Below.refl _ _ | assumption | refine Below.drew ?_ | refine below_drewN ?_ _) | ((with_reducible first | refine Below.alloc ?_ ?_ _ | refine Below.setCell ?_ ?_ _); rotate_left; (first | omega | (simp <;> omega))))))
            have q2z := hb.size
            try simp at q2z
            have q2t : w.heap.size ≤ w2.heap.size := (by omega)
            have q2o : ∀ b o, b < w.heap.size → w2.cell? ⟨b, o, none⟩ = w.cell? ⟨b, o, none⟩ := fun b o h => q2B.cell (p := ⟨b, o, none⟩) h
            clear hb q1o q1z q1B
            go_wp2_with fail
            go_ret
            exact ⟨rfl, q2B⟩
          · have e3 : 4000 ≤ wrap64 (t - f) := by omega
            clear c3
            go_enter Try.func4, Try.ntmps4
            go_wp2_with (with_reducible refine wpList_load_row rfl 33 (.tmp 4) rfl w.heap.size rfl 33 B.C (0, 0) _ (blk_new rfl) Try.underlying33 rfl HS.out ?_)
            refine (HFW.out _ (HA.out.below (by (repeat (first | (with_reducible first | exact Below.refl _ _ | assumption | refine Below.drew ?_ | refine below_drewN ?_ _) | ((with_reducible first | refine Below.alloc ?_ ?_ _ | refine Below.setCell ?_ ?_ _); rotate_left; (first | omega | (simp <;> omega)))))))).mono ?_
            rintro e w1 ⟨rfl, hb⟩
            have X1 := hide (blk_below hb (by simp) (blk_new (k := w.heap.size) rfl))
            have q1B : Below w.heap.size w w1 := (by refine Below.trans ?_ (hb.mono (by first | omega | (simp <;> omega))); (repeat (first | (with_reducible first | exact Below.refl _ _ | assumption | refine Below.drew ?_ | refine below_drewN ?_ _) | ((with_reducible first | refine Below.alloc ?_ ?_ _ | refine Below.setCell ?_ ?_ _); rotate_left; (first | omega | (simp <;> omega))))))
            have q1z := hb.size
            try simp at q1z
            have q1t : w.heap.size ≤ w1.heap.size := (by omega)
            have q1o : ∀ b o, b < w.heap.size → w1.cell? ⟨b, o, none⟩ = w.cell? ⟨b, o, none⟩ := fun b o h => q1B.cell (p := ⟨b, o, none⟩) h
            clear hb
            go_wp2_with (with_reducible refine wpList_load_row rfl 33 (.tmp 4) rfl w.heap.size rfl 33 B.C (0, 0) _ (X1.out) Try.underlying33 rfl HS.out ?_)
            refine (HD1.out _ (HW.out.below q1B)).mono ?_
            rintro e w2 ⟨A1, c1, rfl, hr, hb⟩
            have X2 := hide (blk_below hb (by omega) X1.out)
            have HR1 := hide hr
            clear hr
            have q2B : Below w.heap.size w w2 := (by refine Below.trans ?_ (hb.mono (by first | omega | (simp <;> omega))); (repeat (first | (with_reducible first | exact Below.refl _ _ | assumption | refine Below.drew ?_ | refine below_drewN ?_ _) | ((with_reducible first | refine Below.alloc ?_ ?_ _ | refine Below.setCell ?_ ?_ _); rotate_left; (first | omega | (simp <;> omega))))))
            have q2z := hb.size
            try simp at q2z
            have q2t : w.heap.size ≤ w2.heap.size := (by omega)
            have q2o : ∀ b o, b < w.heap.size → w2.cell? ⟨b, o, none⟩ = w.cell? ⟨b, o, none⟩ := fun b o h => q2B.cell (p := ⟨b, o, none⟩) h
            clear hb q1o q1z q1B
            go_wp2_with (with_reducible refine wpList_load_row rfl 33 (.tmp 4) rfl w.heap.size rfl 33 B.C (0, 0) _ (X2.out) Try.underlying33 rfl HS.out ?_)
            refine (HD2.out _ (HW.out.below q2B)).mono ?_
            rintro e w3 ⟨A2, c2, rfl, hr, hb⟩
            have HR2 := hide hr
            have HR3 := hide (HR1.out.below hb)
            clear hr
            have q3B : Below w.heap.size w w3 := (by refine Below.trans ?_ (hb.mono (by first | omega | (simp <;> omega))); (repeat (first | (with_reducible first | exact Below.refl _ _ | assumption | refine Below.drew ?_ | refine below_drewN ?_ _) | ((with_reducible first | refine Below.alloc ?_ ?_ _ | refine Below.setCell ?_ ?_ _); rotate_left; (first | omega | (simp <;> omega))))))
            have q3z := hb.size
            try simp at q3z
            have q3t : w.heap.size ≤ w3.heap.size := (by omega)
            have q3o : ∀ b o, b < w.heap.size → w3.cell? ⟨b, o, none⟩ = w.cell? ⟨b, o, none⟩ := fun b o h => q3B.cell (p := ⟨b, o, none⟩) h
            clear hb q2o q2z q2B
            go_wp2_with fail
            refine (rsame_eq A1 A2 n c1 c2 L HN.out _ HR3.out HR2.out).mono ?_
            rintro e w4 ⟨rfl, hb⟩
            have q4B : Below w.heap.size w w4 := (by refine Below.trans ?_ (hb.mono (by first | omega | (simp <;> omega))); (repeat (first | (with_reducible first | exact Below.refl _ _ | assumption | refine Below.drew ?_ | refine below_drewN ?_ _) | ((with_reducible first | refine Below.alloc ?_ ?_ _ | refine Below.setCell ?_ ?_ _); rotate_left; (first | omega | (simp <;> omega))))))
            have q4z := hb.size
            try simp at q4z
            have q4t : w.heap.size ≤ w4.heap.size := (by omega)
            have q4o : ∀ b o, b < w.heap.size → w4.cell? ⟨b, o, none⟩ = w.cell? ⟨b, o, none⟩ := fun b o h => q4B.cell (p := ⟨b, o, none⟩) h
            clear hb q3o q3z q3B
            go_wp2_with fail
            refine (lives_any _).mono ?_
            rintro e w5 ⟨rfl, hb⟩
            have q5B : Below w.heap.size w w5 := (by refine Below.trans ?_ (hb.mono (by first | omega | (simp <;> omega))); (repeat (first | (with_reducible first | exact Below.refl _ _ | assumption | refine Below.drew ?_ | refine below_drewN ?_ _) | ((with_reducible first | refine Below.alloc ?_ ?_ _ | refine Below.setCell ?_ ?_ _); rotate_left; (first | omega | (simp <;> omega))))))
            have q5z := hb.size
            try simp at q5z
            have q5t : w.heap.size ≤ w5.heap.size := (by omega)
            have q5o : ∀ b o, b < w.heap.size → w5.cell? ⟨b, o, none⟩ = w.cell? ⟨b, o, none⟩ := fun b o h => q5B.cell (p := ⟨b, o, none⟩) h
            clear hb q4o q4z q4B
            go_wp2_with fail
            go_ret
            exact ⟨rfl, q5B⟩
        · have e2 : wrap64 (t - f) ≤ 100 := by omega
          clear c2
          go_enter Try.func4, Try.ntmps4
          go_wp2_with (with_reducible refine wpList_load_row rfl 33 (.tmp 4) rfl w.heap.size rfl 33 B.C (0, 0) _ (blk_new rfl) Try.underlying33 rfl HS.out ?_)
          refine (HFW.out _ (HA.out.below (by (repeat (first | (with_reducible first | exact Below.refl _ _ | assumption | refine Below.drew ?_ | refine below_drewN ?_ _) | ((with_reducible first | refine Below.alloc ?_ ?_ _ | refine Below.setCell ?_ ?_ _); rotate_left; (first | omega | (simp <;> omega)))))))).mono ?_
          rintro e w1 ⟨rfl, hb⟩
          have X1 := hide (blk_below hb (by simp) (blk_new (k := w.heap.size) rfl))
          have q1B : Below w.heap.size w w1 := (by refine Below.trans ?_ (hb.mono (by first | omega | (simp <;> omega))); (repeat (first | (with_reducible first | exact Below.refl _ _ | assumption | refine Below.drew ?_ | refine below_drewN ?_ _) | ((with_reducible first | refine Below.alloc ?_ ?_ _ | refine Below.setCell ?_ ?_ _); rotate_left; (first | omega | (simp <;> omega))))))
          have q1z := hb.size
          try simp at q1z
          have q1t : w.heap.size ≤ w1.heap.size := (by omega)
          have q1o : ∀ b o, b < w.heap.size → w1.cell? ⟨b, o, none⟩ = w.cell? ⟨b, o, none⟩ := fun b o h => q1B.cell (p := ⟨b, o, none⟩) h
          clear hb
          go_wp2_with (with_reducible refine wpList_load_row rfl 33 (.tmp 4) rfl w.heap.size rfl 33 B.C (0, 0) _ (X1.out) Try.underlying33 rfl HS.out ?_)
          refine (HD1.out _ (HW.out.below q1B)).mono ?_
          rintro e w2 ⟨A1, c1, rfl, hr, hb⟩
          have X2 := hide (blk_below hb (by omega) X1.out)
          have HR1 := hide hr
          clear hr
          have q2B : Below w.heap.size w w2 := (by refine Below.trans ?_ (hb.mono (by first | omega | (simp <;> omega))); (repeat (first | (with_reducible first | exact Below.refl _ _ | assumption | refine Below.drew ?_ | refine below_drewN ?_ _) | ((with_reducible first | refine Below.alloc ?_ ?_ _ | refine Below.setCell ?_ ?_ _); rotate_left; (first | omega | (simp <;> omega))))))
          have q2z := hb.size
          try simp at q2z
          have q2t : w.heap.size ≤ w2.heap.size := (by omega)
          have q2o : ∀ b o, b < w.heap.size → w2.cell? ⟨b, o, none⟩ = w.cell? ⟨b, o, none⟩ := fun b o h => q2B.cell (p := ⟨b, o, none⟩) h
          clear hb q1o q1z q1B
          go_wp2_with (with_reducible refine wpList_load_row rfl 33 (.tmp 4) rfl w.heap.size rfl 33 B.C (0, 0) _ (X2.out) Try.underlying33 rfl HS.out ?_)
          refine (HD2.out _ (HW.out.below q2B)).mono ?_
          rintro e w3 ⟨A2, c2, rfl, hr, hb⟩
          have HR2 := hide hr
          have HR3 := hide (HR1.out.below hb)
          clear hr
          have q3B : Below w.heap.size w w3 := (by refine Below.trans ?_ (hb.mono (by first | omega | (simp <;> omega))); (repeat (first | (with_reducible first | exact Below.refl _ _ | assumption | refine Below.drew ?_ | refine below_drewN ?_ _) | ((with_reducible first | refine Below.alloc ?_ ?_ _ | refine Below.setCell ?_ ?_ _); rotate_left; (first | omega | (simp <;> omega))))))
          have q3z := hb.size
          try simp at q3z
          have q3t : w.heap.size ≤ w3.heap.size := (by omega)
          have q3o : ∀ b o, b < w.heap.size → w3.cell? ⟨b, o, none⟩ = w.cell? ⟨b, o, none⟩ := fun b o h => q3B.cell (p := ⟨b, o, none⟩) h
          clear hb q2o q2z q2B
          go_wp2_with fail
          refine (rsame_eq A1 A2 n c1 c2 L HN.out _ HR3.out HR2.out).mono ?_
          rintro e w4 ⟨rfl, hb⟩
          have q4B : Below w.heap.size w w4 := (by refine Below.trans ?_ (hb.mono (by first | omega | (simp <;> omega))); (repeat (first | (with_reducible first | exact Below.refl _ _ | assumption | refine Below.drew ?_ | refine below_drewN ?_ _) | ((with_reducible first | refine Below.alloc ?_ ?_ _ | refine Below.setCell ?_ ?_ _); rotate_left; (first | omega | (simp <;> omega))))))
          have q4z := hb.size
          try simp at q4z
          have q4t : w.heap.size ≤ w4.heap.size := (by omega)
          have q4o : ∀ b o, b < w.heap.size → w4.cell? ⟨b, o, none⟩ = w.cell? ⟨b, o, none⟩ := fun b o h => q4B.cell (p := ⟨b, o, none⟩) h
          clear hb q3o q3z q3B
          go_wp2_with fail
          refine (lives_any _).mono ?_
          rintro e w5 ⟨rfl, hb⟩
          have q5B : Below w.heap.size w w5 := (by refine Below.trans ?_ (hb.mono (by first | omega | (simp <;> omega))); (repeat (first | (with_reducible first | exact Below.refl _ _ | assumption | refine Below.drew ?_ | refine below_drewN ?_ _) | ((with_reducible first | refine Below.alloc ?_ ?_ _ | refine Below.setCell ?_ ?_ _); rotate_left; (first | omega | (simp <;> omega))))))
          have q5z := hb.size
          try simp at q5z
          have q5t : w.heap.size ≤ w5.heap.size := (by omega)
          have q5o : ∀ b o, b < w.heap.size → w5.cell? ⟨b, o, none⟩ = w.cell? ⟨b, o, none⟩ := fun b o h => q5B.cell (p := ⟨b, o, none⟩) h
          clear hb q4o q4z q4B
          go_wp2_with fail
          go_ret
          exact ⟨rfl, q5B⟩
      · have e1 : 73048 < t := by omega
        clear c1
        go_enter Try.func4, Try.ntmps4
        go_wp2_with (with_reducible refine wpList_load_row rfl 33 (.tmp 4) rfl w.heap.size rfl 33 B.C (0, 0) _ (blk_new rfl) Try.underlying33 rfl HS.out ?_)
        refine (HFW.out _ (HA.out.below (by (repeat (first | (with_reducible first | exact Below.refl _ _ | assumption | refine Below.drew ?_ | refine below_drewN ?_ _) | ((with_reducible first | refine Below.alloc ?_ ?_ _ | refine Below.setCell ?_ ?_ _); rotate_left; (first | omega | (simp <;> omega)))))))).mono ?_
        rintro e w1 ⟨rfl, hb⟩
        have X1 := hide (blk_below hb (by simp) (blk_new (k := w.heap.size) rfl))
        have q1B : Below w.heap.size w w1 := (by refine Below.trans ?_ (hb.mono (by first | omega | (simp <;> omega))); (repeat (first | (with_reducible first | exact Below.refl _ _ | assumption | refine Below.drew ?_ | refine below_drewN ?_ _) | ((with_reducible first | refine Below.alloc ?_ ?_ _ | refine Below.setCell ?_ ?_ _); rotate_left; (first | omega | (simp <;> omega))))))
        have q1z := hb.size
        try simp at q1z
        have q1t : w.heap.size ≤ w1.heap.size := (by omega)
        have q1o : ∀ b o, b < w.heap.size → w1.cell? ⟨b, o, none⟩ = w.cell? ⟨b, o, none⟩ := fun b o h => q1B.cell (p := ⟨b, o, none⟩) h
        clear hb
        go_wp2_with (with_reducible refine wpList_load_row rfl 33 (.tmp 4) rfl w.heap.size rfl 33 B.C (0, 0) _ (X1.out) Try.underlying33 rfl HS.out ?_)
        refine (HD1.out _ (HW.out.below q1B)).mono ?_
        rintro e w2 ⟨A1, c1, rfl, hr, hb⟩
        have X2 := hide (blk_below hb (by omega) X1.out)
        have HR1 := hide hr
        clear hr
        have q2B : Below w.heap.size w w2 := (by refine Below.trans ?_ (hb.mono (by first | omega | (simp <;> omega))); (repeat (first | (with_reducible first | exact Below.refl _ _ | assumption | refine Below.drew ?_ | refine below_drewN ?_ _) | ((with_reducible first | refine Below.alloc ?_ ?_ _ | refine Below.setCell ?_ ?_ _); rotate_left; (first | omega | (simp <;> omega))))))
        have q2z := hb.size
        try simp at q2z
        have q2t : w.heap.size ≤ w2.heap.size := (by omega)
        have q2o : ∀ b o, b < w.heap.size → w2.cell? ⟨b, o, none⟩ = w.cell? ⟨b, o, none⟩ := fun b o h => q2B.cell (p := ⟨b, o, none⟩) h
        clear hb q1o q1z q1B
        go_wp2_with (with_reducible refine wpList_load_row rfl 33 (.tmp 4) rfl w.heap.size rfl 33 B.C (0, 0) _ (X2.out) Try.underlying33 rfl HS.out ?_)
        refine (HD2.out _ (HW.out.below q2B)).mono ?_
        rintro e w3 ⟨A2, c2, rfl, hr, hb⟩
        have HR2 := hide hr
        have HR3 := hide (HR1.out.below hb)
        clear hr
        have q3B : Below w.heap.size w w3 := (by refine Below.trans ?_ (hb.mono (by first | omega | (simp <;> omega))); (repeat (first | (with_reducible first | exact Below.refl _ _ | assumption | refine Below.drew ?_ | refine below_drewN ?_ _) | ((with_reducible first | refine Below.alloc ?_ ?_ _ | refine Below.setCell ?_ ?_ _); rotate_left; (first | omega | (simp <;> omega))))))
        have q3z := hb.size
        try simp at q3z
        have q3t : w.heap.size ≤ w3.heap.size := (by omega)
        have q3o : ∀ b o, b < w.heap.size → w3.cell? ⟨b, o, none⟩ = w.cell? ⟨b, o, none⟩ := fun b o h => q3B.cell (p := ⟨b, o, none⟩) h
        clear hb q2o q2z q2B
        go_wp2_with fail
        refine (rsame_eq A1 A2 n c1 c2 L HN.out _ HR3.out HR2.out).mono ?_
        rintro e w4 ⟨rfl, hb⟩
        have q4B : Below w.heap.size w w4 := (by refine Below.trans ?_ (hb.mono (by first | omega | (simp <;> omega))); (repeat (first | (with_reducible first | exact Below.refl _ _ | assumption | refine Below.drew ?_ | refine below_drewN ?_ _) | ((with_reducible first | refine Below.alloc ?_ ?_ _ | refine Below.setCell ?_ ?_ _); rotate_left; (first | omega | (simp <;> omega))))))
        have q4z := hb.size
        try simp at q4z
        have q4t : w.heap.size ≤ w4.heap.size := (by omega)
        have q4o : ∀ b o, b < w.heap.size → w4.cell? ⟨b, o, none⟩ = w.cell? ⟨b, o, none⟩ := fun b o h => q4B.cell (p := ⟨b, o, none⟩) h
        clear hb q3o q3z q3B
        go_wp2_with fail
        refine (lives_any _).mono ?_
        rintro e w5 ⟨rfl, hb⟩
        have q5B : Below w.heap.size w w5 := (by refine Below.trans ?_ (hb.mono (by first | omega | (simp <;> omega))); (repeat (first | (with_reducible first | exact Below.refl _ _ | assumption | refine Below.drew ?_ | refine below_drewN ?_ _) | ((with_reducible first | refine Below.alloc ?_ ?_ _ | refine Below.setCell ?_ ?_ _); rotate_left; (first | omega | (simp <;> omega))))))
        have q5z := hb.size
        try simp at q5z
        have q5t : w.heap.size ≤ w5.heap.size := (by omega)
        have q5o : ∀ b o, b < w.heap.size → w5.cell? ⟨b, o, none⟩ = w.cell? ⟨b, o, none⟩ := fun b o h => q5B.cell (p := ⟨b, o, none⟩) h
        clear hb q4o q4z q4B
        go_wp2_with fail
        go_ret
        exact ⟨rfl, q5B⟩
    · have e0 : f < 0 := by omega
      clear c0
      go_enter Try.func4, Try.ntmps4
      go_wp2_with (with_reducible refine wpList_load_row rfl 33 (.tmp 4) rfl w.heap.size rfl 33 B.C (0, 0) _ (blk_new rfl) Try.underlying33 rfl HS.out ?_)
      refine (HFW.out _ (HA.out.below (by (repeat (first | (with_reducible first | exact Below.refl _ _ | assumption | refine Below.drew ?_ | refine below_drewN ?_ _) | ((with_reducible first | refine Below.alloc ?_ ?_ _ | refine Below.setCell ?_ ?_ _); rotate_left; (first | omega | (simp <;> omega)))))))).mono ?_
      rintro e w1 ⟨rfl, hb⟩
      have X1 := hide (blk_below hb (by simp) (blk_new (k := w.heap.size) rfl))
      have q1B : Below w.heap.size w w1 := (by refine Below.trans ?_ (hb.mono (by first | omega | (simp <;> omega))); (repeat (first | (with_reducible first | exact Below.refl _ _ | assumption | refine Below.drew ?_ | refine below_drewN ?_ _) | ((with_reducible first | refine Below.alloc ?_ ?_ _ | refine Below.setCell ?_ ?_ _); rotate_left; (first | omega | (simp <;> omega))))))
      have q1z := hb.size
      try simp at q1z
      have q1t : w.heap.size ≤ w1.heap.size := (by omega)
      have q1o : ∀ b o, b < w.heap.size → w1.cell? ⟨b, o, none⟩ = w.cell? ⟨b, o, none⟩ := fun b o h => q1B.cell (p := ⟨b, o, none⟩) h
      clear hb
      go_wp2_with (with_reducible refine wpList_load_row rfl 33 (.tmp 4) rfl w.heap.size rfl 33 B.C (0, 0) _ (X1.out) Try.underlying33 rfl HS.out ?_)
      refine (HD1.out _ (HW.out.below q1B)).mono ?_
      rintro e w2 ⟨A1, c1, rfl, hr, hb⟩
      have X2 := hide (blk_below hb (by omega) X1.out)
      have HR1 := hide hr
      clear hr
      have q2B : Below w.heap.size w w2 := (by refine Below.trans ?_ (hb.mono (by first | omega | (simp <;> omega))); (repeat (first | (with_reducible first | exact Below.refl _ _ | assumption | refine Below.drew ?_ | refine below_drewN ?_ _) | ((with_reducible first | refine Below.alloc ?_ ?_ _ | refine Below.setCell ?_ ?_ _); rotate_left; (first | omega | (simp <;> omega))))))
      have q2z := hb.size
      try simp at q2z
      have q2t : w.heap.size ≤ w2.heap.size := (by omega)
      have q2o : ∀ b o, b < w.heap.size → w2.cell? ⟨b, o, none⟩ = w.cell? ⟨b, o, none⟩ := fun b o h => q2B.cell (p := ⟨b, o, none⟩) h
      clear hb q1o q1z q1B
      go_wp2_with (with_reducible refine wpList_load_row rfl 33 (.tmp 4) rfl w.heap.size rfl 33 B.C (0, 0) _ (X2.out) Try.underlying33 rfl HS.out ?_)
      refine (HD2.out _ (HW.out.below q2B)).mono ?_
      rintro e w3 ⟨A2, c2, rfl, hr, hb⟩
      have HR2 := hide hr
      have HR3 := hide (HR1.out.below hb)
      clear hr
      have q3B : Below w.heap.size w w3 := (by refine Below.trans ?_ (hb.mono (by first | omega | (simp <;> omega))); (repeat (first | (with_reducible first | exact Below.refl _ _ | assumption | refine Below.drew ?_ | refine below_drewN ?_ _) | ((with_reducible first | refine Below.alloc ?_ ?_ _ | refine Below.setCell ?_ ?_ _); rotate_left; (first | omega | (simp <;> omega))))))
      have q3z := hb.size
      try simp at q3z
      have q3t : w.heap.size ≤ w3.heap.size := (by omega)
      have q3o : ∀ b o, b < w.heap.size → w3.cell? ⟨b, o, none⟩ = w.cell? ⟨b, o, none⟩ := fun b o h => q3B.cell (p := ⟨b, o, none⟩) h
      clear hb q2o q2z q2B
      go_wp2_with fail
      refine (rsame_eq A1 A2 n c1 c2 L HN.out _ HR3.out HR2.out).mono ?_
      rintro e w4 ⟨rfl, hb⟩
      have q4B : Below w.heap.size w w4 := (by refine Below.trans ?_ (hb.mono (by first | omega | (simp <;> omega))); (repeat (first | (with_reducible first | exact Below.refl _ _ | assumption | refine Below.drew ?_ | refine below_drewN ?_ _) | ((with_reducible first | refine Below.alloc ?_ ?_ _ | refine Below.setCell ?_ ?_ _); rotate_left; (first | omega | (simp <;> omega))))))
      have q4z := hb.size
      try simp at q4z
      have q4t : w.heap.size ≤ w4.heap.size := (by omega)
      have q4o : ∀ b o, b < w.heap.size → w4.cell? ⟨b, o, none⟩ = w.cell? ⟨b, o, none⟩ := fun b o h => q4B.cell (p := ⟨b, o, none⟩) h
      clear hb q3o q3z q3B
      go_wp2_with fail
      refine (lives_any _).mono ?_
      rintro e w5 ⟨rfl, hb⟩
      have q5B : Below w.heap.size w w5 := (by refine Below.trans ?_ (hb.mono (by first | omega | (simp <;> omega))); (repeat (first | (with_reducible first | exact Below.refl _ _ | assumption | refine Below.drew ?_ | refine below_drewN ?_ _) | ((with_reducible first | refine Below.alloc ?_ ?_ _ | refine Below.setCell ?_ ?_ _); rotate_left; (first | omega | (simp <;> omega))))))
      have q5z := hb.size
      try simp at q5z
      have q5t : w.heap.size ≤ w5.heap.size := (by omega)
      have q5o : ∀ b o, b < w.heap.size → w5.cell? ⟨b, o, none⟩ = w.cell? ⟨b, o, none⟩ := fun b o h => q5B.cell (p := ⟨b, o, none⟩) h
      clear hb q4o q4z q4B
      go_wp2_with fail
      go_ret
      exact ⟨rfl, q5B⟩
end Go.Proofs.Ytfolccncegejjaa
