/- Texts laid together: AcL. -/
import Derived.Test.YtdjlaiilngechaaGreatDoorXAcK
import Derived.Test.YtdjlaiilngechaaGreatDoorXK0
namespace Go.Proofs.YtdjlaiilngechaaGreatDoor
set_option maxRecDepth 4000
set_option linter.unusedSimpArgs false
set_option linter.unusedVariables false
open Go.RowKit
set_option maxRecDepth 8000 in
set_option maxHeartbeats 20000000 in
theorem rday_any (B : LBk) (hB : BkOK B) (id day : Int) (w : World) (hw : BkIn w B) :
  Calls Tryz.prog 52 #[.agg B.C, .int .i64 id, .int .i64 day] w (DayRet B id day w) := by
 have HB := hide hB
 have HW := hide hw
 have HS := hide (bk_size hB)
 have h19 := hB.bks.jou
 obtain ⟨x, hx⟩ : ∃ x, x = getA B.a id B.an := ⟨_, rfl⟩
 obtain ⟨h, hh⟩ : ∃ h, h = hasA B.a id B.an := ⟨_, rfl⟩
 have HF := hide (fun W hr => by have t := rfind_any B.C B.aA B.an B.ac B.jA B.jn B.jc HB.out.bks B.a id HB.out.an W hr; rw [← hx, ← hh] at t; exact t)
 cases h with
 | false =>
  have HV := hide (day_no day (show hasB B id = false from hh.symm))
  clear hB hw hx hh h19
  go_enter Tryz.func52, Tryz.ntmps52
  go_wp2_with (with_reducible refine wpList_load_row rfl 33 (.tmp 3) rfl w.heap.size rfl 33 B.C (0, 0) _ (two_boxes _ _ _) Tryz.underlying33 rfl HS.out ?_)
  refine (HF.out _ (HW.out.acc.below belT)).mono ?_
  rintro e w5 ⟨rfl, hb⟩
  have X5 := hide (blk_below hb (by simp; omega) (two_boxes _ _ _))
  have q5B : Below w.heap.size w w5 := qB hb
  have q5z := hb.size
  try simp at q5z
  have q5t : w.heap.size ≤ w5.heap.size := (by omega)
  obtain ⟨q5s0, q5n0_0, q5n0_1, q5n0_2⟩ := kB w5.heap.size (w.heap.size + 1)
  obtain ⟨q5c0_0, q5c0_1, q5c0_2, q5c0_3, q5c0_4, q5c0_5, q5c0_6, q5f0⟩ := kC7 hb (w.heap.size + 1)
  simp [go_sem, *] at q5c0_0 q5c0_1 q5c0_2 q5c0_3 q5c0_4 q5c0_5 q5c0_6 q5f0
  have q5o := belO q5B
  clear hb
  have B5 := hide q5B
  have zz1 : w.heap.size < w5.heap.size := by omega
  have zz2 : w.heap.size ≤ w5.heap.size := by omega
  have zz3 : w.heap.size < w5.heap.size + 1 := by omega
  go_wp2_with fail
  refine bodyPost_ret (by simp [results, Tryz.results52, go_sem, *] <;> rfl) rfl ?_
  refine dayRet_of HV.out (by rw [zAcrV]) (B5.out.trans ?_)
  (repeat (first | (with_reducible first | exact Below.refl _ _ | assumption | refine Below.drew ?_) | ((with_reducible first | refine Below.alloc ?_ ?_ _ | refine Below.setCell ?_ ?_ _); rotate_left; (first | omega | (simp <;> omega)))))
 | true =>
  cases hv : vday day with
  | false =>
   have HV := hide (day_bad (show hasB B id = true from hh.symm) hv)
   have HD := hide hv
   clear hB hw hx hh hv h19
   go_enter Tryz.func52, Tryz.ntmps52
   go_wp2_with (with_reducible refine wpList_load_row rfl 33 (.tmp 3) rfl w.heap.size rfl 33 B.C (0, 0) _ (two_boxes _ _ _) Tryz.underlying33 rfl HS.out ?_)
   refine (HF.out _ (HW.out.acc.below belT)).mono ?_
   rintro e w5 ⟨rfl, hb⟩
   have X5 := hide (blk_below hb (by simp; omega) (two_boxes _ _ _))
   have q5B : Below w.heap.size w w5 := qB hb
   have q5z := hb.size
   try simp at q5z
   have q5t : w.heap.size ≤ w5.heap.size := (by omega)
   obtain ⟨q5s0, q5n0_0, q5n0_1, q5n0_2⟩ := kB w5.heap.size (w.heap.size + 1)
   obtain ⟨q5c0_0, q5c0_1, q5c0_2, q5c0_3, q5c0_4, q5c0_5, q5c0_6, q5f0⟩ := kC7 hb (w.heap.size + 1)
   simp [go_sem, *] at q5c0_0 q5c0_1 q5c0_2 q5c0_3 q5c0_4 q5c0_5 q5c0_6 q5f0
   have q5o := belO q5B
   clear hb
   have B5 := hide q5B
   have zz1 : w.heap.size < w5.heap.size := by omega
   have zz2 : w.heap.size ≤ w5.heap.size := by omega
   have zz3 : w.heap.size < w5.heap.size + 1 := by omega
   go_wp2_with fail
   refine (rvalid_any day _).mono ?_
   rintro e w9 ⟨rfl, rfl⟩
   rw [HD.out]
   go_wp2_with fail
   refine bodyPost_ret (by simp [results, Tryz.results52, go_sem, *] <;> rfl) rfl ?_
   refine dayRet_of HV.out (by rw [zAcrV]) (B5.out.trans ?_)
   (repeat (first | (with_reducible first | exact Below.refl _ _ | assumption | refine Below.drew ?_) | ((with_reducible first | refine Below.alloc ?_ ?_ _ | refine Below.setCell ?_ ?_ _); rotate_left; (first | omega | (simp <;> omega)))))
  | true =>
   have HD := hide hv
   have HV := hide (day_ok (show hasB B id = true from hh.symm) hv)
   clear hB hw hx hh hv
   obtain ⟨Ac, hAc⟩ : ∃ a, a = acr B id day := ⟨_, rfl⟩
   rw [← hAc] at HV
   obtain ⟨bal, hbal⟩ : ∃ a, a = balB B id day := ⟨_, rfl⟩
   have HBI := hide (show IIn bal from by rw [hbal]; exact balB_in B id day)
   have HAT := hide (fun W hj => by have t := rat_any B.jA B.jn B.jc B.E id 73048 day HB.out.jn W hj; rw [show sumE B.E id (upB 73048 day) B.jn = bal from hbal.symm] at t; exact t)
   cases ha : actB B id day with
   | false =>
    have HA := hide ha
    have HC := hide (hAc.trans (acr_no ha))
    clear ha hAc hbal h19
    go_enter Tryz.func52, Tryz.ntmps52
    go_wp2_with (with_reducible refine wpList_load_row rfl 33 (.tmp 3) rfl w.heap.size rfl 33 B.C (0, 0) _ (two_boxes _ _ _) Tryz.underlying33 rfl HS.out ?_)
    refine (HF.out _ (HW.out.acc.below belT)).mono ?_
    rintro e w5 ⟨rfl, hb⟩
    have X5 := hide (blk_below hb (by simp; omega) (two_boxes _ _ _))
    have q5B : Below w.heap.size w w5 := qB hb
    have q5z := hb.size
    try simp at q5z
    have q5t : w.heap.size ≤ w5.heap.size := (by omega)
    obtain ⟨q5s0, q5n0_0, q5n0_1, q5n0_2⟩ := kB w5.heap.size (w.heap.size + 1)
    obtain ⟨q5c0_0, q5c0_1, q5c0_2, q5c0_3, q5c0_4, q5c0_5, q5c0_6, q5f0⟩ := kC7 hb (w.heap.size + 1)
    simp [go_sem, *] at q5c0_0 q5c0_1 q5c0_2 q5c0_3 q5c0_4 q5c0_5 q5c0_6 q5f0
    have q5o := belO q5B
    clear hb
    have B5 := hide q5B
    have zz1 : w.heap.size < w5.heap.size := by omega
    have zz2 : w.heap.size ≤ w5.heap.size := by omega
    have zz3 : w.heap.size < w5.heap.size + 1 := by omega
    go_wp2_with fail
    refine (rvalid_any day _).mono ?_
    rintro e w9 ⟨rfl, rfl⟩
    rw [HD.out]
    go_wp2_with (with_reducible refine wpList_load_row rfl 33 (.tmp 3) rfl w.heap.size rfl 33 B.C (0, 0) _ (blk_under (blk_under X5.out)) Tryz.underlying33 rfl HS.out ?_)
    refine (ractive_any B HB.out id day _ (HW.out.below (B5.out.trans belT))).mono ?_
    rintro e w6 ⟨rfl, hb⟩
    rw [HA.out]
    have X6 := hide (blk_below hb (by simp; omega) (blk_under (blk_under X5.out)))
    have hc19 := (cell_of_cells X5.out 19).trans HB.out.bks.jou
    have q6B : Below w5.heap.size w5 w6 := qB hb
    have q6z := hb.size
    try simp at q6z
    have q6t : w5.heap.size ≤ w6.heap.size := (by omega)
    obtain ⟨q6s0, q6n0_0, q6n0_1, q6n0_2⟩ := kB w6.heap.size (w.heap.size + 1)
    obtain ⟨q6c0_0, q6c0_1, q6c0_2, q6c0_3, q6c0_4, q6c0_5, q6c0_6, q6f0⟩ := kC7 hb (w.heap.size + 1)
    simp [go_sem, *] at q6c0_0 q6c0_1 q6c0_2 q6c0_3 q6c0_4 q6c0_5 q6c0_6 q6f0
    obtain ⟨q6s1, q6n1_0, q6n1_1, q6n1_2⟩ := kB w6.heap.size (w5.heap.size + 1)
    obtain ⟨q6c1_0, q6c1_1, q6c1_2, q6c1_3, q6c1_4, q6c1_5, q6c1_6, q6f1⟩ := kC7 hb (w5.heap.size + 1)
    simp [go_sem, *] at q6c1_0 q6c1_1 q6c1_2 q6c1_3 q6c1_4 q6c1_5 q6c1_6 q6f1
    have q6o := belO q6B
    clear hb q5o q5f0 q5c0_6 q5c0_5 q5c0_4 q5c0_3 q5c0_2 q5c0_1 q5c0_0 q5s0 q5z q5B
    have B6 := hide (B5.out.trans (q6B.mono (by omega)))
    go_wp2_with fail
    refine bodyPost_ret (by simp [results, Tryz.results52, go_sem, *] <;> rfl) rfl ?_
    refine dayRet_of HV.out (by rw [HC.out]; rfl) (B6.out.trans ?_)
    (repeat (first | (with_reducible first | exact Below.refl _ _ | assumption | refine Below.drew ?_) | ((with_reducible first | refine Below.alloc ?_ ?_ _ | refine Below.setCell ?_ ?_ _); rotate_left; (first | omega | (simp <;> omega)))))
   | true =>
    have HA := hide ha
    clear ha
    obtain ⟨i0, Z, hi0, hi1, hi2⟩ := pz_zero
    have HI := hide (And.intro hi0 hi1)
    have HZ1 := hide hi2
    clear hi0 hi1 hi2
    cases hp : prdB B id day with
    | none =>
     have HP := hide hp
     have HC := hide (hAc.trans (acr_none HA.out hp))
     rw [← hbal] at HC
     clear hp hAc hbal
     go_enter Tryz.func52, Tryz.ntmps52
     go_wp2_with (with_reducible refine wpList_load_row rfl 33 (.tmp 3) rfl w.heap.size rfl 33 B.C (0, 0) _ (two_boxes _ _ _) Tryz.underlying33 rfl HS.out ?_)
     refine (HF.out _ (HW.out.acc.below belT)).mono ?_
     rintro e w5 ⟨rfl, hb⟩
     have X5 := hide (blk_below hb (by simp; omega) (two_boxes _ _ _))
     have q5B : Below w.heap.size w w5 := qB hb
     have q5z := hb.size
     try simp at q5z
     have q5t : w.heap.size ≤ w5.heap.size := (by omega)
     obtain ⟨q5s0, q5n0_0, q5n0_1, q5n0_2⟩ := kB w5.heap.size (w.heap.size + 1)
     obtain ⟨q5c0_0, q5c0_1, q5c0_2, q5c0_3, q5c0_4, q5c0_5, q5c0_6, q5f0⟩ := kC7 hb (w.heap.size + 1)
     simp [go_sem, *] at q5c0_0 q5c0_1 q5c0_2 q5c0_3 q5c0_4 q5c0_5 q5c0_6 q5f0
     have q5o := belO q5B
     clear hb
     have B5 := hide q5B
     have zz1 : w.heap.size < w5.heap.size := by omega
     have zz2 : w.heap.size ≤ w5.heap.size := by omega
     have zz3 : w.heap.size < w5.heap.size + 1 := by omega
     go_wp2_with fail
     refine (rvalid_any day _).mono ?_
     rintro e w9 ⟨rfl, rfl⟩
     rw [HD.out]
     go_wp2_with (with_reducible refine wpList_load_row rfl 33 (.tmp 3) rfl w.heap.size rfl 33 B.C (0, 0) _ (blk_under (blk_under X5.out)) Tryz.underlying33 rfl HS.out ?_)
     refine (ractive_any B HB.out id day _ (HW.out.below (B5.out.trans belT))).mono ?_
     rintro e w6 ⟨rfl, hb⟩
     rw [HA.out]
     have X6 := hide (blk_below hb (by simp; omega) (blk_under (blk_under X5.out)))
     have hc19 := (cell_of_cells X5.out 19).trans HB.out.bks.jou
     have q6B : Below w5.heap.size w5 w6 := qB hb
     have q6z := hb.size
     try simp at q6z
     have q6t : w5.heap.size ≤ w6.heap.size := (by omega)
     obtain ⟨q6s0, q6n0_0, q6n0_1, q6n0_2⟩ := kB w6.heap.size w.heap.size
     have q6c0_19 := cel hb w.heap.size 19
     simp [go_sem, *] at q6c0_19
     have q6f0 := fun o => fro hb w.heap.size o
     simp [go_sem, *] at q6f0
     obtain ⟨q6s1, q6n1_0, q6n1_1, q6n1_2⟩ := kB w6.heap.size (w.heap.size + 1)
     obtain ⟨q6c1_0, q6c1_1, q6c1_2, q6c1_3, q6c1_4, q6c1_5, q6c1_6, q6f1⟩ := kC7 hb (w.heap.size + 1)
     simp [go_sem, *] at q6c1_0 q6c1_1 q6c1_2 q6c1_3 q6c1_4 q6c1_5 q6c1_6 q6f1
     obtain ⟨q6s2, q6n2_0, q6n2_1, q6n2_2⟩ := kB w6.heap.size (w5.heap.size + 1)
     obtain ⟨q6c2_0, q6c2_1, q6c2_2, q6c2_3, q6c2_4, q6c2_5, q6c2_6, q6f2⟩ := kC7 hb (w5.heap.size + 1)
     simp [go_sem, *] at q6c2_0 q6c2_1 q6c2_2 q6c2_3 q6c2_4 q6c2_5 q6c2_6 q6f2
     have q6o := belO q6B
     clear hb q5o q5f0 q5c0_6 q5c0_5 q5c0_4 q5c0_3 q5c0_2 q5c0_1 q5c0_0 q5s0 q5z q5B
     have B6 := hide (B5.out.trans (q6B.mono (by omega)))
     go_wp2_with fail
     refine (HAT.out _ (HW.out.jrn.below B6.out)).mono ?_
     rintro e w7 ⟨rfl, hb⟩
     have X7 := hide (blk_below hb (by omega) X6.out)
     have q7B : Below w6.heap.size w6 w7 := qB hb
     have q7z := hb.size
     try simp at q7z
     have q7t : w6.heap.size ≤ w7.heap.size := (by omega)
     obtain ⟨q7s0, q7n0_0, q7n0_1, q7n0_2⟩ := kB w7.heap.size (w.heap.size + 1)
     obtain ⟨q7c0_0, q7c0_1, q7c0_2, q7c0_3, q7c0_4, q7c0_5, q7c0_6, q7f0⟩ := kC7 hb (w.heap.size + 1)
     simp [go_sem, *] at q7c0_0 q7c0_1 q7c0_2 q7c0_3 q7c0_4 q7c0_5 q7c0_6 q7f0
     obtain ⟨q7s1, q7n1_0, q7n1_1, q7n1_2⟩ := kB w7.heap.size (w5.heap.size + 1)
     obtain ⟨q7c1_0, q7c1_1, q7c1_2, q7c1_3, q7c1_4, q7c1_5, q7c1_6, q7f1⟩ := kC7 hb (w5.heap.size + 1)
     simp [go_sem, *] at q7c1_0 q7c1_1 q7c1_2 q7c1_3 q7c1_4 q7c1_5 q7c1_6 q7f1
     have q7o := belO q7B
     clear hb q6o q6f2 q6c2_6 q6c2_5 q6c2_4 q6c2_3 q6c2_2 q6c2_1 q6c2_0 q6s2 q6f1 q6c1_6 q6c1_5 q6c1_4 q6c1_3 q6c1_2 q6c1_1 q6c1_0 q6s1 q6f0 q6c0_19 q6s0 q6z q6B
     have B7 := hide (B6.out.trans (q7B.mono (by omega)))
     have z57 : w5.heap.size + 1 < w7.heap.size := by omega
     have BS : Below w.heap.size w7 (w7.setCell ⟨w5.heap.size + 1, 2, none⟩ (.int .i64 bal)) := (Below.refl _ _).setCell (p := ⟨w5.heap.size + 1, 2, none⟩) (by simp; omega) _
     go_wp2_with (with_reducible refine wpList_load_row rfl 33 (.tmp 3) rfl w.heap.size rfl 33 B.C (0, 0) _ (blk_setOther (by simp; omega) X7.out) Tryz.underlying33 rfl HS.out ?_)
     refine (rproduct_any B HB.out id day _ (HW.out.below (B7.out.trans BS))).mono ?_
     rintro e w8 ⟨C, b, rfl, hs, h1, ho, hb⟩
     rw [HP.out] at ho
     simp only at ho
     subst ho
     have HH := hide (And.intro hs h1)
     clear hs h1
     have B8 := hide (B7.out.trans (BS.trans (hb.mono (by simp; omega))))
     have B7o := B7.out
     have q8B : Below w.heap.size w w8 := qB hb
     have q8z := hb.size
     try simp at q8z
     have q8t : w.heap.size ≤ w8.heap.size := (by omega)
     obtain ⟨q8s0, q8n0_0, q8n0_1, q8n0_2⟩ := kB w8.heap.size (w.heap.size + 1)
     obtain ⟨q8c0_0, q8c0_1, q8c0_2, q8c0_3, q8c0_4, q8c0_5, q8c0_6, q8f0⟩ := kC7 hb (w.heap.size + 1)
     simp [go_sem, *] at q8c0_0 q8c0_1 q8c0_2 q8c0_3 q8c0_4 q8c0_5 q8c0_6 q8f0
     obtain ⟨q8s1, q8n1_0, q8n1_1, q8n1_2⟩ := kB w8.heap.size (w5.heap.size + 1)
     obtain ⟨q8c1_0, q8c1_1, q8c1_2, q8c1_3, q8c1_4, q8c1_5, q8c1_6, q8f1⟩ := kC7 hb (w5.heap.size + 1)
     simp [go_sem, *] at q8c1_0 q8c1_1 q8c1_2 q8c1_3 q8c1_4 q8c1_5 q8c1_6 q8f1
     have q8o := belO q8B
     clear hb q7o q7f1 q7c1_6 q7c1_5 q7c1_4 q7c1_3 q7c1_2 q7c1_1 q7c1_0 q7s1 q7f0 q7c0_6 q7c0_5 q7c0_4 q7c0_3 q7c0_2 q7c0_1 q7c0_0 q7s0 q7z q7B
     clear B7o BS
     have z58 : w5.heap.size + 1 < w8.heap.size := by omega
     go_wp2_with (first
      | (with_reducible refine wpList_alloc_row rfl 78 rfl (some 11) rfl i0 HI.out.1 Z HI.out.2 w8.heap.size rfl ?_)
      | ((with_reducible refine wpList_store_newrow2 rfl 78 (.tmp 11) (.tmp 49) rfl rfl w8.heap.size C rfl rfl 78 Z (blk_new rfl) (pz_size HH.out.1) (by rw [HZ1.out, HH.out.1]) HH.out.2 ?_); intro w9 hb hs9 hx9 hk9; have X9 := hide hx9; have q9B : Below w8.heap.size w8 w9 := qB hb; have q9z := hb.size; (try simp at q9z); have q9t : w8.heap.size ≤ w9.heap.size := (by omega); have q9s0 : w.heap.size + 1 < w9.heap.size := (by omega); obtain ⟨q9n0_0, q9n0_1, q9n0_2⟩ := kN q9s0; obtain ⟨q9c0_0, q9c0_1, q9c0_2, q9c0_3, q9c0_4, q9c0_5, q9c0_6, q9f0⟩ := kC7 hb (w.heap.size + 1); simp [go_sem, *] at q9c0_0 q9c0_1 q9c0_2 q9c0_3 q9c0_4 q9c0_5 q9c0_6 q9f0; have q9s1 : w5.heap.size + 1 < w9.heap.size := (by omega); obtain ⟨q9n1_0, q9n1_1, q9n1_2⟩ := kN q9s1; obtain ⟨q9c1_0, q9c1_1, q9c1_2, q9c1_3, q9c1_4, q9c1_5, q9c1_6, q9f1⟩ := kC7 hb (w5.heap.size + 1); simp [go_sem, *] at q9c1_0 q9c1_1 q9c1_2 q9c1_3 q9c1_4 q9c1_5 q9c1_6 q9f1; have q9o := belO q9B; have hbS := hb; have hbS9 := hb; clear hb; clear hs9 hx9 hk9 hbS hbS9; have B9 := hide (B8.out.trans (q9B.mono (by omega)))))
     refine bodyPost_ret (by simp [results, Tryz.results52, go_sem, *] <;> rfl) rfl ?_
     refine dayRet_of HV.out (by rw [HC.out]; rfl) (B9.out.trans ?_)
     (repeat (first | (with_reducible first | exact Below.refl _ _ | assumption | refine Below.drew ?_) | ((with_reducible first | refine Below.alloc ?_ ?_ _ | refine Below.setCell ?_ ?_ _); rotate_left; (first | omega | (simp <;> omega)))))
    | some k =>
     have HP := hide hp
     have HK := hide (prd_lt hp)
     obtain ⟨s, hsd⟩ : ∃ s, s = sideP (B.P k) bal := ⟨_, rfl⟩
     have HT := hide (show s.tn ≤ 1000000 from by rw [hsd]; unfold sideP; split; exact (HB.out.db k HK.out).tn; exact (HB.out.cr k HK.out).tn)
     obtain ⟨L, hL⟩ : ∃ L, L = slices s.tn s.f s.g s.mg bal (rate s.tn s.f s.g bal) := ⟨_, rfl⟩
     have HG := hide (slices_sl (x := s) HBI.out)
     rw [← hL] at HG
     have HSL := hide (fun A c W hr => by have t := rslices_any A s.tn c s.f s.g s.mg bal HBI.out.1 HBI.out.2 (by have := HT.out; omega) W hr; rw [← hL] at t; exact t)
     have HSD := hide (fun W h1 h2 => by have t := rside_any (B.P k).C (B.P k) (HB.out.cells k HK.out) bal W h1 h2; rw [← hsd] at t; exact t)
     obtain ⟨t, ht⟩ : ∃ t, t = wgt s.ba day := ⟨_, rfl⟩
     have HWG := hide (fun W => by have h := rweight_any s.ba day W; rw [← ht] at h; exact h)
     obtain ⟨G, hG⟩ : ∃ G, G = grR L.length (fsts L) (snds L) t := ⟨_, rfl⟩
     obtain ⟨GE, hGE⟩ : ∃ G, G = grE L.length (fsts L) (snds L) t := ⟨_, rfl⟩
     have HGR := hide (fun A c W hr => by have h := rgrains_any A L.length c (fsts L) (snds L) t (by have := HG.out.1; omega) W hr HG.out.2.2; rw [← hG, ← hGE] at h; exact h)
     have HGV := hide (show grn s bal day = G from by rw [hG]; unfold grn; rw [← hL, ← ht])
     have HE := hide (And.intro hp (And.intro hAc (And.intro hbal hsd)))
     clear hL ht hG hGE hp hAc hbal hsd
     go_enter Tryz.func52, Tryz.ntmps52
     go_wp2_with (with_reducible refine wpList_load_row rfl 33 (.tmp 3) rfl w.heap.size rfl 33 B.C (0, 0) _ (two_boxes _ _ _) Tryz.underlying33 rfl HS.out ?_)
     refine (HF.out _ (HW.out.acc.below belT)).mono ?_
     rintro e w5 ⟨rfl, hb⟩
     have X5 := hide (blk_below hb (by simp; omega) (two_boxes _ _ _))
     have q5B : Below w.heap.size w w5 := qB hb
     have q5z := hb.size
     try simp at q5z
     have q5t : w.heap.size ≤ w5.heap.size := (by omega)
     obtain ⟨q5s0, q5n0_0, q5n0_1, q5n0_2⟩ := kB w5.heap.size (w.heap.size + 1)
     obtain ⟨q5c0_0, q5c0_1, q5c0_2, q5c0_3, q5c0_4, q5c0_5, q5c0_6, q5f0⟩ := kC7 hb (w.heap.size + 1)
     simp [go_sem, *] at q5c0_0 q5c0_1 q5c0_2 q5c0_3 q5c0_4 q5c0_5 q5c0_6 q5f0
     have q5o := belO q5B
     clear hb
     have B5 := hide q5B
     have zz1 : w.heap.size < w5.heap.size := by omega
     have zz2 : w.heap.size ≤ w5.heap.size := by omega
     have zz3 : w.heap.size < w5.heap.size + 1 := by omega
     go_wp2_with fail
     refine (rvalid_any day _).mono ?_
     rintro e w9 ⟨rfl, rfl⟩
     rw [HD.out]
     go_wp2_with (with_reducible refine wpList_load_row rfl 33 (.tmp 3) rfl w.heap.size rfl 33 B.C (0, 0) _ (blk_under (blk_under X5.out)) Tryz.underlying33 rfl HS.out ?_)
     refine (ractive_any B HB.out id day _ (HW.out.below (B5.out.trans belT))).mono ?_
     rintro e w6 ⟨rfl, hb⟩
     rw [HA.out]
     have X6 := hide (blk_below hb (by simp; omega) (blk_under (blk_under X5.out)))
     have hc19 := (cell_of_cells X5.out 19).trans HB.out.bks.jou
     have q6B : Below w5.heap.size w5 w6 := qB hb
     have q6z := hb.size
     try simp at q6z
     have q6t : w5.heap.size ≤ w6.heap.size := (by omega)
     obtain ⟨q6s0, q6n0_0, q6n0_1, q6n0_2⟩ := kB w6.heap.size w.heap.size
     have q6c0_19 := cel hb w.heap.size 19
     simp [go_sem, *] at q6c0_19
     have q6f0 := fun o => fro hb w.heap.size o
     simp [go_sem, *] at q6f0
     obtain ⟨q6s1, q6n1_0, q6n1_1, q6n1_2⟩ := kB w6.heap.size (w.heap.size + 1)
     obtain ⟨q6c1_0, q6c1_1, q6c1_2, q6c1_3, q6c1_4, q6c1_5, q6c1_6, q6f1⟩ := kC7 hb (w.heap.size + 1)
     simp [go_sem, *] at q6c1_0 q6c1_1 q6c1_2 q6c1_3 q6c1_4 q6c1_5 q6c1_6 q6f1
     obtain ⟨q6s2, q6n2_0, q6n2_1, q6n2_2⟩ := kB w6.heap.size (w5.heap.size + 1)
     obtain ⟨q6c2_0, q6c2_1, q6c2_2, q6c2_3, q6c2_4, q6c2_5, q6c2_6, q6f2⟩ := kC7 hb (w5.heap.size + 1)
     simp [go_sem, *] at q6c2_0 q6c2_1 q6c2_2 q6c2_3 q6c2_4 q6c2_5 q6c2_6 q6f2
     have q6o := belO q6B
     clear hb q5o q5f0 q5c0_6 q5c0_5 q5c0_4 q5c0_3 q5c0_2 q5c0_1 q5c0_0 q5s0 q5z q5B
     have B6 := hide (B5.out.trans (q6B.mono (by omega)))
     go_wp2_with fail
     refine (HAT.out _ (HW.out.jrn.below B6.out)).mono ?_
     rintro e w7 ⟨rfl, hb⟩
     have X7 := hide (blk_below hb (by omega) X6.out)
     have q7B : Below w6.heap.size w6 w7 := qB hb
     have q7z := hb.size
     try simp at q7z
     have q7t : w6.heap.size ≤ w7.heap.size := (by omega)
     obtain ⟨q7s0, q7n0_0, q7n0_1, q7n0_2⟩ := kB w7.heap.size (w.heap.size + 1)
     obtain ⟨q7c0_0, q7c0_1, q7c0_2, q7c0_3, q7c0_4, q7c0_5, q7c0_6, q7f0⟩ := kC7 hb (w.heap.size + 1)
     simp [go_sem, *] at q7c0_0 q7c0_1 q7c0_2 q7c0_3 q7c0_4 q7c0_5 q7c0_6 q7f0
     obtain ⟨q7s1, q7n1_0, q7n1_1, q7n1_2⟩ := kB w7.heap.size (w5.heap.size + 1)
     obtain ⟨q7c1_0, q7c1_1, q7c1_2, q7c1_3, q7c1_4, q7c1_5, q7c1_6, q7f1⟩ := kC7 hb (w5.heap.size + 1)
     simp [go_sem, *] at q7c1_0 q7c1_1 q7c1_2 q7c1_3 q7c1_4 q7c1_5 q7c1_6 q7f1
     have q7o := belO q7B
     clear hb q6o q6f2 q6c2_6 q6c2_5 q6c2_4 q6c2_3 q6c2_2 q6c2_1 q6c2_0 q6s2 q6f1 q6c1_6 q6c1_5 q6c1_4 q6c1_3 q6c1_2 q6c1_1 q6c1_0 q6s1 q6f0 q6c0_19 q6s0 q6z q6B
     have B7 := hide (B6.out.trans (q7B.mono (by omega)))
     have z57 : w5.heap.size + 1 < w7.heap.size := by omega
     have BS : Below w.heap.size w7 (w7.setCell ⟨w5.heap.size + 1, 2, none⟩ (.int .i64 bal)) := (Below.refl _ _).setCell (p := ⟨w5.heap.size + 1, 2, none⟩) (by simp; omega) _
     go_wp2_with (with_reducible refine wpList_load_row rfl 33 (.tmp 3) rfl w.heap.size rfl 33 B.C (0, 0) _ (blk_setOther (by simp; omega) X7.out) Tryz.underlying33 rfl HS.out ?_)
     refine (rproduct_any B HB.out id day _ (HW.out.below (B7.out.trans BS))).mono ?_
     rintro e w8 ⟨C, b, rfl, hs, h1, ho, hb⟩
     rw [HP.out] at ho
     simp only at ho
     obtain ⟨rfl, rfl⟩ := ho
     have HH := hide (And.intro hs h1)
     clear hs h1
     have B8 := hide (B7.out.trans (BS.trans (hb.mono (by simp; omega))))
     have B7o := B7.out
     have q8B : Below w.heap.size w w8 := qB hb
     have q8z := hb.size
     try simp at q8z
     have q8t : w.heap.size ≤ w8.heap.size := (by omega)
     obtain ⟨q8s0, q8n0_0, q8n0_1, q8n0_2⟩ := kB w8.heap.size (w.heap.size + 1)
     obtain ⟨q8c0_0, q8c0_1, q8c0_2, q8c0_3, q8c0_4, q8c0_5, q8c0_6, q8f0⟩ := kC7 hb (w.heap.size + 1)
     simp [go_sem, *] at q8c0_0 q8c0_1 q8c0_2 q8c0_3 q8c0_4 q8c0_5 q8c0_6 q8f0
     obtain ⟨q8s1, q8n1_0, q8n1_1, q8n1_2⟩ := kB w8.heap.size (w5.heap.size + 1)
     obtain ⟨q8c1_0, q8c1_1, q8c1_2, q8c1_3, q8c1_4, q8c1_5, q8c1_6, q8f1⟩ := kC7 hb (w5.heap.size + 1)
     simp [go_sem, *] at q8c1_0 q8c1_1 q8c1_2 q8c1_3 q8c1_4 q8c1_5 q8c1_6 q8f1
     have q8o := belO q8B
     clear hb q7o q7f1 q7c1_6 q7c1_5 q7c1_4 q7c1_3 q7c1_2 q7c1_1 q7c1_0 q7s1 q7f0 q7c0_6 q7c0_5 q7c0_4 q7c0_3 q7c0_2 q7c0_1 q7c0_0 q7s0 q7z q7B
     clear B7o BS
     have z58 : w5.heap.size + 1 < w8.heap.size := by omega
     go_wp2_with (first
      | (with_reducible refine wpList_alloc_row rfl 78 rfl (some 11) rfl i0 HI.out.1 Z HI.out.2 w8.heap.size rfl ?_)
      | ((with_reducible refine wpList_store_newrow2 rfl 78 (.tmp 11) (.tmp 49) rfl rfl w8.heap.size (B.P k).C rfl rfl 78 Z (blk_new rfl) (pz_size HH.out.1) (by rw [HZ1.out, HH.out.1]) HH.out.2 ?_); intro w9 hb hs9 hx9 hk9; have X9 := hide hx9; have q9B : Below w8.heap.size w8 w9 := qB hb; have q9z := hb.size; (try simp at q9z); have q9t : w8.heap.size ≤ w9.heap.size := (by omega); have q9s0 : w.heap.size + 1 < w9.heap.size := (by omega); obtain ⟨q9n0_0, q9n0_1, q9n0_2⟩ := kN q9s0; obtain ⟨q9c0_0, q9c0_1, q9c0_2, q9c0_3, q9c0_4, q9c0_5, q9c0_6, q9f0⟩ := kC7 hb (w.heap.size + 1); simp [go_sem, *] at q9c0_0 q9c0_1 q9c0_2 q9c0_3 q9c0_4 q9c0_5 q9c0_6 q9f0; have q9s1 : w5.heap.size + 1 < w9.heap.size := (by omega); obtain ⟨q9n1_0, q9n1_1, q9n1_2⟩ := kN q9s1; obtain ⟨q9c1_0, q9c1_1, q9c1_2, q9c1_3, q9c1_4, q9c1_5, q9c1_6, q9f1⟩ := kC7 hb (w5.heap.size + 1); simp [go_sem, *] at q9c1_0 q9c1_1 q9c1_2 q9c1_3 q9c1_4 q9c1_5 q9c1_6 q9f1; have q9o := belO q9B; have hbS := hb; have hbS9 := hb; clear hb; clear hs9 hx9 hk9 hbS hbS9; have B9 := hide (B8.out.trans (q9B.mono (by omega)))) | (with_reducible refine wpList_load_row rfl 78 (.tmp 11) rfl w8.heap.size rfl 78 (B.P k).C (0, 0) _ X9.out Tryz.underlying78 rfl (pz_size HH.out.1) ?_))
     refine (HSD.out _ ((bkPr (HW.out.below B9.out) HK.out).cr) ((bkPr (HW.out.below B9.out) HK.out).db)).mono ?_
     rintro e w10 ⟨A, c, rfl, hrow, hb⟩
     have HR := hide hrow
     clear hrow
     have q10B : Below w9.heap.size w9 w10 := qB hb
     have q10z := hb.size
     try simp at q10z
     have q10t : w9.heap.size ≤ w10.heap.size := (by omega)
     obtain ⟨q10s0, q10n0_0, q10n0_1, q10n0_2⟩ := kB w10.heap.size (w.heap.size + 1)
     obtain ⟨q10c0_0, q10c0_1, q10c0_2, q10c0_3, q10c0_4, q10c0_5, q10c0_6, q10f0⟩ := kC7 hb (w.heap.size + 1)
     simp [go_sem, *] at q10c0_0 q10c0_1 q10c0_2 q10c0_3 q10c0_4 q10c0_5 q10c0_6 q10f0
     obtain ⟨q10s1, q10n1_0, q10n1_1, q10n1_2⟩ := kB w10.heap.size (w5.heap.size + 1)
     obtain ⟨q10c1_0, q10c1_1, q10c1_2, q10c1_3, q10c1_4, q10c1_5, q10c1_6, q10f1⟩ := kC7 hb (w5.heap.size + 1)
     simp [go_sem, *] at q10c1_0 q10c1_1 q10c1_2 q10c1_3 q10c1_4 q10c1_5 q10c1_6 q10f1
     have q10o := belO q10B
     clear hb q9o q9f1 q9c1_6 q9c1_5 q9c1_4 q9c1_3 q9c1_2 q9c1_1 q9c1_0 q9s1 q9f0 q9c0_6 q9c0_5 q9c0_4 q9c0_3 q9c0_2 q9c0_1 q9c0_0 q9s0 q9z q9B
     have B10 := hide (B9.out.trans (q10B.mono (by omega)))
     have z510 : w5.heap.size + 1 < w10.heap.size := by omega
     have z110 : w.heap.size + 1 < w10.heap.size := by omega
     have hcb := q10c1_2
     have z5 : w5.heap.size < w10.heap.size := by omega
     have z6 : w.heap.size < w10.heap.size := by omega
     have HQ := hide (And.intro q10c0_0 (And.intro q10c0_1 (And.intro q10c0_2 (And.intro q10c0_3 (And.intro q10c0_4 (And.intro q10c0_5 (And.intro q10c0_6 (And.intro q10c1_0 (And.intro q10c1_1 (And.intro q10c1_2 (And.intro q10c1_3 (And.intro q10c1_4 (And.intro q10c1_5 (And.intro q10c1_6 (And.intro q10f0 (q10f1))))))))))))))))
     have HZZ := hide (And.intro z510 z110)
     clear q10f1 q10f0 q10c1_6 q10c1_5 q10c1_4 q10c1_3 q10c1_2 q10c1_1 q10c1_0 q10c0_6 q10c0_5 q10c0_4 q10c0_3 q10c0_2 q10c0_1 q10c0_0 q10B q10z q10o
     have d1 : ¬ w10.heap.size = w5.heap.size + 1 := by omega
     clear zz1 zz2 zz3
     go_wp2_with fail
     refine ord_start (SB (w10.heap.size + 1) [] _) 18 (preB 0 18) (by kernel_rfl) (by kernel_rfl) (by kernel_rfl) SB.refl.drew (fun hHeld => ?_)
     refine oS (i := 0) (preB 1 17) rfl hHeld ?_
     (try simp only [Act.put, putS])
     refine oS (i := 1) (preB 2 16) rfl hHeld ?_
     (try simp only [Act.put, putS])
     refine oS (i := 2) (preB 3 15) rfl hHeld ?_
     (try simp only [Act.put, putS])
     refine oS (i := 3) (preB 4 14) rfl hHeld ?_
     (try simp only [Act.put, putS])
     refine oS (i := 4) (preB 5 13) rfl hHeld ?_
     (try simp only [Act.put, putS])
     refine oS (i := 5) (preB 6 12) rfl hHeld ?_
     (try simp only [Act.put, putS])
     refine oS (i := 7) #[true, true, true, true, true, true, false, true, false, false, false, false, false, false, false, false, false, false] rfl hHeld ?_
     (try simp only [Act.put, putS])
     refine oS (i := 8) #[true, true, true, true, true, true, false, true, true, false, false, false, false, false, false, false, false, false] rfl hHeld ?_
     (try simp only [Act.put, putS])
     refine oS (i := 9) #[true, true, true, true, true, true, false, true, true, true, false, false, false, false, false, false, false, false] rfl hHeld ?_
     (try simp only [Act.put, putS])
     refine wpAnyH_ready (rs := [6, 15]) (by kernel_rfl) (by simp) ?_
     refine ord_run (i := 6) (preB 10 8) rfl (by kernel_rfl) (by rfl) (fun K hK => ?_) ?_
     ·go_simp
      go_wp2_with (go_at_call 57; refine (HSL.out A c _ (HR.out.below belT)).mono ?_; rintro e w11 ⟨A2, c2, rfl, hrow, hb⟩; have HR2 := hide hrow; clear hrow; have hbS := hb; have hbS1 := hb; have P1 : Below w10.heap.size w10 w11 := qB hb; have zw11 := hb.size; (try simp at zw11); have y1 : w10.heap.size < w11.heap.size := (by omega); (try have hxw110 : ∀ o, w11.cell? ⟨w10.heap.size + 1, o, none⟩ = _ := fun o => hbS.cell (p := ⟨w10.heap.size + 1, o, none⟩) (by simp only [World.size_alloc, World.size_drew]; omega)); (try simp [go_sem, *] at hxw110); (try have hfw110 : ∀ o, w11.frozen? ⟨w10.heap.size + 1, o, none⟩ = _ := fun o => hbS.frozen (p := ⟨w10.heap.size + 1, o, none⟩) (by simp only [World.size_alloc, World.size_drew]; omega)); (try simp [go_sem, *] at hfw110); clear hb)
      refine hK.out _ _ ?_ (fun hHeld => ?_)
      ·exact sbT
      clear hK K
      (try simp only [Act.put, putS])
      refine wpAnyH_ready (rs := [10, 15]) (by kernel_rfl) (by simp) ?_
      refine ord_run (i := 10) (preB 11 7) rfl (by kernel_rfl) (by rfl) (fun K hK => ?_) ?_
      ·go_simp
       go_wp2_with (go_at_call 58; refine (HWG.out _).mono ?_; rintro e w12 ⟨rfl, hb⟩; have PP := hide (show Below w11.heap.size w11 w12 from qB hb); have hbS := hb; have hbS2 := hb; have P2 : Below w10.heap.size w10 w12 := qB hb; have zw12 := hb.size; (try simp at zw12); have y2 : w10.heap.size < w12.heap.size := (by omega); (try have hxw120 : ∀ o, w12.cell? ⟨w10.heap.size + 1, o, none⟩ = _ := fun o => hbS.cell (p := ⟨w10.heap.size + 1, o, none⟩) (by simp only [World.size_alloc, World.size_drew]; omega)); (try simp [go_sem, *] at hxw120); (try have hfw120 : ∀ o, w12.frozen? ⟨w10.heap.size + 1, o, none⟩ = _ := fun o => hbS.frozen (p := ⟨w10.heap.size + 1, o, none⟩) (by simp only [World.size_alloc, World.size_drew]; omega)); (try simp [go_sem, *] at hfw120); (try have hxw121 : ∀ o, w12.cell? ⟨w11.heap.size, o, none⟩ = _ := fun o => hbS.cell (p := ⟨w11.heap.size, o, none⟩) (by simp only [World.size_alloc, World.size_drew]; omega)); (try simp [go_sem, *] at hxw121); (try have hfw121 : ∀ o, w12.frozen? ⟨w11.heap.size, o, none⟩ = _ := fun o => hbS.frozen (p := ⟨w11.heap.size, o, none⟩) (by simp only [World.size_alloc, World.size_drew]; omega)); (try simp [go_sem, *] at hfw121); clear hb)
       refine hK.out _ _ ?_ (fun hHeld => ?_)
       ·exact sbT
       clear hK K
       (try simp only [Act.put, putS])
       refine wpAnyH_ready (rs := [11, 15]) (by kernel_rfl) (by simp) ?_
       refine ord_run (i := 11) (preB 12 6) rfl (by kernel_rfl) (by rfl) (fun K hK => ?_) ?_
       ·go_simp
        go_wp2_with (go_at_call 88; refine (HGR.out A2 c2 _ (HR2.out.below (PP.out.trans belT))).mono ?_; rintro e w13 ⟨rfl, hb⟩; have hbS := hb; have hbS3 := hb; have P3 : Below w10.heap.size w10 w13 := qB hb; have zw13 := hb.size; (try simp at zw13); have y3 : w10.heap.size < w13.heap.size := (by omega); (try have hxw130 : ∀ o, w13.cell? ⟨w10.heap.size + 1, o, none⟩ = _ := fun o => hbS.cell (p := ⟨w10.heap.size + 1, o, none⟩) (by simp only [World.size_alloc, World.size_drew]; omega)); (try simp [go_sem, *] at hxw130); (try have hfw130 : ∀ o, w13.frozen? ⟨w10.heap.size + 1, o, none⟩ = _ := fun o => hbS.frozen (p := ⟨w10.heap.size + 1, o, none⟩) (by simp only [World.size_alloc, World.size_drew]; omega)); (try simp [go_sem, *] at hfw130); (try have hxw131 : ∀ o, w13.cell? ⟨w11.heap.size, o, none⟩ = _ := fun o => hbS.cell (p := ⟨w11.heap.size, o, none⟩) (by simp only [World.size_alloc, World.size_drew]; omega)); (try simp [go_sem, *] at hxw131); (try have hfw131 : ∀ o, w13.frozen? ⟨w11.heap.size, o, none⟩ = _ := fun o => hbS.frozen (p := ⟨w11.heap.size, o, none⟩) (by simp only [World.size_alloc, World.size_drew]; omega)); (try simp [go_sem, *] at hfw131); (try have hxw132 : ∀ o, w13.cell? ⟨w12.heap.size, o, none⟩ = _ := fun o => hbS.cell (p := ⟨w12.heap.size, o, none⟩) (by simp only [World.size_alloc, World.size_drew]; omega)); (try simp [go_sem, *] at hxw132); (try have hfw132 : ∀ o, w13.frozen? ⟨w12.heap.size, o, none⟩ = _ := fun o => hbS.frozen (p := ⟨w12.heap.size, o, none⟩) (by simp only [World.size_alloc, World.size_drew]; omega)); (try simp [go_sem, *] at hfw132); clear hb)
        refine hK.out _ _ ?_ (fun hHeld => ?_)
        ·exact sbT
        clear hK K
        (try simp only [Act.put, putS])
        refine oS (i := 12) (preB 13 5) rfl hHeld ?_
        (try simp only [Act.put, putS])
        refine oS (i := 13) (preB 14 4) rfl hHeld ?_
        (try simp only [Act.put, putS])
        refine oS (i := 14) (preB 15 3) rfl hHeld ?_
        (try simp only [Act.put, putS])
        refine wpAnyH_ready (rs := [15]) (by kernel_rfl) (by simp) ?_
        refine ord_run (i := 15) (preB 16 2) rfl (by kernel_rfl) (by rfl) (fun K hK => ?_) AllReadyH.nil
        go_simp
        refine hK.out _ _ ?_ (fun hHeld => ?_)
        ·exact sbT
        clear hK K
        (try simp only [Act.put, putS])
        refine wpAnyH_ready (rs := [16]) (by kernel_rfl) (by simp) ?_
        refine ord_run (i := 16) (preB 17 1) rfl (by kernel_rfl) (by rfl) (fun K hK => ?_) AllReadyH.nil
        go_simp
        refine hK.out _ _ ?_ (fun hHeld => ?_)
        ·exact sbT
        clear hK K
        (try simp only [Act.put, putS])
        refine oS (i := 17) (preB 18 0) rfl hHeld ?_
        (try simp only [Act.put, putS])
        refine wpAnyH_done (by kernel_rfl) ?_ _
        obtain ⟨q10c0_0, q10c0_1, q10c0_2, q10c0_3, q10c0_4, q10c0_5, q10c0_6, q10c1_0, q10c1_1, q10c1_2, q10c1_3, q10c1_4, q10c1_5, q10c1_6, q10f0, q10f1⟩ := HQ.out
        obtain ⟨z510, z110⟩ := HZZ.out
        clear hcb
        have hb := P3
        have q4B : Below w10.heap.size w10 w13 := qB hb
        have q4z := hb.size
        try simp at q4z
        have q4t : w10.heap.size ≤ w13.heap.size := (by omega)
        obtain ⟨q4s0, q4n0_0, q4n0_1, q4n0_2⟩ := kB w13.heap.size (w.heap.size + 1)
        obtain ⟨q4c0_0, q4c0_1, q4c0_2, q4c0_3, q4c0_4, q4c0_5, q4c0_6, q4f0⟩ := kC7 hb (w.heap.size + 1)
        simp [go_sem, *] at q4c0_0 q4c0_1 q4c0_2 q4c0_3 q4c0_4 q4c0_5 q4c0_6 q4f0
        obtain ⟨q4s1, q4n1_0, q4n1_1, q4n1_2⟩ := kB w13.heap.size (w5.heap.size + 1)
        obtain ⟨q4c1_0, q4c1_1, q4c1_2, q4c1_3, q4c1_4, q4c1_5, q4c1_6, q4f1⟩ := kC7 hb (w5.heap.size + 1)
        simp [go_sem, *] at q4c1_0 q4c1_1 q4c1_2 q4c1_3 q4c1_4 q4c1_5 q4c1_6 q4f1
        have q4o := belO q4B
        clear hb
        clear q10c0_0 q10c0_1 q10c0_2 q10c0_3 q10c0_4 q10c0_5 q10c0_6 q10c1_0 q10c1_1 q10c1_2 q10c1_3 q10c1_4 q10c1_5 q10c1_6 q10f0 q10f1
        have B13 := hide (B10.out.trans (P3.mono (by omega)))
        have ew10pa : ¬ w10.heap.size + 1 = w.heap.size + 1 := (by omega)
        have fw10pa : ¬ w.heap.size + 1 = w10.heap.size + 1 := (by omega)
        have ew10pb : ¬ w10.heap.size + 1 = w5.heap.size + 1 := (by omega)
        have fw10pb : ¬ w5.heap.size + 1 = w10.heap.size + 1 := (by omega)
        have ew11a : ¬ w11.heap.size = w.heap.size + 1 := (by omega)
        have fw11a : ¬ w.heap.size + 1 = w11.heap.size := (by omega)
        have ew11b : ¬ w11.heap.size = w5.heap.size + 1 := (by omega)
        have fw11b : ¬ w5.heap.size + 1 = w11.heap.size := (by omega)
        have ew12a : ¬ w12.heap.size = w.heap.size + 1 := (by omega)
        have fw12a : ¬ w.heap.size + 1 = w12.heap.size := (by omega)
        have ew12b : ¬ w12.heap.size = w5.heap.size + 1 := (by omega)
        have fw12b : ¬ w5.heap.size + 1 = w12.heap.size := (by omega)
        have ew13a : ¬ w13.heap.size = w.heap.size + 1 := (by omega)
        have fw13a : ¬ w.heap.size + 1 = w13.heap.size := (by omega)
        have ew13b : ¬ w13.heap.size = w5.heap.size + 1 := (by omega)
        have fw13b : ¬ w5.heap.size + 1 = w13.heap.size := (by omega)
        have g1 : ¬ w10.heap.size = w.heap.size := (by omega)
        have g2 : ¬ w10.heap.size = w5.heap.size := (by omega)
        have g3 : ¬ w.heap.size = w10.heap.size := (by omega)
        have g4 : ¬ w5.heap.size = w10.heap.size := (by omega)
        obtain ⟨hp, hAc, hbal, hsd⟩ := HE.out
        by_cases hs0 : 0 < bal
        ·have HC := hide (hAc.trans (acr_pos HA.out hp (by rw [← hbal]; exact hs0)))
         rw [← hbal] at HC
         rw [← side_cr (p := B.P k) (show ¬ bal < 0 from by omega), ← hsd, HGV.out] at HC
         clear hp hAc hbal hsd
         go_wp2_with fail
         refine bodyPost_ret (by simp [results, Tryz.results52, go_sem, *] <;> rfl) rfl ?_
         refine dayRet_of HV.out ?_ ?_
         ·rw [HC.out]; rfl
         ·refine B13.out.trans ?_
          (repeat (first | (with_reducible first | exact Below.refl _ _ | assumption | refine Below.drew ?_) | ((with_reducible first | refine Below.alloc ?_ ?_ _ | refine Below.setCell ?_ ?_ _); rotate_left; (first | omega | (simp <;> omega)))))
        ·by_cases hs1 : bal < 0
         ·have HC := hide (hAc.trans (acr_neg HA.out hp (by rw [← hbal]; exact hs1)))
          rw [← hbal] at HC
          rw [← side_db (p := B.P k) (show bal < 0 from by omega), ← hsd, HGV.out] at HC
          clear hp hAc hbal hsd
          have hn0 : bal ≤ 0 := by omega
          clear hs0
          go_wp2_with fail
          refine bodyPost_ret (by simp [results, Tryz.results52, go_sem, *] <;> rfl) rfl ?_
          refine dayRet_of HV.out ?_ ?_
          ·rw [HC.out]; rfl
          ·refine B13.out.trans ?_
           (repeat (first | (with_reducible first | exact Below.refl _ _ | assumption | refine Below.drew ?_) | ((with_reducible first | refine Below.alloc ?_ ?_ _ | refine Below.setCell ?_ ?_ _); rotate_left; (first | omega | (simp <;> omega)))))
         ·have hz0 : bal = 0 := by omega
          have HC := hide (hAc.trans (acr_zero HA.out hp (by rw [← hbal]; exact hz0)))
          rw [← hbal] at HC
          have hz1 := Int.not_lt.1 hs0
          have hz2 := Int.not_lt.1 hs1
          clear hp hAc hbal hsd hs0 hs1 hz0
          go_wp2_with fail
          refine bodyPost_ret (by simp [results, Tryz.results52, go_sem, *] <;> rfl) rfl ?_
          refine dayRet_of HV.out ?_ ?_
          ·rw [HC.out]; rfl
          ·refine B13.out.trans ?_
           (repeat (first | (with_reducible first | exact Below.refl _ _ | assumption | refine Below.drew ?_) | ((with_reducible first | refine Below.alloc ?_ ?_ _ | refine Below.setCell ?_ ?_ _); rotate_left; (first | omega | (simp <;> omega)))))
       refine ord_run (i := 15) #[true, true, true, true, true, true, true, true, true, true, true, false, false, false, false, true, false, false] rfl (by kernel_rfl) (by rfl) (fun K hK => ?_) ?_
       ·go_simp
        refine hK.out _ _ ?_ (fun hHeld => ?_)
        ·exact sbT
        clear hK K
        (try simp only [Act.put, putS])
        refine wpAnyH_ready (rs := [11]) (by kernel_rfl) (by simp) ?_
        refine ord_run (i := 11) #[true, true, true, true, true, true, true, true, true, true, true, true, false, false, false, true, false, false] rfl (by kernel_rfl) (by rfl) (fun K hK => ?_) AllReadyH.nil
        go_simp
        go_wp2_with (go_at_call 88; refine (HGR.out A2 c2 _ (HR2.out.below (PP.out.trans belT))).mono ?_; rintro e w13 ⟨rfl, hb⟩; have hbS := hb; have hbS3 := hb; have P3 : Below w10.heap.size w10 w13 := qB hb; have zw13 := hb.size; (try simp at zw13); have y3 : w10.heap.size < w13.heap.size := (by omega); (try have hxw130 : ∀ o, w13.cell? ⟨w10.heap.size + 1, o, none⟩ = _ := fun o => hbS.cell (p := ⟨w10.heap.size + 1, o, none⟩) (by simp only [World.size_alloc, World.size_drew]; omega)); (try simp [go_sem, *] at hxw130); (try have hfw130 : ∀ o, w13.frozen? ⟨w10.heap.size + 1, o, none⟩ = _ := fun o => hbS.frozen (p := ⟨w10.heap.size + 1, o, none⟩) (by simp only [World.size_alloc, World.size_drew]; omega)); (try simp [go_sem, *] at hfw130); (try have hxw131 : ∀ o, w13.cell? ⟨w11.heap.size, o, none⟩ = _ := fun o => hbS.cell (p := ⟨w11.heap.size, o, none⟩) (by simp only [World.size_alloc, World.size_drew]; omega)); (try simp [go_sem, *] at hxw131); (try have hfw131 : ∀ o, w13.frozen? ⟨w11.heap.size, o, none⟩ = _ := fun o => hbS.frozen (p := ⟨w11.heap.size, o, none⟩) (by simp only [World.size_alloc, World.size_drew]; omega)); (try simp [go_sem, *] at hfw131); (try have hxw132 : ∀ o, w13.cell? ⟨w12.heap.size, o, none⟩ = _ := fun o => hbS.cell (p := ⟨w12.heap.size, o, none⟩) (by simp only [World.size_alloc, World.size_drew]; omega)); (try simp [go_sem, *] at hxw132); (try have hfw132 : ∀ o, w13.frozen? ⟨w12.heap.size, o, none⟩ = _ := fun o => hbS.frozen (p := ⟨w12.heap.size, o, none⟩) (by simp only [World.size_alloc, World.size_drew]; omega)); (try simp [go_sem, *] at hfw132); clear hb)
        refine hK.out _ _ ?_ (fun hHeld => ?_)
        ·exact sbT
        clear hK K
        (try simp only [Act.put, putS])
        refine oS (i := 12) #[true, true, true, true, true, true, true, true, true, true, true, true, true, false, false, true, false, false] rfl hHeld ?_
        (try simp only [Act.put, putS])
        refine oS (i := 13) #[true, true, true, true, true, true, true, true, true, true, true, true, true, true, false, true, false, false] rfl hHeld ?_
        (try simp only [Act.put, putS])
        refine oS (i := 14) (preB 16 2) rfl hHeld ?_
        (try simp only [Act.put, putS])
        refine wpAnyH_ready (rs := [16]) (by kernel_rfl) (by simp) ?_
        refine ord_run (i := 16) (preB 17 1) rfl (by kernel_rfl) (by rfl) (fun K hK => ?_) AllReadyH.nil
        go_simp
        refine hK.out _ _ ?_ (fun hHeld => ?_)
        ·exact sbT
        clear hK K
        (try simp only [Act.put, putS])
        refine oS (i := 17) (preB 18 0) rfl hHeld ?_
        (try simp only [Act.put, putS])
        refine wpAnyH_done (by kernel_rfl) ?_ _
        obtain ⟨q10c0_0, q10c0_1, q10c0_2, q10c0_3, q10c0_4, q10c0_5, q10c0_6, q10c1_0, q10c1_1, q10c1_2, q10c1_3, q10c1_4, q10c1_5, q10c1_6, q10f0, q10f1⟩ := HQ.out
        obtain ⟨z510, z110⟩ := HZZ.out
        clear hcb
        have hb := P3
        have q4B : Below w10.heap.size w10 w13 := qB hb
        have q4z := hb.size
        try simp at q4z
        have q4t : w10.heap.size ≤ w13.heap.size := (by omega)
        obtain ⟨q4s0, q4n0_0, q4n0_1, q4n0_2⟩ := kB w13.heap.size (w.heap.size + 1)
        obtain ⟨q4c0_0, q4c0_1, q4c0_2, q4c0_3, q4c0_4, q4c0_5, q4c0_6, q4f0⟩ := kC7 hb (w.heap.size + 1)
        simp [go_sem, *] at q4c0_0 q4c0_1 q4c0_2 q4c0_3 q4c0_4 q4c0_5 q4c0_6 q4f0
        obtain ⟨q4s1, q4n1_0, q4n1_1, q4n1_2⟩ := kB w13.heap.size (w5.heap.size + 1)
        obtain ⟨q4c1_0, q4c1_1, q4c1_2, q4c1_3, q4c1_4, q4c1_5, q4c1_6, q4f1⟩ := kC7 hb (w5.heap.size + 1)
        simp [go_sem, *] at q4c1_0 q4c1_1 q4c1_2 q4c1_3 q4c1_4 q4c1_5 q4c1_6 q4f1
        have q4o := belO q4B
        clear hb
        clear q10c0_0 q10c0_1 q10c0_2 q10c0_3 q10c0_4 q10c0_5 q10c0_6 q10c1_0 q10c1_1 q10c1_2 q10c1_3 q10c1_4 q10c1_5 q10c1_6 q10f0 q10f1
        have B13 := hide (B10.out.trans (P3.mono (by omega)))
        have ew10pa : ¬ w10.heap.size + 1 = w.heap.size + 1 := (by omega)
        have fw10pa : ¬ w.heap.size + 1 = w10.heap.size + 1 := (by omega)
        have ew10pb : ¬ w10.heap.size + 1 = w5.heap.size + 1 := (by omega)
        have fw10pb : ¬ w5.heap.size + 1 = w10.heap.size + 1 := (by omega)
        have ew11a : ¬ w11.heap.size = w.heap.size + 1 := (by omega)
        have fw11a : ¬ w.heap.size + 1 = w11.heap.size := (by omega)
        have ew11b : ¬ w11.heap.size = w5.heap.size + 1 := (by omega)
        have fw11b : ¬ w5.heap.size + 1 = w11.heap.size := (by omega)
        have ew12a : ¬ w12.heap.size = w.heap.size + 1 := (by omega)
        have fw12a : ¬ w.heap.size + 1 = w12.heap.size := (by omega)
        have ew12b : ¬ w12.heap.size = w5.heap.size + 1 := (by omega)
        have fw12b : ¬ w5.heap.size + 1 = w12.heap.size := (by omega)
        have ew13a : ¬ w13.heap.size = w.heap.size + 1 := (by omega)
        have fw13a : ¬ w.heap.size + 1 = w13.heap.size := (by omega)
        have ew13b : ¬ w13.heap.size = w5.heap.size + 1 := (by omega)
        have fw13b : ¬ w5.heap.size + 1 = w13.heap.size := (by omega)
        have g1 : ¬ w10.heap.size = w.heap.size := (by omega)
        have g2 : ¬ w10.heap.size = w5.heap.size := (by omega)
        have g3 : ¬ w.heap.size = w10.heap.size := (by omega)
        have g4 : ¬ w5.heap.size = w10.heap.size := (by omega)
        obtain ⟨hp, hAc, hbal, hsd⟩ := HE.out
        by_cases hs0 : 0 < bal
        ·have HC := hide (hAc.trans (acr_pos HA.out hp (by rw [← hbal]; exact hs0)))
         rw [← hbal] at HC
         rw [← side_cr (p := B.P k) (show ¬ bal < 0 from by omega), ← hsd, HGV.out] at HC
         clear hp hAc hbal hsd
         go_wp2_with fail
         refine bodyPost_ret (by simp [results, Tryz.results52, go_sem, *] <;> rfl) rfl ?_
         refine dayRet_of HV.out ?_ ?_
         ·rw [HC.out]; rfl
         ·refine B13.out.trans ?_
          (repeat (first | (with_reducible first | exact Below.refl _ _ | assumption | refine Below.drew ?_) | ((with_reducible first | refine Below.alloc ?_ ?_ _ | refine Below.setCell ?_ ?_ _); rotate_left; (first | omega | (simp <;> omega)))))
        ·by_cases hs1 : bal < 0
         ·have HC := hide (hAc.trans (acr_neg HA.out hp (by rw [← hbal]; exact hs1)))
          rw [← hbal] at HC
          rw [← side_db (p := B.P k) (show bal < 0 from by omega), ← hsd, HGV.out] at HC
          clear hp hAc hbal hsd
          have hn0 : bal ≤ 0 := by omega
          clear hs0
          go_wp2_with fail
          refine bodyPost_ret (by simp [results, Tryz.results52, go_sem, *] <;> rfl) rfl ?_
          refine dayRet_of HV.out ?_ ?_
          ·rw [HC.out]; rfl
          ·refine B13.out.trans ?_
           (repeat (first | (with_reducible first | exact Below.refl _ _ | assumption | refine Below.drew ?_) | ((with_reducible first | refine Below.alloc ?_ ?_ _ | refine Below.setCell ?_ ?_ _); rotate_left; (first | omega | (simp <;> omega)))))
         ·have hz0 : bal = 0 := by omega
          have HC := hide (hAc.trans (acr_zero HA.out hp (by rw [← hbal]; exact hz0)))
          rw [← hbal] at HC
          have hz1 := Int.not_lt.1 hs0
          have hz2 := Int.not_lt.1 hs1
          clear hp hAc hbal hsd hs0 hs1 hz0
          go_wp2_with fail
          refine bodyPost_ret (by simp [results, Tryz.results52, go_sem, *] <;> rfl) rfl ?_
          refine dayRet_of HV.out ?_ ?_
          ·rw [HC.out]; rfl
          ·refine B13.out.trans ?_
           (repeat (first | (with_reducible first | exact Below.refl _ _ | assumption | refine Below.drew ?_) | ((with_reducible first | refine Below.alloc ?_ ?_ _ | refine Below.setCell ?_ ?_ _); rotate_left; (first | omega | (simp <;> omega)))))
       exact AllReadyH.nil
      refine ord_run (i := 15) #[true, true, true, true, true, true, true, true, true, true, false, false, false, false, false, true, false, false] rfl (by kernel_rfl) (by rfl) (fun K hK => ?_) ?_
      ·go_simp
       refine hK.out _ _ ?_ (fun hHeld => ?_)
       ·exact sbT
       clear hK K
       (try simp only [Act.put, putS])
       refine wpAnyH_ready (rs := [10]) (by kernel_rfl) (by simp) ?_
       refine ord_run (i := 10) #[true, true, true, true, true, true, true, true, true, true, true, false, false, false, false, true, false, false] rfl (by kernel_rfl) (by rfl) (fun K hK => ?_) AllReadyH.nil
       go_simp
       go_wp2_with (go_at_call 58; refine (HWG.out _).mono ?_; rintro e w12 ⟨rfl, hb⟩; have PP := hide (show Below w11.heap.size w11 w12 from qB hb); have hbS := hb; have hbS2 := hb; have P2 : Below w10.heap.size w10 w12 := qB hb; have zw12 := hb.size; (try simp at zw12); have y2 : w10.heap.size < w12.heap.size := (by omega); (try have hxw120 : ∀ o, w12.cell? ⟨w10.heap.size + 1, o, none⟩ = _ := fun o => hbS.cell (p := ⟨w10.heap.size + 1, o, none⟩) (by simp only [World.size_alloc, World.size_drew]; omega)); (try simp [go_sem, *] at hxw120); (try have hfw120 : ∀ o, w12.frozen? ⟨w10.heap.size + 1, o, none⟩ = _ := fun o => hbS.frozen (p := ⟨w10.heap.size + 1, o, none⟩) (by simp only [World.size_alloc, World.size_drew]; omega)); (try simp [go_sem, *] at hfw120); (try have hxw121 : ∀ o, w12.cell? ⟨w11.heap.size, o, none⟩ = _ := fun o => hbS.cell (p := ⟨w11.heap.size, o, none⟩) (by simp only [World.size_alloc, World.size_drew]; omega)); (try simp [go_sem, *] at hxw121); (try have hfw121 : ∀ o, w12.frozen? ⟨w11.heap.size, o, none⟩ = _ := fun o => hbS.frozen (p := ⟨w11.heap.size, o, none⟩) (by simp only [World.size_alloc, World.size_drew]; omega)); (try simp [go_sem, *] at hfw121); clear hb)
       refine hK.out _ _ ?_ (fun hHeld => ?_)
       ·exact sbT
       clear hK K
       (try simp only [Act.put, putS])
       refine wpAnyH_ready (rs := [11]) (by kernel_rfl) (by simp) ?_
       refine ord_run (i := 11) #[true, true, true, true, true, true, true, true, true, true, true, true, false, false, false, true, false, false] rfl (by kernel_rfl) (by rfl) (fun K hK => ?_) AllReadyH.nil
       go_simp
       go_wp2_with (go_at_call 88; refine (HGR.out A2 c2 _ (HR2.out.below (PP.out.trans belT))).mono ?_; rintro e w13 ⟨rfl, hb⟩; have hbS := hb; have hbS3 := hb; have P3 : Below w10.heap.size w10 w13 := qB hb; have zw13 := hb.size; (try simp at zw13); have y3 : w10.heap.size < w13.heap.size := (by omega); (try have hxw130 : ∀ o, w13.cell? ⟨w10.heap.size + 1, o, none⟩ = _ := fun o => hbS.cell (p := ⟨w10.heap.size + 1, o, none⟩) (by simp only [World.size_alloc, World.size_drew]; omega)); (try simp [go_sem, *] at hxw130); (try have hfw130 : ∀ o, w13.frozen? ⟨w10.heap.size + 1, o, none⟩ = _ := fun o => hbS.frozen (p := ⟨w10.heap.size + 1, o, none⟩) (by simp only [World.size_alloc, World.size_drew]; omega)); (try simp [go_sem, *] at hfw130); (try have hxw131 : ∀ o, w13.cell? ⟨w11.heap.size, o, none⟩ = _ := fun o => hbS.cell (p := ⟨w11.heap.size, o, none⟩) (by simp only [World.size_alloc, World.size_drew]; omega)); (try simp [go_sem, *] at hxw131); (try have hfw131 : ∀ o, w13.frozen? ⟨w11.heap.size, o, none⟩ = _ := fun o => hbS.frozen (p := ⟨w11.heap.size, o, none⟩) (by simp only [World.size_alloc, World.size_drew]; omega)); (try simp [go_sem, *] at hfw131); (try have hxw132 : ∀ o, w13.cell? ⟨w12.heap.size, o, none⟩ = _ := fun o => hbS.cell (p := ⟨w12.heap.size, o, none⟩) (by simp only [World.size_alloc, World.size_drew]; omega)); (try simp [go_sem, *] at hxw132); (try have hfw132 : ∀ o, w13.frozen? ⟨w12.heap.size, o, none⟩ = _ := fun o => hbS.frozen (p := ⟨w12.heap.size, o, none⟩) (by simp only [World.size_alloc, World.size_drew]; omega)); (try simp [go_sem, *] at hfw132); clear hb)
       refine hK.out _ _ ?_ (fun hHeld => ?_)
       ·exact sbT
       clear hK K
       (try simp only [Act.put, putS])
       refine oS (i := 12) #[true, true, true, true, true, true, true, true, true, true, true, true, true, false, false, true, false, false] rfl hHeld ?_
       (try simp only [Act.put, putS])
       refine oS (i := 13) #[true, true, true, true, true, true, true, true, true, true, true, true, true, true, false, true, false, false] rfl hHeld ?_
       (try simp only [Act.put, putS])
       refine oS (i := 14) (preB 16 2) rfl hHeld ?_
       (try simp only [Act.put, putS])
       refine wpAnyH_ready (rs := [16]) (by kernel_rfl) (by simp) ?_
       refine ord_run (i := 16) (preB 17 1) rfl (by kernel_rfl) (by rfl) (fun K hK => ?_) AllReadyH.nil
       go_simp
       refine hK.out _ _ ?_ (fun hHeld => ?_)
       ·exact sbT
       clear hK K
       (try simp only [Act.put, putS])
       refine oS (i := 17) (preB 18 0) rfl hHeld ?_
       (try simp only [Act.put, putS])
       refine wpAnyH_done (by kernel_rfl) ?_ _
       obtain ⟨q10c0_0, q10c0_1, q10c0_2, q10c0_3, q10c0_4, q10c0_5, q10c0_6, q10c1_0, q10c1_1, q10c1_2, q10c1_3, q10c1_4, q10c1_5, q10c1_6, q10f0, q10f1⟩ := HQ.out
       obtain ⟨z510, z110⟩ := HZZ.out
       clear hcb
       have hb := P3
       have q4B : Below w10.heap.size w10 w13 := qB hb
       have q4z := hb.size
       try simp at q4z
       have q4t : w10.heap.size ≤ w13.heap.size := (by omega)
       obtain ⟨q4s0, q4n0_0, q4n0_1, q4n0_2⟩ := kB w13.heap.size (w.heap.size + 1)
       obtain ⟨q4c0_0, q4c0_1, q4c0_2, q4c0_3, q4c0_4, q4c0_5, q4c0_6, q4f0⟩ := kC7 hb (w.heap.size + 1)
       simp [go_sem, *] at q4c0_0 q4c0_1 q4c0_2 q4c0_3 q4c0_4 q4c0_5 q4c0_6 q4f0
       obtain ⟨q4s1, q4n1_0, q4n1_1, q4n1_2⟩ := kB w13.heap.size (w5.heap.size + 1)
       obtain ⟨q4c1_0, q4c1_1, q4c1_2, q4c1_3, q4c1_4, q4c1_5, q4c1_6, q4f1⟩ := kC7 hb (w5.heap.size + 1)
       simp [go_sem, *] at q4c1_0 q4c1_1 q4c1_2 q4c1_3 q4c1_4 q4c1_5 q4c1_6 q4f1
       have q4o := belO q4B
       clear hb
       clear q10c0_0 q10c0_1 q10c0_2 q10c0_3 q10c0_4 q10c0_5 q10c0_6 q10c1_0 q10c1_1 q10c1_2 q10c1_3 q10c1_4 q10c1_5 q10c1_6 q10f0 q10f1
       have B13 := hide (B10.out.trans (P3.mono (by omega)))
       have ew10pa : ¬ w10.heap.size + 1 = w.heap.size + 1 := (by omega)
       have fw10pa : ¬ w.heap.size + 1 = w10.heap.size + 1 := (by omega)
       have ew10pb : ¬ w10.heap.size + 1 = w5.heap.size + 1 := (by omega)
       have fw10pb : ¬ w5.heap.size + 1 = w10.heap.size + 1 := (by omega)
       have ew11a : ¬ w11.heap.size = w.heap.size + 1 := (by omega)
       have fw11a : ¬ w.heap.size + 1 = w11.heap.size := (by omega)
       have ew11b : ¬ w11.heap.size = w5.heap.size + 1 := (by omega)
       have fw11b : ¬ w5.heap.size + 1 = w11.heap.size := (by omega)
       have ew12a : ¬ w12.heap.size = w.heap.size + 1 := (by omega)
       have fw12a : ¬ w.heap.size + 1 = w12.heap.size := (by omega)
       have ew12b : ¬ w12.heap.size = w5.heap.size + 1 := (by omega)
       have fw12b : ¬ w5.heap.size + 1 = w12.heap.size := (by omega)
       have ew13a : ¬ w13.heap.size = w.heap.size + 1 := (by omega)
       have fw13a : ¬ w.heap.size + 1 = w13.heap.size := (by omega)
       have ew13b : ¬ w13.heap.size = w5.heap.size + 1 := (by omega)
       have fw13b : ¬ w5.heap.size + 1 = w13.heap.size := (by omega)
       have g1 : ¬ w10.heap.size = w.heap.size := (by omega)
       have g2 : ¬ w10.heap.size = w5.heap.size := (by omega)
       have g3 : ¬ w.heap.size = w10.heap.size := (by omega)
       have g4 : ¬ w5.heap.size = w10.heap.size := (by omega)
       obtain ⟨hp, hAc, hbal, hsd⟩ := HE.out
       by_cases hs0 : 0 < bal
       ·have HC := hide (hAc.trans (acr_pos HA.out hp (by rw [← hbal]; exact hs0)))
        rw [← hbal] at HC
        rw [← side_cr (p := B.P k) (show ¬ bal < 0 from by omega), ← hsd, HGV.out] at HC
        clear hp hAc hbal hsd
        go_wp2_with fail
        refine bodyPost_ret (by simp [results, Tryz.results52, go_sem, *] <;> rfl) rfl ?_
        refine dayRet_of HV.out ?_ ?_
        ·rw [HC.out]; rfl
        ·refine B13.out.trans ?_
         (repeat (first | (with_reducible first | exact Below.refl _ _ | assumption | refine Below.drew ?_) | ((with_reducible first | refine Below.alloc ?_ ?_ _ | refine Below.setCell ?_ ?_ _); rotate_left; (first | omega | (simp <;> omega)))))
       ·by_cases hs1 : bal < 0
        ·have HC := hide (hAc.trans (acr_neg HA.out hp (by rw [← hbal]; exact hs1)))
         rw [← hbal] at HC
         rw [← side_db (p := B.P k) (show bal < 0 from by omega), ← hsd, HGV.out] at HC
         clear hp hAc hbal hsd
         have hn0 : bal ≤ 0 := by omega
         clear hs0
         go_wp2_with fail
         refine bodyPost_ret (by simp [results, Tryz.results52, go_sem, *] <;> rfl) rfl ?_
         refine dayRet_of HV.out ?_ ?_
         ·rw [HC.out]; rfl
         ·refine B13.out.trans ?_
          (repeat (first | (with_reducible first | exact Below.refl _ _ | assumption | refine Below.drew ?_) | ((with_reducible first | refine Below.alloc ?_ ?_ _ | refine Below.setCell ?_ ?_ _); rotate_left; (first | omega | (simp <;> omega)))))
        ·have hz0 : bal = 0 := by omega
         have HC := hide (hAc.trans (acr_zero HA.out hp (by rw [← hbal]; exact hz0)))
         rw [← hbal] at HC
         have hz1 := Int.not_lt.1 hs0
         have hz2 := Int.not_lt.1 hs1
         clear hp hAc hbal hsd hs0 hs1 hz0
         go_wp2_with fail
         refine bodyPost_ret (by simp [results, Tryz.results52, go_sem, *] <;> rfl) rfl ?_
         refine dayRet_of HV.out ?_ ?_
         ·rw [HC.out]; rfl
         ·refine B13.out.trans ?_
          (repeat (first | (with_reducible first | exact Below.refl _ _ | assumption | refine Below.drew ?_) | ((with_reducible first | refine Below.alloc ?_ ?_ _ | refine Below.setCell ?_ ?_ _); rotate_left; (first | omega | (simp <;> omega)))))
      exact AllReadyH.nil
     refine ord_run (i := 15) #[true, true, true, true, true, true, false, true, true, true, false, false, false, false, false, true, false, false] rfl (by kernel_rfl) (by rfl) (fun K hK => ?_) ?_
     ·go_simp
      refine hK.out _ _ ?_ (fun hHeld => ?_)
      ·exact sbT
      clear hK K
      (try simp only [Act.put, putS])
      refine wpAnyH_ready (rs := [6]) (by kernel_rfl) (by simp) ?_
      refine ord_run (i := 6) #[true, true, true, true, true, true, true, true, true, true, false, false, false, false, false, true, false, false] rfl (by kernel_rfl) (by rfl) (fun K hK => ?_) AllReadyH.nil
      go_simp
      go_wp2_with (go_at_call 57; refine (HSL.out A c _ (HR.out.below belT)).mono ?_; rintro e w11 ⟨A2, c2, rfl, hrow, hb⟩; have HR2 := hide hrow; clear hrow; have hbS := hb; have hbS1 := hb; have P1 : Below w10.heap.size w10 w11 := qB hb; have zw11 := hb.size; (try simp at zw11); have y1 : w10.heap.size < w11.heap.size := (by omega); (try have hxw110 : ∀ o, w11.cell? ⟨w10.heap.size + 1, o, none⟩ = _ := fun o => hbS.cell (p := ⟨w10.heap.size + 1, o, none⟩) (by simp only [World.size_alloc, World.size_drew]; omega)); (try simp [go_sem, *] at hxw110); (try have hfw110 : ∀ o, w11.frozen? ⟨w10.heap.size + 1, o, none⟩ = _ := fun o => hbS.frozen (p := ⟨w10.heap.size + 1, o, none⟩) (by simp only [World.size_alloc, World.size_drew]; omega)); (try simp [go_sem, *] at hfw110); clear hb)
      refine hK.out _ _ ?_ (fun hHeld => ?_)
      ·exact sbT
      clear hK K
      (try simp only [Act.put, putS])
      refine wpAnyH_ready (rs := [10]) (by kernel_rfl) (by simp) ?_
      refine ord_run (i := 10) #[true, true, true, true, true, true, true, true, true, true, true, false, false, false, false, true, false, false] rfl (by kernel_rfl) (by rfl) (fun K hK => ?_) AllReadyH.nil
      go_simp
      go_wp2_with (go_at_call 58; refine (HWG.out _).mono ?_; rintro e w12 ⟨rfl, hb⟩; have PP := hide (show Below w11.heap.size w11 w12 from qB hb); have hbS := hb; have hbS2 := hb; have P2 : Below w10.heap.size w10 w12 := qB hb; have zw12 := hb.size; (try simp at zw12); have y2 : w10.heap.size < w12.heap.size := (by omega); (try have hxw120 : ∀ o, w12.cell? ⟨w10.heap.size + 1, o, none⟩ = _ := fun o => hbS.cell (p := ⟨w10.heap.size + 1, o, none⟩) (by simp only [World.size_alloc, World.size_drew]; omega)); (try simp [go_sem, *] at hxw120); (try have hfw120 : ∀ o, w12.frozen? ⟨w10.heap.size + 1, o, none⟩ = _ := fun o => hbS.frozen (p := ⟨w10.heap.size + 1, o, none⟩) (by simp only [World.size_alloc, World.size_drew]; omega)); (try simp [go_sem, *] at hfw120); (try have hxw121 : ∀ o, w12.cell? ⟨w11.heap.size, o, none⟩ = _ := fun o => hbS.cell (p := ⟨w11.heap.size, o, none⟩) (by simp only [World.size_alloc, World.size_drew]; omega)); (try simp [go_sem, *] at hxw121); (try have hfw121 : ∀ o, w12.frozen? ⟨w11.heap.size, o, none⟩ = _ := fun o => hbS.frozen (p := ⟨w11.heap.size, o, none⟩) (by simp only [World.size_alloc, World.size_drew]; omega)); (try simp [go_sem, *] at hfw121); clear hb)
      refine hK.out _ _ ?_ (fun hHeld => ?_)
      ·exact sbT
      clear hK K
      (try simp only [Act.put, putS])
      refine wpAnyH_ready (rs := [11]) (by kernel_rfl) (by simp) ?_
      refine ord_run (i := 11) #[true, true, true, true, true, true, true, true, true, true, true, true, false, false, false, true, false, false] rfl (by kernel_rfl) (by rfl) (fun K hK => ?_) AllReadyH.nil
      go_simp
      go_wp2_with (go_at_call 88; refine (HGR.out A2 c2 _ (HR2.out.below (PP.out.trans belT))).mono ?_; rintro e w13 ⟨rfl, hb⟩; have hbS := hb; have hbS3 := hb; have P3 : Below w10.heap.size w10 w13 := qB hb; have zw13 := hb.size; (try simp at zw13); have y3 : w10.heap.size < w13.heap.size := (by omega); (try have hxw130 : ∀ o, w13.cell? ⟨w10.heap.size + 1, o, none⟩ = _ := fun o => hbS.cell (p := ⟨w10.heap.size + 1, o, none⟩) (by simp only [World.size_alloc, World.size_drew]; omega)); (try simp [go_sem, *] at hxw130); (try have hfw130 : ∀ o, w13.frozen? ⟨w10.heap.size + 1, o, none⟩ = _ := fun o => hbS.frozen (p := ⟨w10.heap.size + 1, o, none⟩) (by simp only [World.size_alloc, World.size_drew]; omega)); (try simp [go_sem, *] at hfw130); (try have hxw131 : ∀ o, w13.cell? ⟨w11.heap.size, o, none⟩ = _ := fun o => hbS.cell (p := ⟨w11.heap.size, o, none⟩) (by simp only [World.size_alloc, World.size_drew]; omega)); (try simp [go_sem, *] at hxw131); (try have hfw131 : ∀ o, w13.frozen? ⟨w11.heap.size, o, none⟩ = _ := fun o => hbS.frozen (p := ⟨w11.heap.size, o, none⟩) (by simp only [World.size_alloc, World.size_drew]; omega)); (try simp [go_sem, *] at hfw131); (try have hxw132 : ∀ o, w13.cell? ⟨w12.heap.size, o, none⟩ = _ := fun o => hbS.cell (p := ⟨w12.heap.size, o, none⟩) (by simp only [World.size_alloc, World.size_drew]; omega)); (try simp [go_sem, *] at hxw132); (try have hfw132 : ∀ o, w13.frozen? ⟨w12.heap.size, o, none⟩ = _ := fun o => hbS.frozen (p := ⟨w12.heap.size, o, none⟩) (by simp only [World.size_alloc, World.size_drew]; omega)); (try simp [go_sem, *] at hfw132); clear hb)
      refine hK.out _ _ ?_ (fun hHeld => ?_)
      ·exact sbT
      clear hK K
      (try simp only [Act.put, putS])
      refine oS (i := 12) #[true, true, true, true, true, true, true, true, true, true, true, true, true, false, false, true, false, false] rfl hHeld ?_
      (try simp only [Act.put, putS])
      refine oS (i := 13) #[true, true, true, true, true, true, true, true, true, true, true, true, true, true, false, true, false, false] rfl hHeld ?_
      (try simp only [Act.put, putS])
      refine oS (i := 14) (preB 16 2) rfl hHeld ?_
      (try simp only [Act.put, putS])
      refine wpAnyH_ready (rs := [16]) (by kernel_rfl) (by simp) ?_
      refine ord_run (i := 16) (preB 17 1) rfl (by kernel_rfl) (by rfl) (fun K hK => ?_) AllReadyH.nil
      go_simp
      refine hK.out _ _ ?_ (fun hHeld => ?_)
      ·exact sbT
      clear hK K
      (try simp only [Act.put, putS])
      refine oS (i := 17) (preB 18 0) rfl hHeld ?_
      (try simp only [Act.put, putS])
      refine wpAnyH_done (by kernel_rfl) ?_ _
      obtain ⟨q10c0_0, q10c0_1, q10c0_2, q10c0_3, q10c0_4, q10c0_5, q10c0_6, q10c1_0, q10c1_1, q10c1_2, q10c1_3, q10c1_4, q10c1_5, q10c1_6, q10f0, q10f1⟩ := HQ.out
      obtain ⟨z510, z110⟩ := HZZ.out
      clear hcb
      have hb := P3
      have q4B : Below w10.heap.size w10 w13 := qB hb
      have q4z := hb.size
      try simp at q4z
      have q4t : w10.heap.size ≤ w13.heap.size := (by omega)
      obtain ⟨q4s0, q4n0_0, q4n0_1, q4n0_2⟩ := kB w13.heap.size (w.heap.size + 1)
      obtain ⟨q4c0_0, q4c0_1, q4c0_2, q4c0_3, q4c0_4, q4c0_5, q4c0_6, q4f0⟩ := kC7 hb (w.heap.size + 1)
      simp [go_sem, *] at q4c0_0 q4c0_1 q4c0_2 q4c0_3 q4c0_4 q4c0_5 q4c0_6 q4f0
      obtain ⟨q4s1, q4n1_0, q4n1_1, q4n1_2⟩ := kB w13.heap.size (w5.heap.size + 1)
      obtain ⟨q4c1_0, q4c1_1, q4c1_2, q4c1_3, q4c1_4, q4c1_5, q4c1_6, q4f1⟩ := kC7 hb (w5.heap.size + 1)
      simp [go_sem, *] at q4c1_0 q4c1_1 q4c1_2 q4c1_3 q4c1_4 q4c1_5 q4c1_6 q4f1
      have q4o := belO q4B
      clear hb
      clear q10c0_0 q10c0_1 q10c0_2 q10c0_3 q10c0_4 q10c0_5 q10c0_6 q10c1_0 q10c1_1 q10c1_2 q10c1_3 q10c1_4 q10c1_5 q10c1_6 q10f0 q10f1
      have B13 := hide (B10.out.trans (P3.mono (by omega)))
      have ew10pa : ¬ w10.heap.size + 1 = w.heap.size + 1 := (by omega)
      have fw10pa : ¬ w.heap.size + 1 = w10.heap.size + 1 := (by omega)
      have ew10pb : ¬ w10.heap.size + 1 = w5.heap.size + 1 := (by omega)
      have fw10pb : ¬ w5.heap.size + 1 = w10.heap.size + 1 := (by omega)
      have ew11a : ¬ w11.heap.size = w.heap.size + 1 := (by omega)
      have fw11a : ¬ w.heap.size + 1 = w11.heap.size := (by omega)
      have ew11b : ¬ w11.heap.size = w5.heap.size + 1 := (by omega)
      have fw11b : ¬ w5.heap.size + 1 = w11.heap.size := (by omega)
      have ew12a : ¬ w12.heap.size = w.heap.size + 1 := (by omega)
      have fw12a : ¬ w.heap.size + 1 = w12.heap.size := (by omega)
      have ew12b : ¬ w12.heap.size = w5.heap.size + 1 := (by omega)
      have fw12b : ¬ w5.heap.size + 1 = w12.heap.size := (by omega)
      have ew13a : ¬ w13.heap.size = w.heap.size + 1 := (by omega)
      have fw13a : ¬ w.heap.size + 1 = w13.heap.size := (by omega)
      have ew13b : ¬ w13.heap.size = w5.heap.size + 1 := (by omega)
      have fw13b : ¬ w5.heap.size + 1 = w13.heap.size := (by omega)
      have g1 : ¬ w10.heap.size = w.heap.size := (by omega)
      have g2 : ¬ w10.heap.size = w5.heap.size := (by omega)
      have g3 : ¬ w.heap.size = w10.heap.size := (by omega)
      have g4 : ¬ w5.heap.size = w10.heap.size := (by omega)
      obtain ⟨hp, hAc, hbal, hsd⟩ := HE.out
      by_cases hs0 : 0 < bal
      ·have HC := hide (hAc.trans (acr_pos HA.out hp (by rw [← hbal]; exact hs0)))
       rw [← hbal] at HC
       rw [← side_cr (p := B.P k) (show ¬ bal < 0 from by omega), ← hsd, HGV.out] at HC
       clear hp hAc hbal hsd
       go_wp2_with fail
       refine bodyPost_ret (by simp [results, Tryz.results52, go_sem, *] <;> rfl) rfl ?_
       refine dayRet_of HV.out ?_ ?_
       ·rw [HC.out]; rfl
       ·refine B13.out.trans ?_
        (repeat (first | (with_reducible first | exact Below.refl _ _ | assumption | refine Below.drew ?_) | ((with_reducible first | refine Below.alloc ?_ ?_ _ | refine Below.setCell ?_ ?_ _); rotate_left; (first | omega | (simp <;> omega)))))
      ·by_cases hs1 : bal < 0
       ·have HC := hide (hAc.trans (acr_neg HA.out hp (by rw [← hbal]; exact hs1)))
        rw [← hbal] at HC
        rw [← side_db (p := B.P k) (show bal < 0 from by omega), ← hsd, HGV.out] at HC
        clear hp hAc hbal hsd
        have hn0 : bal ≤ 0 := by omega
        clear hs0
        go_wp2_with fail
        refine bodyPost_ret (by simp [results, Tryz.results52, go_sem, *] <;> rfl) rfl ?_
        refine dayRet_of HV.out ?_ ?_
        ·rw [HC.out]; rfl
        ·refine B13.out.trans ?_
         (repeat (first | (with_reducible first | exact Below.refl _ _ | assumption | refine Below.drew ?_) | ((with_reducible first | refine Below.alloc ?_ ?_ _ | refine Below.setCell ?_ ?_ _); rotate_left; (first | omega | (simp <;> omega)))))
       ·have hz0 : bal = 0 := by omega
        have HC := hide (hAc.trans (acr_zero HA.out hp (by rw [← hbal]; exact hz0)))
        rw [← hbal] at HC
        have hz1 := Int.not_lt.1 hs0
        have hz2 := Int.not_lt.1 hs1
        clear hp hAc hbal hsd hs0 hs1 hz0
        go_wp2_with fail
        refine bodyPost_ret (by simp [results, Tryz.results52, go_sem, *] <;> rfl) rfl ?_
        refine dayRet_of HV.out ?_ ?_
        ·rw [HC.out]; rfl
        ·refine B13.out.trans ?_
         (repeat (first | (with_reducible first | exact Below.refl _ _ | assumption | refine Below.drew ?_) | ((with_reducible first | refine Below.alloc ?_ ?_ _ | refine Below.setCell ?_ ?_ _); rotate_left; (first | omega | (simp <;> omega)))))
     exact AllReadyH.nil
end Go.Proofs.YtdjlaiilngechaaGreatDoor
