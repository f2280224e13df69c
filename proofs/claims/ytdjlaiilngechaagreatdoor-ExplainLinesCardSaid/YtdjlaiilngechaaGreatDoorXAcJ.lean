/- Texts laid together: AcJ. -/
import Derived.Test.YtdjlaiilngechaaGreatDoorXAcH
import Derived.Test.YtdjlaiilngechaaGreatDoorXAcC
import Derived.Test.YtdjlaiilngechaaGreatDoorXK0
namespace Go.Proofs.YtdjlaiilngechaaGreatDoor
set_option maxRecDepth 4000
set_option linter.unusedSimpArgs false
set_option linter.unusedVariables false
open Go.RowKit
abbrev AcrV (a : LAcr) : Value := .agg #[.int .i64 a.ac, .int .i64 a.dy, .int .i64 a.bl, .int .i64 (hiW a.cr), .int .u64 (loW a.cr), .int .i64 (hiW a.db), .int .u64 (loW a.db)]
theorem acr_no {B : LBk} {id day : Int} (h : actB B id day = false) : acr B id day = ⟨id, day, 0, 0, 0⟩ := if_neg (by rw [h]; decide)
theorem acr_none {B : LBk} {id day : Int} (h : actB B id day = true) (hp : prdB B id day = none) : acr B id day = ⟨id, day, balB B id day, 0, 0⟩ := by
 unfold acr
 rw [if_pos h, hp]
theorem acr_pos {B : LBk} {id day : Int} {k : Nat} (h : actB B id day = true) (hp : prdB B id day = some k) (hb : 0 < balB B id day) : acr B id day = ⟨id, day, balB B id day, grn (B.P k).cr (balB B id day) day, 0⟩ := by
 unfold acr
 rw [if_pos h, hp]
 simp only
 rw [if_pos hb, if_neg (by omega)]
theorem acr_neg {B : LBk} {id day : Int} {k : Nat} (h : actB B id day = true) (hp : prdB B id day = some k) (hb : balB B id day < 0) : acr B id day = ⟨id, day, balB B id day, 0, grn (B.P k).db (balB B id day) day⟩ := by
 unfold acr
 rw [if_pos h, hp]
 simp only
 rw [if_pos hb, if_neg (by omega)]
theorem acr_zero {B : LBk} {id day : Int} {k : Nat} (h : actB B id day = true) (hp : prdB B id day = some k) (hb : balB B id day = 0) : acr B id day = ⟨id, day, balB B id day, 0, 0⟩ := by
 unfold acr
 rw [if_pos h, hp]
 simp only
 rw [if_neg (by omega), if_neg (by omega)]
theorem prd_lt {B : LBk} {id day : Int} {k : Nat} (hp : prdB B id day = some k) : k < B.pn := by
 unfold prdB at hp
 split at hp
 ·exact bstP_lt hp
 ·cases hp
theorem side_cr {p : LPro} {b : Int} (h : ¬ b < 0) : sideP p b = p.cr := if_neg h
theorem side_db {p : LPro} {b : Int} (h : b < 0) : sideP p b = p.db := if_pos h
theorem balB_in (B : LBk) (id day : Int) : IIn (balB B id day) := sumE_bd _ _ _ _
theorem bkPr {w : World} {B : LBk} (h : BkIn w B) {k : Nat} (hk : k < B.pn) : PrIn w (B.P k) := ⟨h.pro.cr k hk, h.pro.db k hk⟩
set_option maxRecDepth 8000 in
set_option maxHeartbeats 4000000 in
theorem daily1_any (B : LBk) (hB : BkOK B) (id day : Int) (bi bb : Nat) (w : World) (hw : BkIn w B) (hi : w.cell? ⟨bi, 0, none⟩ = some (.int .i64 id)) (hil : bi < w.heap.size) (hb : w.heap[bb]? = some (.cells B.C 33 (0, 0))) :
  Calls Tryz.prog 78 #[.int .i64 day, .pointer (some ⟨bi, 0, none⟩), .pointer (some ⟨bb, 0, none⟩)] w fun e w' => e = .returned (AcrV (acr B id day)) ∧ Below w.heap.size w w' := by
 have HB := hide hB
 have HW := hide hw
 have HS := hide (bk_size hB)
 have hbl := heap_lt hb
 have n1 : ¬ w.heap.size = bi := by omega
 have n2 : ¬ w.heap.size = bb := by omega
 have n3 : ¬ w.heap.size + 1 = bi := by omega
 have n4 : ¬ w.heap.size + 1 = bb := by omega
 have X0 := hide hb
 have h19 := (cell_of_cells hb 19).trans hB.bks.jou
 obtain ⟨Ac, hAc⟩ : ∃ a, a = acr B id day := ⟨_, rfl⟩
 obtain ⟨bal, hbal⟩ : ∃ a, a = balB B id day := ⟨_, rfl⟩
 have HBI := hide (show IIn bal from by rw [hbal]; exact balB_in B id day)
 have HAT := hide (fun W hj => by have t := at_any B.jA B.jn B.jc B.E id 73048 day HB.out.jn W hj; rw [show sumE B.E id (upB 73048 day) B.jn = bal from hbal.symm] at t; exact t)
 rw [← hAc]
 clear hB hw hb
 cases ha : actB B id day with
 | false =>
  have HA := hide ha
  have HV := hide (hAc.trans (acr_no ha))
  clear ha hAc hbal h19
  go_enter Tryz.func78, Tryz.ntmps78
  go_wp2_with (with_reducible refine wpList_load_row rfl 33 (.tmp 2) rfl bb rfl 33 B.C (0, 0) _ (blk_under (blk_under X0.out)) Tryz.underlying33 rfl HS.out ?_)
  refine (active_any B HB.out id day _ (HW.out.below belT)).mono ?_
  rintro e w1 ⟨rfl, hb⟩
  rw [HA.out]
  have q1B : Below w.heap.size w w1 := qB hb
  have q1z := hb.size
  try simp at q1z
  have q1t : w.heap.size ≤ w1.heap.size := (by omega)
  obtain ⟨q1s0, q1n0_0, q1n0_1, q1n0_2⟩ := kB w1.heap.size w.heap.size
  obtain ⟨q1c0_0, q1c0_1, q1c0_2, q1c0_3, q1c0_4, q1c0_5, q1c0_6, q1f0⟩ := kC7 hb w.heap.size
  simp [go_sem, *] at q1c0_0 q1c0_1 q1c0_2 q1c0_3 q1c0_4 q1c0_5 q1c0_6 q1f0
  obtain ⟨q1s1, q1n1_0, q1n1_1, q1n1_2⟩ := kB w1.heap.size (w.heap.size + 1)
  obtain ⟨q1c1_0, q1c1_1, q1c1_2, q1c1_3, q1c1_4, q1c1_5, q1c1_6, q1f1⟩ := kC7 hb (w.heap.size + 1)
  simp [go_sem, *] at q1c1_0 q1c1_1 q1c1_2 q1c1_3 q1c1_4 q1c1_5 q1c1_6 q1f1
  have q1o := belO q1B
  clear hb
  go_wp2_with fail
  refine bodyPost_ret (by simp [results, Tryz.results78, go_sem, *] <;> rfl) rfl ⟨?_, ?_⟩
  ·rw [HV.out]; rfl
  ·refine q1B.trans ?_
   (repeat (first | (with_reducible first | exact Below.refl _ _ | assumption | refine Below.drew ?_) | ((with_reducible first | refine Below.alloc ?_ ?_ _ | refine Below.setCell ?_ ?_ _); rotate_left; (first | omega | (simp <;> omega)))))
 | true =>
  have HA := hide ha
  clear ha
  obtain ⟨i0, Z, hi0, hi1, hi2⟩ := pz_zero
  have HI := hide (And.intro hi0 hi1)
  have HZ1 := hide hi2
  clear hi0 hi1 hi2
  cases hp : prdB B id day with
  | none =>
   have HP := hide hp
   have HV := hide (hAc.trans (acr_none HA.out hp))
   rw [← hbal] at HV
   clear hp hAc hbal
   go_enter Tryz.func78, Tryz.ntmps78
   go_wp2_with (with_reducible refine wpList_load_row rfl 33 (.tmp 2) rfl bb rfl 33 B.C (0, 0) _ (blk_under (blk_under X0.out)) Tryz.underlying33 rfl HS.out ?_)
   refine (active_any B HB.out id day _ (HW.out.below belT)).mono ?_
   rintro e w1 ⟨rfl, hb⟩
   rw [HA.out]
   have X1 := hide (blk_below hb (by simp; omega) (blk_under (blk_under X0.out)))
   have q1B : Below w.heap.size w w1 := qB hb
   have q1z := hb.size
   try simp at q1z
   have q1t : w.heap.size ≤ w1.heap.size := (by omega)
   obtain ⟨q1s0, q1n0_0, q1n0_1, q1n0_2⟩ := kB w1.heap.size w.heap.size
   obtain ⟨q1c0_0, q1c0_1, q1c0_2, q1c0_3, q1c0_4, q1c0_5, q1c0_6, q1f0⟩ := kC7 hb w.heap.size
   simp [go_sem, *] at q1c0_0 q1c0_1 q1c0_2 q1c0_3 q1c0_4 q1c0_5 q1c0_6 q1f0
   obtain ⟨q1s1, q1n1_0, q1n1_1, q1n1_2⟩ := kB w1.heap.size (w.heap.size + 1)
   obtain ⟨q1c1_0, q1c1_1, q1c1_2, q1c1_3, q1c1_4, q1c1_5, q1c1_6, q1f1⟩ := kC7 hb (w.heap.size + 1)
   simp [go_sem, *] at q1c1_0 q1c1_1 q1c1_2 q1c1_3 q1c1_4 q1c1_5 q1c1_6 q1f1
   obtain ⟨q1s2, q1n2_0, q1n2_1, q1n2_2⟩ := kB w1.heap.size bi
   obtain ⟨q1c2_0, q1f2⟩ := kC1 hb bi
   simp [go_sem, *] at q1c2_0 q1f2
   obtain ⟨q1s3, q1n3_0, q1n3_1, q1n3_2⟩ := kB w1.heap.size bb
   have q1c3_19 := cel hb bb 19
   simp [go_sem, *] at q1c3_19
   have q1f3 := fun o => fro hb bb o
   simp [go_sem, *] at q1f3
   have q1o := belO q1B
   clear hb
   have B1 := hide q1B
   go_wp2_with fail
   refine (HAT.out _ (HW.out.jrn.below B1.out)).mono ?_
   rintro e w2 ⟨rfl, hb⟩
   have X2 := hide (blk_below hb (by omega) X1.out)
   have B2 := hide (B1.out.trans (hb.mono B1.out.size))
   have q2B : Below w1.heap.size w1 w2 := qB hb
   have q2z := hb.size
   try simp at q2z
   have q2t : w1.heap.size ≤ w2.heap.size := (by omega)
   obtain ⟨q2s0, q2n0_0, q2n0_1, q2n0_2⟩ := kB w2.heap.size w.heap.size
   obtain ⟨q2c0_0, q2c0_1, q2c0_2, q2c0_3, q2c0_4, q2c0_5, q2c0_6, q2f0⟩ := kC7 hb w.heap.size
   simp [go_sem, *] at q2c0_0 q2c0_1 q2c0_2 q2c0_3 q2c0_4 q2c0_5 q2c0_6 q2f0
   obtain ⟨q2s1, q2n1_0, q2n1_1, q2n1_2⟩ := kB w2.heap.size (w.heap.size + 1)
   obtain ⟨q2c1_0, q2c1_1, q2c1_2, q2c1_3, q2c1_4, q2c1_5, q2c1_6, q2f1⟩ := kC7 hb (w.heap.size + 1)
   simp [go_sem, *] at q2c1_0 q2c1_1 q2c1_2 q2c1_3 q2c1_4 q2c1_5 q2c1_6 q2f1
   obtain ⟨q2s2, q2n2_0, q2n2_1, q2n2_2⟩ := kB w2.heap.size bi
   obtain ⟨q2c2_0, q2f2⟩ := kC1 hb bi
   simp [go_sem, *] at q2c2_0 q2f2
   have q2o := belO q2B
   clear hb q1o q1f3 q1c3_19 q1s3 q1f2 q1c2_0 q1s2 q1f1 q1c1_6 q1c1_5 q1c1_4 q1c1_3 q1c1_2 q1c1_1 q1c1_0 q1s1 q1f0 q1c0_6 q1c0_5 q1c0_4 q1c0_3 q1c0_2 q1c0_1 q1c0_0 q1s0 q1z q1B
   go_wp2_with (with_reducible refine wpList_load_row rfl 33 (.tmp 2) rfl bb rfl 33 B.C (0, 0) _ (blk_setOther (by simp; omega) X2.out) Tryz.underlying33 rfl HS.out ?_)
   refine (product_any B HB.out id day _ (HW.out.below (B2.out.trans belT))).mono ?_
   rintro e w3 ⟨C, b, rfl, hs, h1, ho, hb⟩
   rw [HP.out] at ho
   simp only at ho
   subst ho
   have HH := hide (And.intro hs h1)
   clear hs h1
   have B3 := hide (B2.out.trans (Below.trans (by (repeat (first | (with_reducible first | exact Below.refl _ _ | assumption | refine Below.drew ?_) | ((with_reducible first | refine Below.alloc ?_ ?_ _ | refine Below.setCell ?_ ?_ _); rotate_left; (first | omega | (simp <;> omega))))) : Below w.heap.size w2 (w2.setCell ⟨w.heap.size + 1, 2, none⟩ (.int .i64 bal))) (hb.mono (by simp; omega))))
   have B2o := B2.out
   have q3B : Below w.heap.size w w3 := qB hb
   have q3z := hb.size
   try simp at q3z
   have q3t : w.heap.size ≤ w3.heap.size := (by omega)
   obtain ⟨q3s0, q3n0_0, q3n0_1, q3n0_2⟩ := kB w3.heap.size w.heap.size
   obtain ⟨q3c0_0, q3c0_1, q3c0_2, q3c0_3, q3c0_4, q3c0_5, q3c0_6, q3f0⟩ := kC7 hb w.heap.size
   simp [go_sem, *] at q3c0_0 q3c0_1 q3c0_2 q3c0_3 q3c0_4 q3c0_5 q3c0_6 q3f0
   obtain ⟨q3s1, q3n1_0, q3n1_1, q3n1_2⟩ := kB w3.heap.size (w.heap.size + 1)
   obtain ⟨q3c1_0, q3c1_1, q3c1_2, q3c1_3, q3c1_4, q3c1_5, q3c1_6, q3f1⟩ := kC7 hb (w.heap.size + 1)
   simp [go_sem, *] at q3c1_0 q3c1_1 q3c1_2 q3c1_3 q3c1_4 q3c1_5 q3c1_6 q3f1
   have q3o := belO q3B
   clear hb q2o q2f2 q2c2_0 q2s2 q2f1 q2c1_6 q2c1_5 q2c1_4 q2c1_3 q2c1_2 q2c1_1 q2c1_0 q2s1 q2f0 q2c0_6 q2c0_5 q2c0_4 q2c0_3 q2c0_2 q2c0_1 q2c0_0 q2s0 q2z q2B
   clear B2o
   go_wp2_with (first
    | (with_reducible refine wpList_alloc_row rfl 78 rfl (some 6) rfl i0 HI.out.1 Z HI.out.2 w3.heap.size rfl ?_)
    | ((with_reducible refine wpList_store_newrow2 rfl 78 (.tmp 6) (.tmp 28) rfl rfl w3.heap.size C rfl rfl 78 Z (blk_new rfl) (pz_size HH.out.1) (by rw [HZ1.out, HH.out.1]) HH.out.2 ?_); intro w4 hb hs4 hx4 hk4; have X4 := hide hx4; have q4B : Below w3.heap.size w3 w4 := qB hb; have q4z := hb.size; (try simp at q4z); have q4t : w3.heap.size ≤ w4.heap.size := (by omega); have q4s0 : w.heap.size < w4.heap.size := (by omega); obtain ⟨q4n0_0, q4n0_1, q4n0_2⟩ := kN q4s0; obtain ⟨q4c0_0, q4c0_1, q4c0_2, q4c0_3, q4c0_4, q4c0_5, q4c0_6, q4f0⟩ := kC7 hb w.heap.size; simp [go_sem, *] at q4c0_0 q4c0_1 q4c0_2 q4c0_3 q4c0_4 q4c0_5 q4c0_6 q4f0; have q4s1 : w.heap.size + 1 < w4.heap.size := (by omega); obtain ⟨q4n1_0, q4n1_1, q4n1_2⟩ := kN q4s1; obtain ⟨q4c1_0, q4c1_1, q4c1_2, q4c1_3, q4c1_4, q4c1_5, q4c1_6, q4f1⟩ := kC7 hb (w.heap.size + 1); simp [go_sem, *] at q4c1_0 q4c1_1 q4c1_2 q4c1_3 q4c1_4 q4c1_5 q4c1_6 q4f1; have q4o := belO q4B; have hbS := hb; have hbS4 := hb; clear hb; clear hs4 hx4 hk4; have B4 := hide (B3.out.trans (q4B.mono (by omega)))))
   refine bodyPost_ret (by simp [results, Tryz.results78, go_sem, *] <;> rfl) rfl ⟨?_, ?_⟩
   ·rw [HV.out]; rfl
   ·refine B4.out.trans ?_
    (repeat (first | (with_reducible first | exact Below.refl _ _ | assumption | refine Below.drew ?_) | ((with_reducible first | refine Below.alloc ?_ ?_ _ | refine Below.setCell ?_ ?_ _); rotate_left; (first | omega | (simp <;> omega)))))
  | some k =>
   have HP := hide hp
   have HK := hide (prd_lt hp)
   by_cases hs0 : 0 < bal
   ·have HV := hide (hAc.trans (acr_pos HA.out hp (by rw [← hbal]; exact hs0)))
    rw [← hbal] at HV
    clear hp hAc hbal
    go_enter Tryz.func78, Tryz.ntmps78
    go_wp2_with (with_reducible refine wpList_load_row rfl 33 (.tmp 2) rfl bb rfl 33 B.C (0, 0) _ (blk_under (blk_under X0.out)) Tryz.underlying33 rfl HS.out ?_)
    refine (active_any B HB.out id day _ (HW.out.below belT)).mono ?_
    rintro e w1 ⟨rfl, hb⟩
    rw [HA.out]
    have X1 := hide (blk_below hb (by simp; omega) (blk_under (blk_under X0.out)))
    have q1B : Below w.heap.size w w1 := qB hb
    have q1z := hb.size
    try simp at q1z
    have q1t : w.heap.size ≤ w1.heap.size := (by omega)
    obtain ⟨q1s0, q1n0_0, q1n0_1, q1n0_2⟩ := kB w1.heap.size w.heap.size
    obtain ⟨q1c0_0, q1c0_1, q1c0_2, q1c0_3, q1c0_4, q1c0_5, q1c0_6, q1f0⟩ := kC7 hb w.heap.size
    simp [go_sem, *] at q1c0_0 q1c0_1 q1c0_2 q1c0_3 q1c0_4 q1c0_5 q1c0_6 q1f0
    obtain ⟨q1s1, q1n1_0, q1n1_1, q1n1_2⟩ := kB w1.heap.size (w.heap.size + 1)
    obtain ⟨q1c1_0, q1c1_1, q1c1_2, q1c1_3, q1c1_4, q1c1_5, q1c1_6, q1f1⟩ := kC7 hb (w.heap.size + 1)
    simp [go_sem, *] at q1c1_0 q1c1_1 q1c1_2 q1c1_3 q1c1_4 q1c1_5 q1c1_6 q1f1
    obtain ⟨q1s2, q1n2_0, q1n2_1, q1n2_2⟩ := kB w1.heap.size bi
    obtain ⟨q1c2_0, q1f2⟩ := kC1 hb bi
    simp [go_sem, *] at q1c2_0 q1f2
    obtain ⟨q1s3, q1n3_0, q1n3_1, q1n3_2⟩ := kB w1.heap.size bb
    have q1c3_19 := cel hb bb 19
    simp [go_sem, *] at q1c3_19
    have q1f3 := fun o => fro hb bb o
    simp [go_sem, *] at q1f3
    have q1o := belO q1B
    clear hb
    have B1 := hide q1B
    go_wp2_with fail
    refine (HAT.out _ (HW.out.jrn.below B1.out)).mono ?_
    rintro e w2 ⟨rfl, hb⟩
    have X2 := hide (blk_below hb (by omega) X1.out)
    have B2 := hide (B1.out.trans (hb.mono B1.out.size))
    have q2B : Below w1.heap.size w1 w2 := qB hb
    have q2z := hb.size
    try simp at q2z
    have q2t : w1.heap.size ≤ w2.heap.size := (by omega)
    obtain ⟨q2s0, q2n0_0, q2n0_1, q2n0_2⟩ := kB w2.heap.size w.heap.size
    obtain ⟨q2c0_0, q2c0_1, q2c0_2, q2c0_3, q2c0_4, q2c0_5, q2c0_6, q2f0⟩ := kC7 hb w.heap.size
    simp [go_sem, *] at q2c0_0 q2c0_1 q2c0_2 q2c0_3 q2c0_4 q2c0_5 q2c0_6 q2f0
    obtain ⟨q2s1, q2n1_0, q2n1_1, q2n1_2⟩ := kB w2.heap.size (w.heap.size + 1)
    obtain ⟨q2c1_0, q2c1_1, q2c1_2, q2c1_3, q2c1_4, q2c1_5, q2c1_6, q2f1⟩ := kC7 hb (w.heap.size + 1)
    simp [go_sem, *] at q2c1_0 q2c1_1 q2c1_2 q2c1_3 q2c1_4 q2c1_5 q2c1_6 q2f1
    obtain ⟨q2s2, q2n2_0, q2n2_1, q2n2_2⟩ := kB w2.heap.size bi
    obtain ⟨q2c2_0, q2f2⟩ := kC1 hb bi
    simp [go_sem, *] at q2c2_0 q2f2
    have q2o := belO q2B
    clear hb q1o q1f3 q1c3_19 q1s3 q1f2 q1c2_0 q1s2 q1f1 q1c1_6 q1c1_5 q1c1_4 q1c1_3 q1c1_2 q1c1_1 q1c1_0 q1s1 q1f0 q1c0_6 q1c0_5 q1c0_4 q1c0_3 q1c0_2 q1c0_1 q1c0_0 q1s0 q1z q1B
    go_wp2_with (with_reducible refine wpList_load_row rfl 33 (.tmp 2) rfl bb rfl 33 B.C (0, 0) _ (blk_setOther (by simp; omega) X2.out) Tryz.underlying33 rfl HS.out ?_)
    refine (product_any B HB.out id day _ (HW.out.below (B2.out.trans belT))).mono ?_
    rintro e w3 ⟨C, b, rfl, hs, h1, ho, hb⟩
    rw [HP.out] at ho
    simp only at ho
    obtain ⟨rfl, rfl⟩ := ho
    have HH := hide (And.intro hs h1)
    clear hs h1
    have B3 := hide (B2.out.trans (Below.trans (by (repeat (first | (with_reducible first | exact Below.refl _ _ | assumption | refine Below.drew ?_) | ((with_reducible first | refine Below.alloc ?_ ?_ _ | refine Below.setCell ?_ ?_ _); rotate_left; (first | omega | (simp <;> omega))))) : Below w.heap.size w2 (w2.setCell ⟨w.heap.size + 1, 2, none⟩ (.int .i64 bal))) (hb.mono (by simp; omega))))
    have B2o := B2.out
    have q3B : Below w.heap.size w w3 := qB hb
    have q3z := hb.size
    try simp at q3z
    have q3t : w.heap.size ≤ w3.heap.size := (by omega)
    obtain ⟨q3s0, q3n0_0, q3n0_1, q3n0_2⟩ := kB w3.heap.size w.heap.size
    obtain ⟨q3c0_0, q3c0_1, q3c0_2, q3c0_3, q3c0_4, q3c0_5, q3c0_6, q3f0⟩ := kC7 hb w.heap.size
    simp [go_sem, *] at q3c0_0 q3c0_1 q3c0_2 q3c0_3 q3c0_4 q3c0_5 q3c0_6 q3f0
    obtain ⟨q3s1, q3n1_0, q3n1_1, q3n1_2⟩ := kB w3.heap.size (w.heap.size + 1)
    obtain ⟨q3c1_0, q3c1_1, q3c1_2, q3c1_3, q3c1_4, q3c1_5, q3c1_6, q3f1⟩ := kC7 hb (w.heap.size + 1)
    simp [go_sem, *] at q3c1_0 q3c1_1 q3c1_2 q3c1_3 q3c1_4 q3c1_5 q3c1_6 q3f1
    have q3o := belO q3B
    clear hb q2o q2f2 q2c2_0 q2s2 q2f1 q2c1_6 q2c1_5 q2c1_4 q2c1_3 q2c1_2 q2c1_1 q2c1_0 q2s1 q2f0 q2c0_6 q2c0_5 q2c0_4 q2c0_3 q2c0_2 q2c0_1 q2c0_0 q2s0 q2z q2B
    clear B2o
    go_wp2_with (first
     | (with_reducible refine wpList_alloc_row rfl 78 rfl (some 6) rfl i0 HI.out.1 Z HI.out.2 w3.heap.size rfl ?_)
     | ((with_reducible refine wpList_store_newrow2 rfl 78 (.tmp 6) (.tmp 28) rfl rfl w3.heap.size (B.P k).C rfl rfl 78 Z (blk_new rfl) (pz_size HH.out.1) (by rw [HZ1.out, HH.out.1]) HH.out.2 ?_); intro w4 hb hs4 hx4 hk4; have X4 := hide hx4; have q4B : Below w3.heap.size w3 w4 := qB hb; have q4z := hb.size; (try simp at q4z); have q4t : w3.heap.size ≤ w4.heap.size := (by omega); have q4s0 : w.heap.size < w4.heap.size := (by omega); obtain ⟨q4n0_0, q4n0_1, q4n0_2⟩ := kN q4s0; obtain ⟨q4c0_0, q4c0_1, q4c0_2, q4c0_3, q4c0_4, q4c0_5, q4c0_6, q4f0⟩ := kC7 hb w.heap.size; simp [go_sem, *] at q4c0_0 q4c0_1 q4c0_2 q4c0_3 q4c0_4 q4c0_5 q4c0_6 q4f0; have q4s1 : w.heap.size + 1 < w4.heap.size := (by omega); obtain ⟨q4n1_0, q4n1_1, q4n1_2⟩ := kN q4s1; obtain ⟨q4c1_0, q4c1_1, q4c1_2, q4c1_3, q4c1_4, q4c1_5, q4c1_6, q4f1⟩ := kC7 hb (w.heap.size + 1); simp [go_sem, *] at q4c1_0 q4c1_1 q4c1_2 q4c1_3 q4c1_4 q4c1_5 q4c1_6 q4f1; have q4o := belO q4B; have hbS := hb; have hbS4 := hb; clear hb; clear hs4 hx4 hk4; have B4 := hide (B3.out.trans (q4B.mono (by omega)))) | (with_reducible refine wpList_load_row rfl 78 (.tmp 6) rfl w3.heap.size rfl 78 (B.P k).C (0, 0) _ X4.out Tryz.underlying78 rfl (pz_size HH.out.1) ?_))
    refine (grains_any (B.P k).C (B.P k) (HB.out.cells k HK.out) (HB.out.cr k HK.out).tn (HB.out.db k HK.out).tn bal day HBI.out _ (bkPr (HW.out.below B4.out) HK.out)).mono ?_
    rintro e w5 ⟨rfl, hb⟩
    rw [side_cr (show ¬ bal < 0 from by omega)]
    have B5 := hide (B4.out.trans (hb.mono B4.out.size))
    have q5B : Below w4.heap.size w4 w5 := qB hb
    have q5z := hb.size
    try simp at q5z
    have q5t : w4.heap.size ≤ w5.heap.size := (by omega)
    obtain ⟨q5s0, q5n0_0, q5n0_1, q5n0_2⟩ := kB w5.heap.size w.heap.size
    obtain ⟨q5c0_0, q5c0_1, q5c0_2, q5c0_3, q5c0_4, q5c0_5, q5c0_6, q5f0⟩ := kC7 hb w.heap.size
    simp [go_sem, *] at q5c0_0 q5c0_1 q5c0_2 q5c0_3 q5c0_4 q5c0_5 q5c0_6 q5f0
    obtain ⟨q5s1, q5n1_0, q5n1_1, q5n1_2⟩ := kB w5.heap.size (w.heap.size + 1)
    obtain ⟨q5c1_0, q5c1_1, q5c1_2, q5c1_3, q5c1_4, q5c1_5, q5c1_6, q5f1⟩ := kC7 hb (w.heap.size + 1)
    simp [go_sem, *] at q5c1_0 q5c1_1 q5c1_2 q5c1_3 q5c1_4 q5c1_5 q5c1_6 q5f1
    have q5o := belO q5B
    clear hb q4o q4f1 q4c1_6 q4c1_5 q4c1_4 q4c1_3 q4c1_2 q4c1_1 q4c1_0 q4s1 q4f0 q4c0_6 q4c0_5 q4c0_4 q4c0_3 q4c0_2 q4c0_1 q4c0_0 q4s0 q4z q4B
    go_wp2_with fail
    refine bodyPost_ret (by simp [results, Tryz.results78, go_sem, *] <;> rfl) rfl ⟨?_, ?_⟩
    ·rw [HV.out]; rfl
    ·refine B5.out.trans ?_
     (repeat (first | (with_reducible first | exact Below.refl _ _ | assumption | refine Below.drew ?_) | ((with_reducible first | refine Below.alloc ?_ ?_ _ | refine Below.setCell ?_ ?_ _); rotate_left; (first | omega | (simp <;> omega)))))
   ·by_cases hs1 : bal < 0
    ·have HV := hide (hAc.trans (acr_neg HA.out hp (by rw [← hbal]; exact hs1)))
     rw [← hbal] at HV
     clear hp hAc hbal
     have hn0 : bal ≤ 0 := by omega
     clear hs0
     go_enter Tryz.func78, Tryz.ntmps78
     go_wp2_with (with_reducible refine wpList_load_row rfl 33 (.tmp 2) rfl bb rfl 33 B.C (0, 0) _ (blk_under (blk_under X0.out)) Tryz.underlying33 rfl HS.out ?_)
     refine (active_any B HB.out id day _ (HW.out.below belT)).mono ?_
     rintro e w1 ⟨rfl, hb⟩
     rw [HA.out]
     have X1 := hide (blk_below hb (by simp; omega) (blk_under (blk_under X0.out)))
     have q1B : Below w.heap.size w w1 := qB hb
     have q1z := hb.size
     try simp at q1z
     have q1t : w.heap.size ≤ w1.heap.size := (by omega)
     obtain ⟨q1s0, q1n0_0, q1n0_1, q1n0_2⟩ := kB w1.heap.size w.heap.size
     obtain ⟨q1c0_0, q1c0_1, q1c0_2, q1c0_3, q1c0_4, q1c0_5, q1c0_6, q1f0⟩ := kC7 hb w.heap.size
     simp [go_sem, *] at q1c0_0 q1c0_1 q1c0_2 q1c0_3 q1c0_4 q1c0_5 q1c0_6 q1f0
     obtain ⟨q1s1, q1n1_0, q1n1_1, q1n1_2⟩ := kB w1.heap.size (w.heap.size + 1)
     obtain ⟨q1c1_0, q1c1_1, q1c1_2, q1c1_3, q1c1_4, q1c1_5, q1c1_6, q1f1⟩ := kC7 hb (w.heap.size + 1)
     simp [go_sem, *] at q1c1_0 q1c1_1 q1c1_2 q1c1_3 q1c1_4 q1c1_5 q1c1_6 q1f1
     obtain ⟨q1s2, q1n2_0, q1n2_1, q1n2_2⟩ := kB w1.heap.size bi
     obtain ⟨q1c2_0, q1f2⟩ := kC1 hb bi
     simp [go_sem, *] at q1c2_0 q1f2
     obtain ⟨q1s3, q1n3_0, q1n3_1, q1n3_2⟩ := kB w1.heap.size bb
     have q1c3_19 := cel hb bb 19
     simp [go_sem, *] at q1c3_19
     have q1f3 := fun o => fro hb bb o
     simp [go_sem, *] at q1f3
     have q1o := belO q1B
     clear hb
     have B1 := hide q1B
     go_wp2_with fail
     refine (HAT.out _ (HW.out.jrn.below B1.out)).mono ?_
     rintro e w2 ⟨rfl, hb⟩
     have X2 := hide (blk_below hb (by omega) X1.out)
     have B2 := hide (B1.out.trans (hb.mono B1.out.size))
     have q2B : Below w1.heap.size w1 w2 := qB hb
     have q2z := hb.size
     try simp at q2z
     have q2t : w1.heap.size ≤ w2.heap.size := (by omega)
     obtain ⟨q2s0, q2n0_0, q2n0_1, q2n0_2⟩ := kB w2.heap.size w.heap.size
     obtain ⟨q2c0_0, q2c0_1, q2c0_2, q2c0_3, q2c0_4, q2c0_5, q2c0_6, q2f0⟩ := kC7 hb w.heap.size
     simp [go_sem, *] at q2c0_0 q2c0_1 q2c0_2 q2c0_3 q2c0_4 q2c0_5 q2c0_6 q2f0
     obtain ⟨q2s1, q2n1_0, q2n1_1, q2n1_2⟩ := kB w2.heap.size (w.heap.size + 1)
     obtain ⟨q2c1_0, q2c1_1, q2c1_2, q2c1_3, q2c1_4, q2c1_5, q2c1_6, q2f1⟩ := kC7 hb (w.heap.size + 1)
     simp [go_sem, *] at q2c1_0 q2c1_1 q2c1_2 q2c1_3 q2c1_4 q2c1_5 q2c1_6 q2f1
     obtain ⟨q2s2, q2n2_0, q2n2_1, q2n2_2⟩ := kB w2.heap.size bi
     obtain ⟨q2c2_0, q2f2⟩ := kC1 hb bi
     simp [go_sem, *] at q2c2_0 q2f2
     have q2o := belO q2B
     clear hb q1o q1f3 q1c3_19 q1s3 q1f2 q1c2_0 q1s2 q1f1 q1c1_6 q1c1_5 q1c1_4 q1c1_3 q1c1_2 q1c1_1 q1c1_0 q1s1 q1f0 q1c0_6 q1c0_5 q1c0_4 q1c0_3 q1c0_2 q1c0_1 q1c0_0 q1s0 q1z q1B
     go_wp2_with (with_reducible refine wpList_load_row rfl 33 (.tmp 2) rfl bb rfl 33 B.C (0, 0) _ (blk_setOther (by simp; omega) X2.out) Tryz.underlying33 rfl HS.out ?_)
     refine (product_any B HB.out id day _ (HW.out.below (B2.out.trans belT))).mono ?_
     rintro e w3 ⟨C, b, rfl, hs, h1, ho, hb⟩
     rw [HP.out] at ho
     simp only at ho
     obtain ⟨rfl, rfl⟩ := ho
     have HH := hide (And.intro hs h1)
     clear hs h1
     have B3 := hide (B2.out.trans (Below.trans (by (repeat (first | (with_reducible first | exact Below.refl _ _ | assumption | refine Below.drew ?_) | ((with_reducible first | refine Below.alloc ?_ ?_ _ | refine Below.setCell ?_ ?_ _); rotate_left; (first | omega | (simp <;> omega))))) : Below w.heap.size w2 (w2.setCell ⟨w.heap.size + 1, 2, none⟩ (.int .i64 bal))) (hb.mono (by simp; omega))))
     have B2o := B2.out
     have q3B : Below w.heap.size w w3 := qB hb
     have q3z := hb.size
     try simp at q3z
     have q3t : w.heap.size ≤ w3.heap.size := (by omega)
     obtain ⟨q3s0, q3n0_0, q3n0_1, q3n0_2⟩ := kB w3.heap.size w.heap.size
     obtain ⟨q3c0_0, q3c0_1, q3c0_2, q3c0_3, q3c0_4, q3c0_5, q3c0_6, q3f0⟩ := kC7 hb w.heap.size
     simp [go_sem, *] at q3c0_0 q3c0_1 q3c0_2 q3c0_3 q3c0_4 q3c0_5 q3c0_6 q3f0
     obtain ⟨q3s1, q3n1_0, q3n1_1, q3n1_2⟩ := kB w3.heap.size (w.heap.size + 1)
     obtain ⟨q3c1_0, q3c1_1, q3c1_2, q3c1_3, q3c1_4, q3c1_5, q3c1_6, q3f1⟩ := kC7 hb (w.heap.size + 1)
     simp [go_sem, *] at q3c1_0 q3c1_1 q3c1_2 q3c1_3 q3c1_4 q3c1_5 q3c1_6 q3f1
     have q3o := belO q3B
     clear hb q2o q2f2 q2c2_0 q2s2 q2f1 q2c1_6 q2c1_5 q2c1_4 q2c1_3 q2c1_2 q2c1_1 q2c1_0 q2s1 q2f0 q2c0_6 q2c0_5 q2c0_4 q2c0_3 q2c0_2 q2c0_1 q2c0_0 q2s0 q2z q2B
     clear B2o
     go_wp2_with (first
      | (with_reducible refine wpList_alloc_row rfl 78 rfl (some 6) rfl i0 HI.out.1 Z HI.out.2 w3.heap.size rfl ?_)
      | ((with_reducible refine wpList_store_newrow2 rfl 78 (.tmp 6) (.tmp 28) rfl rfl w3.heap.size (B.P k).C rfl rfl 78 Z (blk_new rfl) (pz_size HH.out.1) (by rw [HZ1.out, HH.out.1]) HH.out.2 ?_); intro w4 hb hs4 hx4 hk4; have X4 := hide hx4; have q4B : Below w3.heap.size w3 w4 := qB hb; have q4z := hb.size; (try simp at q4z); have q4t : w3.heap.size ≤ w4.heap.size := (by omega); have q4s0 : w.heap.size < w4.heap.size := (by omega); obtain ⟨q4n0_0, q4n0_1, q4n0_2⟩ := kN q4s0; obtain ⟨q4c0_0, q4c0_1, q4c0_2, q4c0_3, q4c0_4, q4c0_5, q4c0_6, q4f0⟩ := kC7 hb w.heap.size; simp [go_sem, *] at q4c0_0 q4c0_1 q4c0_2 q4c0_3 q4c0_4 q4c0_5 q4c0_6 q4f0; have q4s1 : w.heap.size + 1 < w4.heap.size := (by omega); obtain ⟨q4n1_0, q4n1_1, q4n1_2⟩ := kN q4s1; obtain ⟨q4c1_0, q4c1_1, q4c1_2, q4c1_3, q4c1_4, q4c1_5, q4c1_6, q4f1⟩ := kC7 hb (w.heap.size + 1); simp [go_sem, *] at q4c1_0 q4c1_1 q4c1_2 q4c1_3 q4c1_4 q4c1_5 q4c1_6 q4f1; have q4o := belO q4B; have hbS := hb; have hbS4 := hb; clear hb; clear hs4 hx4 hk4; have B4 := hide (B3.out.trans (q4B.mono (by omega)))) | (with_reducible refine wpList_load_row rfl 78 (.tmp 6) rfl w3.heap.size rfl 78 (B.P k).C (0, 0) _ X4.out Tryz.underlying78 rfl (pz_size HH.out.1) ?_))
     refine (grains_any (B.P k).C (B.P k) (HB.out.cells k HK.out) (HB.out.cr k HK.out).tn (HB.out.db k HK.out).tn bal day HBI.out _ (bkPr (HW.out.below B4.out) HK.out)).mono ?_
     rintro e w5 ⟨rfl, hb⟩
     rw [side_db (show bal < 0 from by omega)]
     have B5 := hide (B4.out.trans (hb.mono B4.out.size))
     have q5B : Below w4.heap.size w4 w5 := qB hb
     have q5z := hb.size
     try simp at q5z
     have q5t : w4.heap.size ≤ w5.heap.size := (by omega)
     obtain ⟨q5s0, q5n0_0, q5n0_1, q5n0_2⟩ := kB w5.heap.size w.heap.size
     obtain ⟨q5c0_0, q5c0_1, q5c0_2, q5c0_3, q5c0_4, q5c0_5, q5c0_6, q5f0⟩ := kC7 hb w.heap.size
     simp [go_sem, *] at q5c0_0 q5c0_1 q5c0_2 q5c0_3 q5c0_4 q5c0_5 q5c0_6 q5f0
     obtain ⟨q5s1, q5n1_0, q5n1_1, q5n1_2⟩ := kB w5.heap.size (w.heap.size + 1)
     obtain ⟨q5c1_0, q5c1_1, q5c1_2, q5c1_3, q5c1_4, q5c1_5, q5c1_6, q5f1⟩ := kC7 hb (w.heap.size + 1)
     simp [go_sem, *] at q5c1_0 q5c1_1 q5c1_2 q5c1_3 q5c1_4 q5c1_5 q5c1_6 q5f1
     have q5o := belO q5B
     clear hb q4o q4f1 q4c1_6 q4c1_5 q4c1_4 q4c1_3 q4c1_2 q4c1_1 q4c1_0 q4s1 q4f0 q4c0_6 q4c0_5 q4c0_4 q4c0_3 q4c0_2 q4c0_1 q4c0_0 q4s0 q4z q4B
     go_wp2_with fail
     refine bodyPost_ret (by simp [results, Tryz.results78, go_sem, *] <;> rfl) rfl ⟨?_, ?_⟩
     ·rw [HV.out]; rfl
     ·refine B5.out.trans ?_
      (repeat (first | (with_reducible first | exact Below.refl _ _ | assumption | refine Below.drew ?_) | ((with_reducible first | refine Below.alloc ?_ ?_ _ | refine Below.setCell ?_ ?_ _); rotate_left; (first | omega | (simp <;> omega)))))
    ·have hz0 : bal = 0 := by omega
     have HV := hide (hAc.trans (acr_zero HA.out hp (by rw [← hbal]; exact hz0)))
     rw [← hbal] at HV
     clear hp hAc hbal
     have hz1 := Int.not_lt.1 hs0
     have hz2 := Int.not_lt.1 hs1
     clear hs0 hs1 hz0
     go_enter Tryz.func78, Tryz.ntmps78
     go_wp2_with (with_reducible refine wpList_load_row rfl 33 (.tmp 2) rfl bb rfl 33 B.C (0, 0) _ (blk_under (blk_under X0.out)) Tryz.underlying33 rfl HS.out ?_)
     refine (active_any B HB.out id day _ (HW.out.below belT)).mono ?_
     rintro e w1 ⟨rfl, hb⟩
     rw [HA.out]
     have X1 := hide (blk_below hb (by simp; omega) (blk_under (blk_under X0.out)))
     have q1B : Below w.heap.size w w1 := qB hb
     have q1z := hb.size
     try simp at q1z
     have q1t : w.heap.size ≤ w1.heap.size := (by omega)
     obtain ⟨q1s0, q1n0_0, q1n0_1, q1n0_2⟩ := kB w1.heap.size w.heap.size
     obtain ⟨q1c0_0, q1c0_1, q1c0_2, q1c0_3, q1c0_4, q1c0_5, q1c0_6, q1f0⟩ := kC7 hb w.heap.size
     simp [go_sem, *] at q1c0_0 q1c0_1 q1c0_2 q1c0_3 q1c0_4 q1c0_5 q1c0_6 q1f0
     obtain ⟨q1s1, q1n1_0, q1n1_1, q1n1_2⟩ := kB w1.heap.size (w.heap.size + 1)
     obtain ⟨q1c1_0, q1c1_1, q1c1_2, q1c1_3, q1c1_4, q1c1_5, q1c1_6, q1f1⟩ := kC7 hb (w.heap.size + 1)
     simp [go_sem, *] at q1c1_0 q1c1_1 q1c1_2 q1c1_3 q1c1_4 q1c1_5 q1c1_6 q1f1
     obtain ⟨q1s2, q1n2_0, q1n2_1, q1n2_2⟩ := kB w1.heap.size bi
     obtain ⟨q1c2_0, q1f2⟩ := kC1 hb bi
     simp [go_sem, *] at q1c2_0 q1f2
     obtain ⟨q1s3, q1n3_0, q1n3_1, q1n3_2⟩ := kB w1.heap.size bb
     have q1c3_19 := cel hb bb 19
     simp [go_sem, *] at q1c3_19
     have q1f3 := fun o => fro hb bb o
     simp [go_sem, *] at q1f3
     have q1o := belO q1B
     clear hb
     have B1 := hide q1B
     go_wp2_with fail
     refine (HAT.out _ (HW.out.jrn.below B1.out)).mono ?_
     rintro e w2 ⟨rfl, hb⟩
     have X2 := hide (blk_below hb (by omega) X1.out)
     have B2 := hide (B1.out.trans (hb.mono B1.out.size))
     have q2B : Below w1.heap.size w1 w2 := qB hb
     have q2z := hb.size
     try simp at q2z
     have q2t : w1.heap.size ≤ w2.heap.size := (by omega)
     obtain ⟨q2s0, q2n0_0, q2n0_1, q2n0_2⟩ := kB w2.heap.size w.heap.size
     obtain ⟨q2c0_0, q2c0_1, q2c0_2, q2c0_3, q2c0_4, q2c0_5, q2c0_6, q2f0⟩ := kC7 hb w.heap.size
     simp [go_sem, *] at q2c0_0 q2c0_1 q2c0_2 q2c0_3 q2c0_4 q2c0_5 q2c0_6 q2f0
     obtain ⟨q2s1, q2n1_0, q2n1_1, q2n1_2⟩ := kB w2.heap.size (w.heap.size + 1)
     obtain ⟨q2c1_0, q2c1_1, q2c1_2, q2c1_3, q2c1_4, q2c1_5, q2c1_6, q2f1⟩ := kC7 hb (w.heap.size + 1)
     simp [go_sem, *] at q2c1_0 q2c1_1 q2c1_2 q2c1_3 q2c1_4 q2c1_5 q2c1_6 q2f1
     obtain ⟨q2s2, q2n2_0, q2n2_1, q2n2_2⟩ := kB w2.heap.size bi
     obtain ⟨q2c2_0, q2f2⟩ := kC1 hb bi
     simp [go_sem, *] at q2c2_0 q2f2
     have q2o := belO q2B
     clear hb q1o q1f3 q1c3_19 q1s3 q1f2 q1c2_0 q1s2 q1f1 q1c1_6 q1c1_5 q1c1_4 q1c1_3 q1c1_2 q1c1_1 q1c1_0 q1s1 q1f0 q1c0_6 q1c0_5 q1c0_4 q1c0_3 q1c0_2 q1c0_1 q1c0_0 q1s0 q1z q1B
     go_wp2_with (with_reducible refine wpList_load_row rfl 33 (.tmp 2) rfl bb rfl 33 B.C (0, 0) _ (blk_setOther (by simp; omega) X2.out) Tryz.underlying33 rfl HS.out ?_)
     refine (product_any B HB.out id day _ (HW.out.below (B2.out.trans belT))).mono ?_
     rintro e w3 ⟨C, b, rfl, hs, h1, ho, hb⟩
     rw [HP.out] at ho
     simp only at ho
     obtain ⟨rfl, rfl⟩ := ho
     have HH := hide (And.intro hs h1)
     clear hs h1
     have B3 := hide (B2.out.trans (Below.trans (by (repeat (first | (with_reducible first | exact Below.refl _ _ | assumption | refine Below.drew ?_) | ((with_reducible first | refine Below.alloc ?_ ?_ _ | refine Below.setCell ?_ ?_ _); rotate_left; (first | omega | (simp <;> omega))))) : Below w.heap.size w2 (w2.setCell ⟨w.heap.size + 1, 2, none⟩ (.int .i64 bal))) (hb.mono (by simp; omega))))
     have B2o := B2.out
     have q3B : Below w.heap.size w w3 := qB hb
     have q3z := hb.size
     try simp at q3z
     have q3t : w.heap.size ≤ w3.heap.size := (by omega)
     obtain ⟨q3s0, q3n0_0, q3n0_1, q3n0_2⟩ := kB w3.heap.size w.heap.size
     obtain ⟨q3c0_0, q3c0_1, q3c0_2, q3c0_3, q3c0_4, q3c0_5, q3c0_6, q3f0⟩ := kC7 hb w.heap.size
     simp [go_sem, *] at q3c0_0 q3c0_1 q3c0_2 q3c0_3 q3c0_4 q3c0_5 q3c0_6 q3f0
     obtain ⟨q3s1, q3n1_0, q3n1_1, q3n1_2⟩ := kB w3.heap.size (w.heap.size + 1)
     obtain ⟨q3c1_0, q3c1_1, q3c1_2, q3c1_3, q3c1_4, q3c1_5, q3c1_6, q3f1⟩ := kC7 hb (w.heap.size + 1)
     simp [go_sem, *] at q3c1_0 q3c1_1 q3c1_2 q3c1_3 q3c1_4 q3c1_5 q3c1_6 q3f1
     have q3o := belO q3B
     clear hb q2o q2f2 q2c2_0 q2s2 q2f1 q2c1_6 q2c1_5 q2c1_4 q2c1_3 q2c1_2 q2c1_1 q2c1_0 q2s1 q2f0 q2c0_6 q2c0_5 q2c0_4 q2c0_3 q2c0_2 q2c0_1 q2c0_0 q2s0 q2z q2B
     clear B2o
     go_wp2_with (first
      | (with_reducible refine wpList_alloc_row rfl 78 rfl (some 6) rfl i0 HI.out.1 Z HI.out.2 w3.heap.size rfl ?_)
      | ((with_reducible refine wpList_store_newrow2 rfl 78 (.tmp 6) (.tmp 28) rfl rfl w3.heap.size (B.P k).C rfl rfl 78 Z (blk_new rfl) (pz_size HH.out.1) (by rw [HZ1.out, HH.out.1]) HH.out.2 ?_); intro w4 hb hs4 hx4 hk4; have X4 := hide hx4; have q4B : Below w3.heap.size w3 w4 := qB hb; have q4z := hb.size; (try simp at q4z); have q4t : w3.heap.size ≤ w4.heap.size := (by omega); have q4s0 : w.heap.size < w4.heap.size := (by omega); obtain ⟨q4n0_0, q4n0_1, q4n0_2⟩ := kN q4s0; obtain ⟨q4c0_0, q4c0_1, q4c0_2, q4c0_3, q4c0_4, q4c0_5, q4c0_6, q4f0⟩ := kC7 hb w.heap.size; simp [go_sem, *] at q4c0_0 q4c0_1 q4c0_2 q4c0_3 q4c0_4 q4c0_5 q4c0_6 q4f0; have q4s1 : w.heap.size + 1 < w4.heap.size := (by omega); obtain ⟨q4n1_0, q4n1_1, q4n1_2⟩ := kN q4s1; obtain ⟨q4c1_0, q4c1_1, q4c1_2, q4c1_3, q4c1_4, q4c1_5, q4c1_6, q4f1⟩ := kC7 hb (w.heap.size + 1); simp [go_sem, *] at q4c1_0 q4c1_1 q4c1_2 q4c1_3 q4c1_4 q4c1_5 q4c1_6 q4f1; have q4o := belO q4B; have hbS := hb; have hbS4 := hb; clear hb; clear hs4 hx4 hk4; have B4 := hide (B3.out.trans (q4B.mono (by omega)))))
     refine bodyPost_ret (by simp [results, Tryz.results78, go_sem, *] <;> rfl) rfl ⟨?_, ?_⟩
     ·rw [HV.out]; rfl
     ·refine B4.out.trans ?_
      (repeat (first | (with_reducible first | exact Below.refl _ _ | assumption | refine Below.drew ?_) | ((with_reducible first | refine Below.alloc ?_ ?_ _ | refine Below.setCell ?_ ?_ _); rotate_left; (first | omega | (simp <;> omega)))))
end Go.Proofs.YtdjlaiilngechaaGreatDoor
