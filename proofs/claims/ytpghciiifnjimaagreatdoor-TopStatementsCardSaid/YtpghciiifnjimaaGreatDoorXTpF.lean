/- Texts laid together: TpF. -/
import Derived.Test.YtpghciiifnjimaaGreatDoorXTpD
import Derived.Test.YtpghciiifnjimaaGreatDoorXK0
namespace Go.Proofs.YtpghciiifnjimaaGreatDoor
set_option maxRecDepth 4000
set_option linter.unusedSimpArgs false
set_option linter.unusedVariables false
open Go.RowKit
set_option maxRecDepth 8000 in
set_option maxHeartbeats 8000000 in
theorem wchart_any (A : Option Addr) (n cap : Nat) (c : Nat → Nat → Tr) (C : Nat → Nat → Value) (hcap : n ≤ cap) (hk : RowK 3 n c) (P : Array Value) (zs : List Int) (hz : zs.length = 14) (hP : P = (zs.map (Value.int .i64)).toArray) (w : World) (hA : RowT (Old w) w 3 A n c C) :
  Calls Tryz.prog 42 #[.slice A n cap, .agg P] w (SomE w) := by
 have HK := hide hk
 have HA := hide hA
 have hn : n ≤ 140737488351232 := by have := hk.room; simp only [tby] at this; omega
 clear hk hA
 have HP := hide hP
 clear hP
 by_cases h1 : (n : Int) < 1
 ·go_enter Tryz.func42, Tryz.ntmps42
  go_wp2_with fail
  all_goals (go_ret; exact ⟨⟨_, rfl⟩, by (repeat (first | (with_reducible first | exact Below.refl _ _ | assumption | refine Below.drew ?_) | ((with_reducible first | refine Below.alloc ?_ ?_ _ | refine Below.setCell ?_ ?_ _); rotate_left; (first | omega | (simp <;> omega)))))⟩)
 by_cases h2 : (40 : Int) < n
 ·go_enter Tryz.func42, Tryz.ntmps42
  go_wp2_with fail
  all_goals (go_ret; exact ⟨⟨_, rfl⟩, by (repeat (first | (with_reducible first | exact Below.refl _ _ | assumption | refine Below.drew ?_) | ((with_reducible first | refine Below.alloc ?_ ?_ _ | refine Below.setCell ?_ ?_ _); rotate_left; (first | omega | (simp <;> omega)))))⟩)
 go_enter Tryz.func42, Tryz.ntmps42
 go_wp2_with fail
 go_loopw [5] (fun v wr => KB n (w.alloc (.cells P 26)) v wr) (fun v _ => n - (intOf v).toNat)
 case atStart => exact ⟨0, by omega, rfl, by (repeat (first | (with_reducible first | exact Below.refl _ _ | assumption | refine Below.drew ?_) | ((with_reducible first | refine Below.alloc ?_ ?_ _ | refine Below.setCell ?_ ?_ _); rotate_left; (first | omega | (simp <;> omega)))))⟩
 case round =>
  obtain ⟨k, hkn, rfl, hb⟩ := hrel
  have HW0 := hide hb
  have HBK := hide (blk_below hb (by simp) (blk_new (w := w) (o := .cells P 26) rfl))
  have BL := hide (show Below w.heap.size w wr from Below.trans belT (hb.mono (by simp)))
  have zBL := BL.out.size
  by_cases hlt : k < n
  ·have hm : (k : Int) < n := by omega
   have hk0 : (0 : Int) ≤ k := by omega
   have hkc : (k : Int) ≤ cap := by omega
   have HLT := hide hlt
   obtain ⟨b, off, rfl, hbl, hc⟩ := (HA.out.below BL.out).all (by decide) (by omega)
   obtain ⟨z0, _, e0, i0⟩ := rd_int (HA.out.rd (k) 0 hlt (by decide)) (HK.out.wt (k) 0 hlt (by decide))
   have c0 : wr.cell? ⟨b, off + k * 4, none⟩ = some (.int .i64 z0) := by have hcc := hc (k) 0 hlt (by decide); rw [e0] at hcc; exact hcc
   clear e0
   obtain ⟨z1, _, e1, i1⟩ := rd_int (HA.out.rd (k) 1 hlt (by decide)) (HK.out.wt (k) 1 hlt (by decide))
   have c1 : wr.cell? ⟨b, off + k * 4 + 1, none⟩ = some (.int .i64 z1) := by have hcc := hc (k) 1 hlt (by decide); rw [e1] at hcc; exact hcc
   clear e1
   obtain ⟨z2, _, e2, i2⟩ := rd_int (HA.out.rd (k) 2 hlt (by decide)) (HK.out.wt (k) 2 hlt (by decide))
   have c2 : wr.cell? ⟨b, off + k * 4 + 2, none⟩ = some (.int .i64 z2) := by have hcc := hc (k) 2 hlt (by decide); rw [e2] at hcc; exact hcc
   clear e2
   obtain ⟨s3, _, e3, _⟩ := rd_str (HA.out.rd (k) 3 hlt (by decide)) (HK.out.wt (k) 3 hlt (by decide))
   have c3 : wr.cell? ⟨b, off + k * 4 + 3, none⟩ = some (.string s3) := by have hcc := hc (k) 3 hlt (by decide); rw [e3] at hcc; exact hcc
   clear e3
   clear hlt hkn hb
   by_cases hkz : 0 < k
   ·obtain ⟨kk, hkk⟩ : ∃ kk, k = kk + 1 := ⟨k - 1, by omega⟩
    have d8 : decide (0 < k) = true := decide_eq_true (by omega)
    have nw1 : IntKind.i64.wrap ((k : Int) - 1) = (kk : Int) := by rw [i64w]; unfold wrap64; have := HLT.out; omega
    have hkk0 : (0 : Int) ≤ kk := by omega
    have hkk1 : (kk : Int) < n := by have := HLT.out; omega
    have HKN := hide (show kk < n by have := HLT.out; omega)
    obtain ⟨pz0, _, pe0, pi0⟩ := rd_int (HA.out.rd (kk) 0 HKN.out (by decide)) (HK.out.wt (kk) 0 HKN.out (by decide))
    have pc0 : wr.cell? ⟨b, off + kk * 4, none⟩ = some (.int .i64 pz0) := by have hcc := hc (kk) 0 HKN.out (by decide); rw [pe0] at hcc; exact hcc
    clear pe0
    clear hc hkz hkk
    go_wp2_with fail
    all_goals try (go_ret; exact ⟨⟨_, rfl⟩, BL.out.trans belT⟩)
    refine ord_start (SB (wr.heap.size + 1) [] _) 13 (preB 0 13) (by kernel_rfl) (by kernel_rfl) (by kernel_rfl) SB.refl.drew (fun hHeld => ?_)
    refine oS (i := 0) (preB 1 12) rfl hHeld ?_
    (try simp only [Act.put, putS])
    refine oS (i := 1) (preB 2 11) rfl hHeld ?_
    (try simp only [Act.put, putS])
    refine oS (i := 2) (preB 3 10) rfl hHeld ?_
    (try simp only [Act.put, putS])
    refine oS (i := 3) (preB 4 9) rfl hHeld ?_
    (try simp only [Act.put, putS])
    refine oS (i := 4) (preB 5 8) rfl hHeld ?_
    (try simp only [Act.put, putS])
    refine oS (i := 5) (preB 6 7) rfl hHeld ?_
    (try simp only [Act.put, putS])
    refine oS (i := 6) (preB 7 6) rfl hHeld ?_
    (try simp only [Act.put, putS])
    refine oS (i := 7) (preB 8 5) rfl hHeld ?_
    (try simp only [Act.put, putS])
    refine oS (i := 8) (preB 9 4) rfl hHeld ?_
    (try simp only [Act.put, putS])
    refine oS (i := 9) (preB 10 3) rfl hHeld ?_
    (try simp only [Act.put, putS])
    refine oS (i := 10) (preB 11 2) rfl hHeld ?_
    (try simp only [Act.put, putS])
    refine oS (i := 11) (preB 12 1) rfl hHeld ?_
    (try simp only [Act.put, putS])
    refine oS (i := 12) (preB 13 0) rfl hHeld ?_
    (try simp only [Act.put, putS])
    refine wpAnyH_done (by kernel_rfl) ?_ _
    go_wp2_with fail
    all_goals try (go_ret; exact ⟨⟨_, rfl⟩, BL.out.trans belT⟩)
    refine (wname18_any s3 _).mono ?_
    rintro r w1 ⟨⟨b0, rfl⟩, hb⟩
    have q2B : Below wr.heap.size wr w1 := qB hb
    have q2z := hb.size
    try simp at q2z
    have q2t : wr.heap.size ≤ w1.heap.size := (by omega)
    obtain ⟨q2s0, q2n0_0, q2n0_1, q2n0_2⟩ := kB w1.heap.size wr.heap.size
    obtain ⟨q2c0_0, q2c0_1, q2c0_2, q2c0_3, q2f0⟩ := kC4 hb wr.heap.size
    simp [go_sem, *] at q2c0_0 q2c0_1 q2c0_2 q2c0_3 q2f0
    have q2o := belO q2B
    clear hb
    have B1 := hide (BL.out.trans (q2B.mono BL.out.size))
    have z1B := B1.out.size
    have HW1 := hide (HW0.out.trans (q2B.mono HW0.out.size))
    have zW1 : w.heap.size + 1 ≤ w1.heap.size := by simpa using HW1.out.size
    cases b0 with
    | false =>
     go_wp2_with fail
     go_ret
     exact ⟨⟨_, rfl⟩, B1.out⟩
    | true =>
     go_wp2_with fail
     all_goals try (go_roundw; (case rel => exact ⟨k + 1, HLT.out, by go_num, HW1.out⟩); (case measure => have := HLT.out; simp [intOf]; omega))
     refine ord_start (SB (w1.heap.size) [] _) 12 (preB 0 12) (by kernel_rfl) (by kernel_rfl) (by kernel_rfl) SB.refl.drew (fun hHeld => ?_)
     refine oS (i := 0) (preB 1 11) rfl hHeld ?_
     (try simp only [Act.put, putS])
     refine oS (i := 1) (preB 2 10) rfl hHeld ?_
     (try simp only [Act.put, putS])
     refine oS (i := 2) (preB 3 9) rfl hHeld ?_
     (try simp only [Act.put, putS])
     refine oS (i := 3) (preB 4 8) rfl hHeld ?_
     (try simp only [Act.put, putS])
     refine oS (i := 4) (preB 5 7) rfl hHeld ?_
     (try simp only [Act.put, putS])
     refine wpAnyH_ready (rs := [5, 9]) (by kernel_rfl) (by simp) ?_
     refine ord_run (i := 5) (preB 6 6) rfl (by kernel_rfl) (by rfl) (fun K hK => ?_) ?_
     ·go_simp
      go_wp2_with (go_at_call 86; refine (wfind18_any _ k cap c C (HK.out.pre (Nat.le_of_lt HLT.out)) z1 _ ((HA.out.below (B1.out.trans belT)).pre (Nat.le_of_lt HLT.out))).mono ?_; rintro r w2 ⟨⟨y0, y1, y2, t3, b2, rfl⟩, hb⟩; have hbF := hb; (first | (have q3B : Below w1.heap.size w1 w2 := qB hb; have q3z := hb.size; (try simp at q3z); have q3t : w1.heap.size ≤ w2.heap.size := (by omega); have q3s0 : wr.heap.size < w2.heap.size := (by omega); obtain ⟨q3n0_0, q3n0_1, q3n0_2⟩ := kN q3s0; obtain ⟨q3c0_0, q3c0_1, q3c0_2, q3c0_3, q3f0⟩ := kC4 hb wr.heap.size; simp [go_sem, *] at q3c0_0 q3c0_1 q3c0_2 q3c0_3 q3f0; have q3s1 : w1.heap.size < w2.heap.size := (by omega); obtain ⟨q3n1_0, q3n1_1, q3n1_2⟩ := kN q3s1; obtain ⟨q3c1_0, q3c1_1, q3c1_2, q3c1_3, q3f1⟩ := kC4 hb w1.heap.size; simp [go_sem, *] at q3c1_0 q3c1_1 q3c1_2 q3c1_3 q3f1; have q3o := belO q3B; have hbS := hb; have hbS3 := hb; clear hb) | (have q3B : Below w1.heap.size w1 w2 := qB hb; have q3z := hb.size; (try simp at q3z); have q3t : w1.heap.size ≤ w2.heap.size := (by omega); have q3s0 : wr.heap.size < w2.heap.size := (by omega); obtain ⟨q3n0_0, q3n0_1, q3n0_2⟩ := kN q3s0; obtain ⟨q3c0_0, q3c0_1, q3c0_2, q3c0_3, q3f0⟩ := kC4 hb wr.heap.size; simp [go_sem, *] at q3c0_0 q3c0_1 q3c0_2 q3c0_3 q3f0; have q3o := belO q3B; have hbS := hb; have hbS3 := hb; clear hb)))
      refine hK.out _ _ ?_ (fun hHeld => ?_)
      ·exact sbT
      clear hK K
      (try simp only [Act.put, putS])
      refine oS (i := 6) (preB 7 5) rfl hHeld ?_
      (try simp only [Act.put, putS])
      refine oS (i := 7) (preB 8 4) rfl hHeld ?_
      (try simp only [Act.put, putS])
      refine oS (i := 8) (preB 9 3) rfl hHeld ?_
      (try simp only [Act.put, putS])
      refine wpAnyH_ready (rs := [9]) (by kernel_rfl) (by simp) ?_
      refine ord_run (i := 9) (preB 10 2) rfl (by kernel_rfl) (by rfl) (fun K hK => ?_) AllReadyH.nil
      go_simp
      refine hK.out _ _ ?_ (fun hHeld => ?_)
      ·exact sbT
      clear hK K
      (try simp only [Act.put, putS])
      refine wpAnyH_ready (rs := [10]) (by kernel_rfl) (by simp) ?_
      refine ord_run (i := 10) (preB 11 1) rfl (by kernel_rfl) (by rfl) (fun K hK => ?_) AllReadyH.nil
      go_simp
      refine hK.out _ _ ?_ (fun hHeld => ?_)
      ·exact sbT
      clear hK K
      (try simp only [Act.put, putS])
      refine oS (i := 11) (preB 12 0) rfl hHeld ?_
      (try simp only [Act.put, putS])
      refine wpAnyH_done (by kernel_rfl) ?_ _
      have B3 := hide (B1.out.trans ((show Below w1.heap.size w1 w2 from Below.trans belT (hbF.mono (by simp))).mono z1B))
      have z3B := B3.out.size
      have HW2 := hide (HW1.out.trans ((show Below w1.heap.size w1 w2 from Below.trans belT (hbF.mono (by simp))).mono HW1.out.size))
      have zW2 : w.heap.size + 1 ≤ w2.heap.size := by simpa using HW2.out.size
      go_wp2_with fail
      all_goals first
       | (go_ret; exact ⟨⟨_, rfl⟩, B3.out.trans belT⟩)
       | (go_roundw; (case rel => exact ⟨k + 1, HLT.out, by go_num, HW2.out.trans belT⟩); (case measure => have := HLT.out; simp [intOf]; omega))
     refine ord_run (i := 9) #[true, true, true, true, true, false, false, false, false, true, false, false] rfl (by kernel_rfl) (by rfl) (fun K hK => ?_) ?_
     ·go_simp
      refine hK.out _ _ ?_ (fun hHeld => ?_)
      ·exact sbT
      clear hK K
      (try simp only [Act.put, putS])
      refine wpAnyH_ready (rs := [5]) (by kernel_rfl) (by simp) ?_
      refine ord_run (i := 5) #[true, true, true, true, true, true, false, false, false, true, false, false] rfl (by kernel_rfl) (by rfl) (fun K hK => ?_) AllReadyH.nil
      go_simp
      go_wp2_with (go_at_call 86; refine (wfind18_any _ k cap c C (HK.out.pre (Nat.le_of_lt HLT.out)) z1 _ ((HA.out.below (B1.out.trans belT)).pre (Nat.le_of_lt HLT.out))).mono ?_; rintro r w2 ⟨⟨y0, y1, y2, t3, b2, rfl⟩, hb⟩; have hbF := hb; (first | (have q3B : Below w1.heap.size w1 w2 := qB hb; have q3z := hb.size; (try simp at q3z); have q3t : w1.heap.size ≤ w2.heap.size := (by omega); have q3s0 : wr.heap.size < w2.heap.size := (by omega); obtain ⟨q3n0_0, q3n0_1, q3n0_2⟩ := kN q3s0; obtain ⟨q3c0_0, q3c0_1, q3c0_2, q3c0_3, q3f0⟩ := kC4 hb wr.heap.size; simp [go_sem, *] at q3c0_0 q3c0_1 q3c0_2 q3c0_3 q3f0; have q3s1 : w1.heap.size < w2.heap.size := (by omega); obtain ⟨q3n1_0, q3n1_1, q3n1_2⟩ := kN q3s1; obtain ⟨q3c1_0, q3c1_1, q3c1_2, q3c1_3, q3f1⟩ := kC4 hb w1.heap.size; simp [go_sem, *] at q3c1_0 q3c1_1 q3c1_2 q3c1_3 q3f1; have q3o := belO q3B; have hbS := hb; have hbS3 := hb; clear hb) | (have q3B : Below w1.heap.size w1 w2 := qB hb; have q3z := hb.size; (try simp at q3z); have q3t : w1.heap.size ≤ w2.heap.size := (by omega); have q3s0 : wr.heap.size < w2.heap.size := (by omega); obtain ⟨q3n0_0, q3n0_1, q3n0_2⟩ := kN q3s0; obtain ⟨q3c0_0, q3c0_1, q3c0_2, q3c0_3, q3f0⟩ := kC4 hb wr.heap.size; simp [go_sem, *] at q3c0_0 q3c0_1 q3c0_2 q3c0_3 q3f0; have q3o := belO q3B; have hbS := hb; have hbS3 := hb; clear hb)))
      refine hK.out _ _ ?_ (fun hHeld => ?_)
      ·exact sbT
      clear hK K
      (try simp only [Act.put, putS])
      refine oS (i := 6) #[true, true, true, true, true, true, true, false, false, true, false, false] rfl hHeld ?_
      (try simp only [Act.put, putS])
      refine oS (i := 7) #[true, true, true, true, true, true, true, true, false, true, false, false] rfl hHeld ?_
      (try simp only [Act.put, putS])
      refine oS (i := 8) (preB 10 2) rfl hHeld ?_
      (try simp only [Act.put, putS])
      refine wpAnyH_ready (rs := [10]) (by kernel_rfl) (by simp) ?_
      refine ord_run (i := 10) (preB 11 1) rfl (by kernel_rfl) (by rfl) (fun K hK => ?_) AllReadyH.nil
      go_simp
      refine hK.out _ _ ?_ (fun hHeld => ?_)
      ·exact sbT
      clear hK K
      (try simp only [Act.put, putS])
      refine oS (i := 11) (preB 12 0) rfl hHeld ?_
      (try simp only [Act.put, putS])
      refine wpAnyH_done (by kernel_rfl) ?_ _
      have B3 := hide (B1.out.trans ((show Below w1.heap.size w1 w2 from Below.trans belT (hbF.mono (by simp))).mono z1B))
      have z3B := B3.out.size
      have HW2 := hide (HW1.out.trans ((show Below w1.heap.size w1 w2 from Below.trans belT (hbF.mono (by simp))).mono HW1.out.size))
      have zW2 : w.heap.size + 1 ≤ w2.heap.size := by simpa using HW2.out.size
      go_wp2_with fail
      all_goals first
       | (go_ret; exact ⟨⟨_, rfl⟩, B3.out.trans belT⟩)
       | (go_roundw; (case rel => exact ⟨k + 1, HLT.out, by go_num, HW2.out.trans belT⟩); (case measure => have := HLT.out; simp [intOf]; omega))
     exact AllReadyH.nil
   ·have d8 : decide (0 < k) = false := decide_eq_false hkz
    clear hc hkz
    go_wp2_with fail
    all_goals try (go_ret; exact ⟨⟨_, rfl⟩, BL.out.trans belT⟩)
    refine ord_start (SB (wr.heap.size + 1) [] _) 13 (preB 0 13) (by kernel_rfl) (by kernel_rfl) (by kernel_rfl) SB.refl.drew (fun hHeld => ?_)
    refine oS (i := 0) (preB 1 12) rfl hHeld ?_
    (try simp only [Act.put, putS])
    refine oS (i := 1) (preB 2 11) rfl hHeld ?_
    (try simp only [Act.put, putS])
    refine oS (i := 2) (preB 3 10) rfl hHeld ?_
    (try simp only [Act.put, putS])
    refine ord_skip (i := 3) (preB 4 9) rfl (by kernel_rfl) (by kernel_rfl) (by kernel_rfl) (by kernel_rfl) (fun _ _ _ h => h) hHeld (by rfl) ?_
    (try simp only [Act.put, putS])
    refine ord_skip (i := 4) (preB 5 8) rfl (by kernel_rfl) (by kernel_rfl) (by kernel_rfl) (by kernel_rfl) (fun _ _ _ h => h) hHeld (by rfl) ?_
    (try simp only [Act.put, putS])
    refine ord_skip (i := 5) (preB 6 7) rfl (by kernel_rfl) (by kernel_rfl) (by kernel_rfl) (by kernel_rfl) (fun _ _ _ h => h) hHeld (by rfl) ?_
    (try simp only [Act.put, putS])
    refine ord_skip (i := 6) (preB 7 6) rfl (by kernel_rfl) (by kernel_rfl) (by kernel_rfl) (by kernel_rfl) (fun _ _ _ h => h) hHeld (by rfl) ?_
    (try simp only [Act.put, putS])
    refine ord_skip (i := 7) (preB 8 5) rfl (by kernel_rfl) (by kernel_rfl) (by kernel_rfl) (by kernel_rfl) (fun _ _ _ h => h) hHeld (by rfl) ?_
    (try simp only [Act.put, putS])
    refine ord_skip (i := 8) (preB 9 4) rfl (by kernel_rfl) (by kernel_rfl) (by kernel_rfl) (by kernel_rfl) (fun _ _ _ h => h) hHeld (by rfl) ?_
    (try simp only [Act.put, putS])
    refine ord_skip (i := 9) (preB 10 3) rfl (by kernel_rfl) (by kernel_rfl) (by kernel_rfl) (by kernel_rfl) (fun _ _ _ h => h) hHeld (by rfl) ?_
    (try simp only [Act.put, putS])
    refine ord_skip (i := 10) (preB 11 2) rfl (by kernel_rfl) (by kernel_rfl) (by kernel_rfl) (by kernel_rfl) (fun _ _ _ h => h) hHeld (by rfl) ?_
    (try simp only [Act.put, putS])
    refine ord_skip (i := 11) (preB 12 1) rfl (by kernel_rfl) (by kernel_rfl) (by kernel_rfl) (by kernel_rfl) (fun _ _ _ h => h) hHeld (by rfl) ?_
    (try simp only [Act.put, putS])
    refine oS (i := 12) (preB 13 0) rfl hHeld ?_
    (try simp only [Act.put, putS])
    refine wpAnyH_done (by kernel_rfl) ?_ _
    go_wp2_with fail
    all_goals try (go_ret; exact ⟨⟨_, rfl⟩, BL.out.trans belT⟩)
    refine (wname18_any s3 _).mono ?_
    rintro r w1 ⟨⟨b0, rfl⟩, hb⟩
    have q2B : Below wr.heap.size wr w1 := qB hb
    have q2z := hb.size
    try simp at q2z
    have q2t : wr.heap.size ≤ w1.heap.size := (by omega)
    obtain ⟨q2s0, q2n0_0, q2n0_1, q2n0_2⟩ := kB w1.heap.size wr.heap.size
    obtain ⟨q2c0_0, q2c0_1, q2c0_2, q2c0_3, q2f0⟩ := kC4 hb wr.heap.size
    simp [go_sem, *] at q2c0_0 q2c0_1 q2c0_2 q2c0_3 q2f0
    have q2o := belO q2B
    clear hb
    have B1 := hide (BL.out.trans (q2B.mono BL.out.size))
    have z1B := B1.out.size
    have HW1 := hide (HW0.out.trans (q2B.mono HW0.out.size))
    have zW1 : w.heap.size + 1 ≤ w1.heap.size := by simpa using HW1.out.size
    cases b0 with
    | false =>
     go_wp2_with fail
     go_ret
     exact ⟨⟨_, rfl⟩, B1.out⟩
    | true =>
     go_wp2_with fail
     all_goals try (go_roundw; (case rel => exact ⟨k + 1, HLT.out, by go_num, HW1.out⟩); (case measure => have := HLT.out; simp [intOf]; omega))
     refine ord_start (SB (w1.heap.size) [] _) 12 (preB 0 12) (by kernel_rfl) (by kernel_rfl) (by kernel_rfl) SB.refl.drew (fun hHeld => ?_)
     refine oS (i := 0) (preB 1 11) rfl hHeld ?_
     (try simp only [Act.put, putS])
     refine oS (i := 1) (preB 2 10) rfl hHeld ?_
     (try simp only [Act.put, putS])
     refine oS (i := 2) (preB 3 9) rfl hHeld ?_
     (try simp only [Act.put, putS])
     refine oS (i := 3) (preB 4 8) rfl hHeld ?_
     (try simp only [Act.put, putS])
     refine oS (i := 4) (preB 5 7) rfl hHeld ?_
     (try simp only [Act.put, putS])
     refine wpAnyH_ready (rs := [5, 9]) (by kernel_rfl) (by simp) ?_
     refine ord_run (i := 5) (preB 6 6) rfl (by kernel_rfl) (by rfl) (fun K hK => ?_) ?_
     ·go_simp
      go_wp2_with (go_at_call 86; refine (wfind18_any _ k cap c C (HK.out.pre (Nat.le_of_lt HLT.out)) z1 _ ((HA.out.below (B1.out.trans belT)).pre (Nat.le_of_lt HLT.out))).mono ?_; rintro r w2 ⟨⟨y0, y1, y2, t3, b2, rfl⟩, hb⟩; have hbF := hb; (first | (have q3B : Below w1.heap.size w1 w2 := qB hb; have q3z := hb.size; (try simp at q3z); have q3t : w1.heap.size ≤ w2.heap.size := (by omega); have q3s0 : wr.heap.size < w2.heap.size := (by omega); obtain ⟨q3n0_0, q3n0_1, q3n0_2⟩ := kN q3s0; obtain ⟨q3c0_0, q3c0_1, q3c0_2, q3c0_3, q3f0⟩ := kC4 hb wr.heap.size; simp [go_sem, *] at q3c0_0 q3c0_1 q3c0_2 q3c0_3 q3f0; have q3s1 : w1.heap.size < w2.heap.size := (by omega); obtain ⟨q3n1_0, q3n1_1, q3n1_2⟩ := kN q3s1; obtain ⟨q3c1_0, q3c1_1, q3c1_2, q3c1_3, q3f1⟩ := kC4 hb w1.heap.size; simp [go_sem, *] at q3c1_0 q3c1_1 q3c1_2 q3c1_3 q3f1; have q3o := belO q3B; have hbS := hb; have hbS3 := hb; clear hb) | (have q3B : Below w1.heap.size w1 w2 := qB hb; have q3z := hb.size; (try simp at q3z); have q3t : w1.heap.size ≤ w2.heap.size := (by omega); have q3s0 : wr.heap.size < w2.heap.size := (by omega); obtain ⟨q3n0_0, q3n0_1, q3n0_2⟩ := kN q3s0; obtain ⟨q3c0_0, q3c0_1, q3c0_2, q3c0_3, q3f0⟩ := kC4 hb wr.heap.size; simp [go_sem, *] at q3c0_0 q3c0_1 q3c0_2 q3c0_3 q3f0; have q3o := belO q3B; have hbS := hb; have hbS3 := hb; clear hb)))
      refine hK.out _ _ ?_ (fun hHeld => ?_)
      ·exact sbT
      clear hK K
      (try simp only [Act.put, putS])
      refine oS (i := 6) (preB 7 5) rfl hHeld ?_
      (try simp only [Act.put, putS])
      refine oS (i := 7) (preB 8 4) rfl hHeld ?_
      (try simp only [Act.put, putS])
      refine oS (i := 8) (preB 9 3) rfl hHeld ?_
      (try simp only [Act.put, putS])
      refine wpAnyH_ready (rs := [9]) (by kernel_rfl) (by simp) ?_
      refine ord_run (i := 9) (preB 10 2) rfl (by kernel_rfl) (by rfl) (fun K hK => ?_) AllReadyH.nil
      go_simp
      refine hK.out _ _ ?_ (fun hHeld => ?_)
      ·exact sbT
      clear hK K
      (try simp only [Act.put, putS])
      refine wpAnyH_ready (rs := [10]) (by kernel_rfl) (by simp) ?_
      refine ord_run (i := 10) (preB 11 1) rfl (by kernel_rfl) (by rfl) (fun K hK => ?_) AllReadyH.nil
      go_simp
      refine hK.out _ _ ?_ (fun hHeld => ?_)
      ·exact sbT
      clear hK K
      (try simp only [Act.put, putS])
      refine oS (i := 11) (preB 12 0) rfl hHeld ?_
      (try simp only [Act.put, putS])
      refine wpAnyH_done (by kernel_rfl) ?_ _
      have B3 := hide (B1.out.trans ((show Below w1.heap.size w1 w2 from Below.trans belT (hbF.mono (by simp))).mono z1B))
      have z3B := B3.out.size
      have HW2 := hide (HW1.out.trans ((show Below w1.heap.size w1 w2 from Below.trans belT (hbF.mono (by simp))).mono HW1.out.size))
      have zW2 : w.heap.size + 1 ≤ w2.heap.size := by simpa using HW2.out.size
      go_wp2_with fail
      all_goals first
       | (go_ret; exact ⟨⟨_, rfl⟩, B3.out.trans belT⟩)
       | (go_roundw; (case rel => exact ⟨k + 1, HLT.out, by go_num, HW2.out.trans belT⟩); (case measure => have := HLT.out; simp [intOf]; omega))
     refine ord_run (i := 9) #[true, true, true, true, true, false, false, false, false, true, false, false] rfl (by kernel_rfl) (by rfl) (fun K hK => ?_) ?_
     ·go_simp
      refine hK.out _ _ ?_ (fun hHeld => ?_)
      ·exact sbT
      clear hK K
      (try simp only [Act.put, putS])
      refine wpAnyH_ready (rs := [5]) (by kernel_rfl) (by simp) ?_
      refine ord_run (i := 5) #[true, true, true, true, true, true, false, false, false, true, false, false] rfl (by kernel_rfl) (by rfl) (fun K hK => ?_) AllReadyH.nil
      go_simp
      go_wp2_with (go_at_call 86; refine (wfind18_any _ k cap c C (HK.out.pre (Nat.le_of_lt HLT.out)) z1 _ ((HA.out.below (B1.out.trans belT)).pre (Nat.le_of_lt HLT.out))).mono ?_; rintro r w2 ⟨⟨y0, y1, y2, t3, b2, rfl⟩, hb⟩; have hbF := hb; (first | (have q3B : Below w1.heap.size w1 w2 := qB hb; have q3z := hb.size; (try simp at q3z); have q3t : w1.heap.size ≤ w2.heap.size := (by omega); have q3s0 : wr.heap.size < w2.heap.size := (by omega); obtain ⟨q3n0_0, q3n0_1, q3n0_2⟩ := kN q3s0; obtain ⟨q3c0_0, q3c0_1, q3c0_2, q3c0_3, q3f0⟩ := kC4 hb wr.heap.size; simp [go_sem, *] at q3c0_0 q3c0_1 q3c0_2 q3c0_3 q3f0; have q3s1 : w1.heap.size < w2.heap.size := (by omega); obtain ⟨q3n1_0, q3n1_1, q3n1_2⟩ := kN q3s1; obtain ⟨q3c1_0, q3c1_1, q3c1_2, q3c1_3, q3f1⟩ := kC4 hb w1.heap.size; simp [go_sem, *] at q3c1_0 q3c1_1 q3c1_2 q3c1_3 q3f1; have q3o := belO q3B; have hbS := hb; have hbS3 := hb; clear hb) | (have q3B : Below w1.heap.size w1 w2 := qB hb; have q3z := hb.size; (try simp at q3z); have q3t : w1.heap.size ≤ w2.heap.size := (by omega); have q3s0 : wr.heap.size < w2.heap.size := (by omega); obtain ⟨q3n0_0, q3n0_1, q3n0_2⟩ := kN q3s0; obtain ⟨q3c0_0, q3c0_1, q3c0_2, q3c0_3, q3f0⟩ := kC4 hb wr.heap.size; simp [go_sem, *] at q3c0_0 q3c0_1 q3c0_2 q3c0_3 q3f0; have q3o := belO q3B; have hbS := hb; have hbS3 := hb; clear hb)))
      refine hK.out _ _ ?_ (fun hHeld => ?_)
      ·exact sbT
      clear hK K
      (try simp only [Act.put, putS])
      refine oS (i := 6) #[true, true, true, true, true, true, true, false, false, true, false, false] rfl hHeld ?_
      (try simp only [Act.put, putS])
      refine oS (i := 7) #[true, true, true, true, true, true, true, true, false, true, false, false] rfl hHeld ?_
      (try simp only [Act.put, putS])
      refine oS (i := 8) (preB 10 2) rfl hHeld ?_
      (try simp only [Act.put, putS])
      refine wpAnyH_ready (rs := [10]) (by kernel_rfl) (by simp) ?_
      refine ord_run (i := 10) (preB 11 1) rfl (by kernel_rfl) (by rfl) (fun K hK => ?_) AllReadyH.nil
      go_simp
      refine hK.out _ _ ?_ (fun hHeld => ?_)
      ·exact sbT
      clear hK K
      (try simp only [Act.put, putS])
      refine oS (i := 11) (preB 12 0) rfl hHeld ?_
      (try simp only [Act.put, putS])
      refine wpAnyH_done (by kernel_rfl) ?_ _
      have B3 := hide (B1.out.trans ((show Below w1.heap.size w1 w2 from Below.trans belT (hbF.mono (by simp))).mono z1B))
      have z3B := B3.out.size
      have HW2 := hide (HW1.out.trans ((show Below w1.heap.size w1 w2 from Below.trans belT (hbF.mono (by simp))).mono HW1.out.size))
      have zW2 : w.heap.size + 1 ≤ w2.heap.size := by simpa using HW2.out.size
      go_wp2_with fail
      all_goals first
       | (go_ret; exact ⟨⟨_, rfl⟩, B3.out.trans belT⟩)
       | (go_roundw; (case rel => exact ⟨k + 1, HLT.out, by go_num, HW2.out.trans belT⟩); (case measure => have := HLT.out; simp [intOf]; omega))
     exact AllReadyH.nil
  ·obtain rfl : k = n := by omega
   clear hlt hkn hb
   obtain ⟨wq, hwq⟩ : ∃ x, x = wr := ⟨_, rfl⟩
   subst hwq
   obtain ⟨z0, z1, z2, z3, z4, z5, z6, z7, z8, z9, z10, z11, z12, z13, rfl⟩ : ∃ z0 z1 z2 z3 z4 z5 z6 z7 z8 z9 z10 z11 z12 z13, zs = [z0, z1, z2, z3, z4, z5, z6, z7, z8, z9, z10, z11, z12, z13] := by
    match zs, hz with
    | [z0, z1, z2, z3, z4, z5, z6, z7, z8, z9, z10, z11, z12, z13], _ => exact ⟨z0, z1, z2, z3, z4, z5, z6, z7, z8, z9, z10, z11, z12, z13, rfl⟩
   have c0 : wq.cell? ⟨w.heap.size, 0, none⟩ = some (.int .i64 z0) := cell_blk HBK.out (by rw [HP.out]; rfl)
   have c1 : wq.cell? ⟨w.heap.size, 1, none⟩ = some (.int .i64 z1) := cell_blk HBK.out (by rw [HP.out]; rfl)
   have c2 : wq.cell? ⟨w.heap.size, 2, none⟩ = some (.int .i64 z2) := cell_blk HBK.out (by rw [HP.out]; rfl)
   have c3 : wq.cell? ⟨w.heap.size, 3, none⟩ = some (.int .i64 z3) := cell_blk HBK.out (by rw [HP.out]; rfl)
   have c4 : wq.cell? ⟨w.heap.size, 4, none⟩ = some (.int .i64 z4) := cell_blk HBK.out (by rw [HP.out]; rfl)
   have c5 : wq.cell? ⟨w.heap.size, 5, none⟩ = some (.int .i64 z5) := cell_blk HBK.out (by rw [HP.out]; rfl)
   have c6 : wq.cell? ⟨w.heap.size, 6, none⟩ = some (.int .i64 z6) := cell_blk HBK.out (by rw [HP.out]; rfl)
   have c7 : wq.cell? ⟨w.heap.size, 7, none⟩ = some (.int .i64 z7) := cell_blk HBK.out (by rw [HP.out]; rfl)
   have c8 : wq.cell? ⟨w.heap.size, 8, none⟩ = some (.int .i64 z8) := cell_blk HBK.out (by rw [HP.out]; rfl)
   have c9 : wq.cell? ⟨w.heap.size, 9, none⟩ = some (.int .i64 z9) := cell_blk HBK.out (by rw [HP.out]; rfl)
   have c10 : wq.cell? ⟨w.heap.size, 10, none⟩ = some (.int .i64 z10) := cell_blk HBK.out (by rw [HP.out]; rfl)
   have c11 : wq.cell? ⟨w.heap.size, 11, none⟩ = some (.int .i64 z11) := cell_blk HBK.out (by rw [HP.out]; rfl)
   have c12 : wq.cell? ⟨w.heap.size, 12, none⟩ = some (.int .i64 z12) := cell_blk HBK.out (by rw [HP.out]; rfl)
   have c13 : wq.cell? ⟨w.heap.size, 13, none⟩ = some (.int .i64 z13) := cell_blk HBK.out (by rw [HP.out]; rfl)
   clear hz
   go_wp2_with fail
   go_loopw [11] (fun v wr => KB 14 ((wq.alloc (.cells #[.int .i64 z0, .int .i64 z1, .int .i64 z2, .int .i64 z3, .int .i64 z4, .int .i64 z5, .int .i64 z6, .int .i64 z7, .int .i64 z8, .int .i64 z9, .int .i64 z10, .int .i64 z11, .int .i64 z12, .int .i64 z13] 3)).alloc (.cells #[.int .i64 1, .int .i64 2, .int .i64 5, .int .i64 4, .int .i64 4, .int .i64 2, .int .i64 1, .int .i64 1, .int .i64 4, .int .i64 4, .int .i64 2, .int .i64 5, .int .i64 5, .int .i64 4] 3)) v wr) (fun v _ => 14 - (intOf v).toNat)
   case atStart => exact ⟨0, by omega, rfl, by (repeat (first | (with_reducible first | exact Below.refl _ _ | assumption | refine Below.drew ?_) | ((with_reducible first | refine Below.alloc ?_ ?_ _ | refine Below.setCell ?_ ?_ _); rotate_left; (first | omega | (simp <;> omega)))))⟩
   case round =>
    clear c0 c1 c2 c3 c4 c5 c6 c7 c8 c9 c10 c11 c12 c13
    obtain ⟨j, hjn, rfl, hb⟩ := hrel
    have HW3 := hide hb
    have BM := hide (show Below w.heap.size w wr from BL.out.trans ((show Below wq.heap.size wq wr from Below.trans belT (hb.mono (by simp <;> omega))).mono BL.out.size))
    have zBM := BM.out.size
    have hq1 : wq.heap.size + 2 ≤ wr.heap.size := by simpa using hb.size
    have b9 := blk_below hb (by simp <;> omega) (blk_under (blk_new (w := wq) (o := .cells #[.int .i64 z0, .int .i64 z1, .int .i64 z2, .int .i64 z3, .int .i64 z4, .int .i64 z5, .int .i64 z6, .int .i64 z7, .int .i64 z8, .int .i64 z9, .int .i64 z10, .int .i64 z11, .int .i64 z12, .int .i64 z13] 3) rfl))
    have b10 := blk_below hb (by simp) (blk_new (w := wq.alloc (.cells #[.int .i64 z0, .int .i64 z1, .int .i64 z2, .int .i64 z3, .int .i64 z4, .int .i64 z5, .int .i64 z6, .int .i64 z7, .int .i64 z8, .int .i64 z9, .int .i64 z10, .int .i64 z11, .int .i64 z12, .int .i64 z13] 3)) (o := .cells #[.int .i64 1, .int .i64 2, .int .i64 5, .int .i64 4, .int .i64 4, .int .i64 2, .int .i64 1, .int .i64 1, .int .i64 4, .int .i64 4, .int .i64 2, .int .i64 5, .int .i64 5, .int .i64 4] 3) rfl)
    have hs10 : (wq.alloc (.cells #[.int .i64 z0, .int .i64 z1, .int .i64 z2, .int .i64 z3, .int .i64 z4, .int .i64 z5, .int .i64 z6, .int .i64 z7, .int .i64 z8, .int .i64 z9, .int .i64 z10, .int .i64 z11, .int .i64 z12, .int .i64 z13] 3)).heap.size = wq.heap.size + 1 := by simp
    rw [hs10] at b10
    by_cases hjt : j < 14
    ·have hm : (j : Int) < 14 := by omega
     have hk0 : (0 : Int) ≤ j := by omega
     have HLT := hide hjt
     obtain ⟨y9, c9⟩ : ∃ y, wr.cell? ⟨wq.heap.size, j, none⟩ = some (.int .i64 y) := ⟨_, cell_blk b9 (ints_at [z0, z1, z2, z3, z4, z5, z6, z7, z8, z9, z10, z11, z12, z13] (by simpa using hjt))⟩
     obtain ⟨y10, c10⟩ : ∃ y, wr.cell? ⟨wq.heap.size + 1, j, none⟩ = some (.int .i64 y) := ⟨_, cell_blk b10 (ints_at [1, 2, 5, 4, 4, 2, 1, 1, 4, 4, 2, 5, 5, 4] (by simpa using hjt))⟩
     have g1 : wq.heap.size < wr.heap.size := by omega
     have g2 : wq.heap.size + 1 < wr.heap.size := by omega
     clear b9 b10 hs10 hjt hjn hb
     go_wp2_with fail
     refine ord_start (SB (wr.heap.size) [] _) 11 (preB 0 11) (by kernel_rfl) (by kernel_rfl) (by kernel_rfl) SB.refl.drew (fun hHeld => ?_)
     refine oS (i := 0) (preB 1 10) rfl hHeld ?_
     (try simp only [Act.put, putS])
     refine oS (i := 1) (preB 2 9) rfl hHeld ?_
     (try simp only [Act.put, putS])
     refine oS (i := 2) (preB 3 8) rfl hHeld ?_
     (try simp only [Act.put, putS])
     refine oS (i := 3) (preB 4 7) rfl hHeld ?_
     (try simp only [Act.put, putS])
     refine oS (i := 4) (preB 5 6) rfl hHeld ?_
     (try simp only [Act.put, putS])
     refine oS (i := 5) (preB 6 5) rfl hHeld ?_
     (try simp only [Act.put, putS])
     refine oS (i := 6) (preB 7 4) rfl hHeld ?_
     (try simp only [Act.put, putS])
     refine oS (i := 7) (preB 8 3) rfl hHeld ?_
     (try simp only [Act.put, putS])
     refine oS (i := 8) (preB 9 2) rfl hHeld ?_
     (try simp only [Act.put, putS])
     refine wpAnyH_ready (rs := [9]) (by kernel_rfl) (by simp) ?_
     refine ord_run (i := 9) (preB 10 1) rfl (by kernel_rfl) (by rfl) (fun K hK => ?_) AllReadyH.nil
     go_simp
     go_wp2_with (go_at_call 87; refine (wused_any A k cap c C HK.out _ _ _ (HA.out.below (BM.out.trans belT))).mono ?_; rintro r w2 ⟨⟨e2, rfl⟩, hb⟩; have hbS := hb)
     refine hK.out _ _ ?_ (fun hHeld => ?_)
     ·exact sbT
     clear hK K
     (try simp only [Act.put, putS])
     refine oS (i := 10) (preB 11 0) rfl hHeld ?_
     (try simp only [Act.put, putS])
     refine wpAnyH_done (by kernel_rfl) ?_ _
     have B5 := hide (show Below wr.heap.size wr w2 from Below.trans belT (hbS.mono (by simp)))
     have B6 := hide (BM.out.trans (B5.out.mono BM.out.size))
     go_wp2_with fail
     all_goals first
      | (go_ret; exact ⟨⟨_, rfl⟩, B6.out⟩)
      | (go_roundw; (case rel => exact ⟨j + 1, HLT.out, by go_num, HW3.out.trans (B5.out.mono HW3.out.size)⟩); (case measure => have := HLT.out; simp [intOf]; omega))
    ·obtain rfl : j = 14 := by omega
     clear b9 b10 hjt hjn hb
     go_wp2_with fail
     go_ret
     exact ⟨⟨_, rfl⟩, BM.out⟩
end Go.Proofs.YtpghciiifnjimaaGreatDoor
