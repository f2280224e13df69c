/- Texts laid together: TqA TqB. -/
import Derived.Test.YtpghciiifnjimaaGreatDoorXTpZ
import Derived.Test.YtpghciiifnjimaaGreatDoorXAcF
import Derived.Test.YtpghciiifnjimaaGreatDoorXK0
namespace Go.Proofs.YtpghciiifnjimaaGreatDoor
set_option maxRecDepth 4000
set_option linter.unusedSimpArgs false
set_option linter.unusedVariables false
open Go.RowKit
set_option maxRecDepth 20000 in
set_option maxHeartbeats 4000000 in
theorem wshaped_any (x : LAcc) (w : World) :
  Calls Tryz.prog 91 #[.agg #[.int .i64 x.id, .int .i64 x.op, .int .i64 x.cl, .int .i64 x.ex, .string x.ow, .string x.pr, .string x.nu]] w (OkB (1000 ≤ x.id) w) := by
 obtain ⟨i, o, c, ex, ow, pr, nu⟩ := x
 dsimp only
 obtain ⟨vo, hvo⟩ : ∃ vo, vo = vday o := ⟨_, rfl⟩
 have HO := hide (fun (W : World) => by have h := rvalid_any o W; rw [← hvo] at h; exact h)
 clear hvo
 by_cases g1 : 1000 ≤ i
 ·have HG := hide g1
  by_cases g2 : i ≤ 99999999
  ·obtain ⟨n, rfl⟩ := Int.eq_ofNat_of_zero_le (show 0 ≤ i by omega)
   have HN := hide (fun (W : World) => number_any n (by omega) (by omega) W)
   obtain ⟨ii, hii⟩ : ∃ ii : Int, ii = (n : Int) := ⟨_, rfl⟩
   rw [← hii] at g1 g2 HN
   have d1 : decide (1000 ≤ ii) = true := decide_eq_true g1
   have d2 : decide (ii ≤ 99999999) = true := decide_eq_true g2
   have HG := hide g1
   rw [← hii]
   clear g1 g2 hii
   go_enter Tryz.func91, Tryz.ntmps91
   go_upto_region 1 with fail
   cases vo with
   | false =>
    refine ord_start (SB (w.heap.size + 1) [] _) 22 (preB 0 22) (by kernel_rfl) (by kernel_rfl) (by kernel_rfl) SB.refl.drew (fun hHeld => ?_)
    refine oS (i := 0) (preB 1 21) rfl hHeld ?_
    (try simp only [Act.put, putS])
    refine oS (i := 1) (preB 2 20) rfl hHeld ?_
    (try simp only [Act.put, putS])
    refine oS (i := 2) (preB 3 19) rfl hHeld ?_
    (try simp only [Act.put, putS])
    refine oS (i := 3) (preB 4 18) rfl hHeld ?_
    (try simp only [Act.put, putS])
    refine oS (i := 4) (preB 5 17) rfl hHeld ?_
    (try simp only [Act.put, putS])
    refine oS (i := 5) (preB 6 16) rfl hHeld ?_
    (try simp only [Act.put, putS])
    refine oS (i := 6) (preB 7 15) rfl hHeld ?_
    (try simp only [Act.put, putS])
    refine oS (i := 7) (preB 8 14) rfl hHeld ?_
    (try simp only [Act.put, putS])
    refine oS (i := 8) (preB 9 13) rfl hHeld ?_
    (try simp only [Act.put, putS])
    refine oS (i := 9) (preB 10 12) rfl hHeld ?_
    (try simp only [Act.put, putS])
    refine oS (i := 10) (preB 11 11) rfl hHeld ?_
    (try simp only [Act.put, putS])
    refine wpAnyH_ready (rs := [11]) (by kernel_rfl) (by simp) ?_
    refine ord_run (i := 11) (preB 12 10) rfl (by kernel_rfl) (by rfl) (fun K hK => ?_) AllReadyH.nil
    go_simp
    go_wp2_with (go_at_call 90; refine (HO.out _).mono ?_; rintro e w1 ⟨rfl, rfl⟩)
    refine hK.out _ _ ?_ (fun hHeld => ?_)
    ·exact sbT
    clear hK K
    (try simp only [Act.put, putS])
    refine oS (i := 12) (preB 13 9) rfl hHeld ?_
    (try simp only [Act.put, putS])
    refine oS (i := 13) (preB 14 8) rfl hHeld ?_
    (try simp only [Act.put, putS])
    refine ord_skip (i := 14) (preB 15 7) rfl (by kernel_rfl) (by kernel_rfl) (by kernel_rfl) (by kernel_rfl) (fun _ _ _ h => h) hHeld (by rfl) ?_
    (try simp only [Act.put, putS])
    refine ord_skip (i := 15) (preB 16 6) rfl (by kernel_rfl) (by kernel_rfl) (by kernel_rfl) (by kernel_rfl) (fun _ _ _ h => h) hHeld (by rfl) ?_
    (try simp only [Act.put, putS])
    refine ord_skip (i := 16) (preB 17 5) rfl (by kernel_rfl) (by kernel_rfl) (by kernel_rfl) (by kernel_rfl) (fun _ _ _ h => h) hHeld (by rfl) ?_
    (try simp only [Act.put, putS])
    refine ord_skip (i := 17) (preB 18 4) rfl (by kernel_rfl) (by kernel_rfl) (by kernel_rfl) (by kernel_rfl) (fun _ _ _ h => h) hHeld (by rfl) ?_
    (try simp only [Act.put, putS])
    refine ord_skip (i := 18) (preB 19 3) rfl (by kernel_rfl) (by kernel_rfl) (by kernel_rfl) (by kernel_rfl) (fun _ _ _ h => h) hHeld (by rfl) ?_
    (try simp only [Act.put, putS])
    refine ord_skip (i := 19) (preB 20 2) rfl (by kernel_rfl) (by kernel_rfl) (by kernel_rfl) (by kernel_rfl) (fun _ _ _ h => h) hHeld (by rfl) ?_
    (try simp only [Act.put, putS])
    refine oS (i := 20) (preB 21 1) rfl hHeld ?_
    (try simp only [Act.put, putS])
    refine oS (i := 21) (preB 22 0) rfl hHeld ?_
    (try simp only [Act.put, putS])
    refine wpAnyH_done (by kernel_rfl) ?_ _
    go_wp2_with fail
    all_goals (go_ret; exact ⟨_, rfl, fun h => by first | exact HG.out | exact absurd h (by simp), by first | exact J1.out.trans belT | (repeat (first | (with_reducible first | exact Below.refl _ _ | assumption | refine Below.drew ?_) | ((with_reducible first | refine Below.alloc ?_ ?_ _ | refine Below.setCell ?_ ?_ _); rotate_left; (first | omega | (simp <;> omega)))))⟩)
   | true =>
    refine ord_start (SB (w.heap.size + 1) [] _) 22 (preB 0 22) (by kernel_rfl) (by kernel_rfl) (by kernel_rfl) SB.refl.drew (fun hHeld => ?_)
    refine oS (i := 0) (preB 1 21) rfl hHeld ?_
    (try simp only [Act.put, putS])
    refine oS (i := 1) (preB 2 20) rfl hHeld ?_
    (try simp only [Act.put, putS])
    refine oS (i := 2) (preB 3 19) rfl hHeld ?_
    (try simp only [Act.put, putS])
    refine oS (i := 3) (preB 4 18) rfl hHeld ?_
    (try simp only [Act.put, putS])
    refine oS (i := 4) (preB 5 17) rfl hHeld ?_
    (try simp only [Act.put, putS])
    refine oS (i := 5) (preB 6 16) rfl hHeld ?_
    (try simp only [Act.put, putS])
    refine oS (i := 6) (preB 7 15) rfl hHeld ?_
    (try simp only [Act.put, putS])
    refine oS (i := 7) (preB 8 14) rfl hHeld ?_
    (try simp only [Act.put, putS])
    refine oS (i := 8) (preB 9 13) rfl hHeld ?_
    (try simp only [Act.put, putS])
    refine oS (i := 9) (preB 10 12) rfl hHeld ?_
    (try simp only [Act.put, putS])
    refine oS (i := 10) (preB 11 11) rfl hHeld ?_
    (try simp only [Act.put, putS])
    refine wpAnyH_ready (rs := [11]) (by kernel_rfl) (by simp) ?_
    refine ord_run (i := 11) (preB 12 10) rfl (by kernel_rfl) (by rfl) (fun K hK => ?_) AllReadyH.nil
    go_simp
    go_wp2_with (go_at_call 90; refine (HO.out _).mono ?_; rintro e w1 ⟨rfl, rfl⟩)
    refine hK.out _ _ ?_ (fun hHeld => ?_)
    ·exact sbT
    clear hK K
    (try simp only [Act.put, putS])
    refine oS (i := 12) (preB 13 9) rfl hHeld ?_
    (try simp only [Act.put, putS])
    refine oS (i := 13) (preB 14 8) rfl hHeld ?_
    (try simp only [Act.put, putS])
    refine oS (i := 14) (preB 15 7) rfl hHeld ?_
    (try simp only [Act.put, putS])
    refine oS (i := 15) (preB 16 6) rfl hHeld ?_
    (try simp only [Act.put, putS])
    refine oS (i := 16) (preB 17 5) rfl hHeld ?_
    (try simp only [Act.put, putS])
    refine oS (i := 17) (preB 18 4) rfl hHeld ?_
    (try simp only [Act.put, putS])
    refine wpAnyH_ready (rs := [18]) (by kernel_rfl) (by simp) ?_
    refine ord_run (i := 18) (preB 19 3) rfl (by kernel_rfl) (by rfl) (fun K hK => ?_) AllReadyH.nil
    go_simp
    go_wp2_with (go_at_call 99; refine (HN.out _).mono ?_; rintro e w1 ⟨⟨sn, rfl⟩, hb⟩; have hbS := hb; have hbS1 := hb; have J1 := hide (show Below w.heap.size w w1 from Below.trans belT (hb.mono (by first | omega | (simp <;> omega)))); have zJ1 := J1.out.size; clear hb)
    refine hK.out _ _ ?_ (fun hHeld => ?_)
    ·exact sbT
    clear hK K
    (try simp only [Act.put, putS])
    refine oS (i := 19) (preB 20 2) rfl hHeld ?_
    (try simp only [Act.put, putS])
    refine oS (i := 20) (preB 21 1) rfl hHeld ?_
    (try simp only [Act.put, putS])
    refine oS (i := 21) (preB 22 0) rfl hHeld ?_
    (try simp only [Act.put, putS])
    refine wpAnyH_done (by kernel_rfl) ?_ _
    go_wp2_with fail
    all_goals (go_ret; exact ⟨_, rfl, fun h => by first | exact HG.out | exact absurd h (by simp), by first | exact J1.out.trans belT | (repeat (first | (with_reducible first | exact Below.refl _ _ | assumption | refine Below.drew ?_) | ((with_reducible first | refine Below.alloc ?_ ?_ _ | refine Below.setCell ?_ ?_ _); rotate_left; (first | omega | (simp <;> omega)))))⟩)
  ·have d1 : decide (1000 ≤ i) = true := decide_eq_true g1
   have d2 : decide (i ≤ 99999999) = false := decide_eq_false g2
   clear g1 g2
   go_enter Tryz.func91, Tryz.ntmps91
   go_upto_region 1 with fail
   refine ord_start (SB (w.heap.size + 1) [] _) 22 (preB 0 22) (by kernel_rfl) (by kernel_rfl) (by kernel_rfl) SB.refl.drew (fun hHeld => ?_)
   refine oS (i := 0) (preB 1 21) rfl hHeld ?_
   (try simp only [Act.put, putS])
   refine oS (i := 1) (preB 2 20) rfl hHeld ?_
   (try simp only [Act.put, putS])
   refine oS (i := 2) (preB 3 19) rfl hHeld ?_
   (try simp only [Act.put, putS])
   refine oS (i := 3) (preB 4 18) rfl hHeld ?_
   (try simp only [Act.put, putS])
   refine oS (i := 4) (preB 5 17) rfl hHeld ?_
   (try simp only [Act.put, putS])
   refine oS (i := 5) (preB 6 16) rfl hHeld ?_
   (try simp only [Act.put, putS])
   refine oS (i := 6) (preB 7 15) rfl hHeld ?_
   (try simp only [Act.put, putS])
   refine oS (i := 7) (preB 8 14) rfl hHeld ?_
   (try simp only [Act.put, putS])
   refine oS (i := 8) (preB 9 13) rfl hHeld ?_
   (try simp only [Act.put, putS])
   refine ord_skip (i := 9) (preB 10 12) rfl (by kernel_rfl) (by kernel_rfl) (by kernel_rfl) (by kernel_rfl) (fun _ _ _ h => h) hHeld (by rfl) ?_
   (try simp only [Act.put, putS])
   refine ord_skip (i := 10) (preB 11 11) rfl (by kernel_rfl) (by kernel_rfl) (by kernel_rfl) (by kernel_rfl) (fun _ _ _ h => h) hHeld (by rfl) ?_
   (try simp only [Act.put, putS])
   refine ord_skip (i := 11) (preB 12 10) rfl (by kernel_rfl) (by kernel_rfl) (by kernel_rfl) (by kernel_rfl) (fun _ _ _ h => h) hHeld (by rfl) ?_
   (try simp only [Act.put, putS])
   refine oS (i := 12) (preB 13 9) rfl hHeld ?_
   (try simp only [Act.put, putS])
   refine oS (i := 13) (preB 14 8) rfl hHeld ?_
   (try simp only [Act.put, putS])
   refine ord_skip (i := 14) (preB 15 7) rfl (by kernel_rfl) (by kernel_rfl) (by kernel_rfl) (by kernel_rfl) (fun _ _ _ h => h) hHeld (by rfl) ?_
   (try simp only [Act.put, putS])
   refine ord_skip (i := 15) (preB 16 6) rfl (by kernel_rfl) (by kernel_rfl) (by kernel_rfl) (by kernel_rfl) (fun _ _ _ h => h) hHeld (by rfl) ?_
   (try simp only [Act.put, putS])
   refine ord_skip (i := 16) (preB 17 5) rfl (by kernel_rfl) (by kernel_rfl) (by kernel_rfl) (by kernel_rfl) (fun _ _ _ h => h) hHeld (by rfl) ?_
   (try simp only [Act.put, putS])
   refine ord_skip (i := 17) (preB 18 4) rfl (by kernel_rfl) (by kernel_rfl) (by kernel_rfl) (by kernel_rfl) (fun _ _ _ h => h) hHeld (by rfl) ?_
   (try simp only [Act.put, putS])
   refine ord_skip (i := 18) (preB 19 3) rfl (by kernel_rfl) (by kernel_rfl) (by kernel_rfl) (by kernel_rfl) (fun _ _ _ h => h) hHeld (by rfl) ?_
   (try simp only [Act.put, putS])
   refine ord_skip (i := 19) (preB 20 2) rfl (by kernel_rfl) (by kernel_rfl) (by kernel_rfl) (by kernel_rfl) (fun _ _ _ h => h) hHeld (by rfl) ?_
   (try simp only [Act.put, putS])
   refine oS (i := 20) (preB 21 1) rfl hHeld ?_
   (try simp only [Act.put, putS])
   refine oS (i := 21) (preB 22 0) rfl hHeld ?_
   (try simp only [Act.put, putS])
   refine wpAnyH_done (by kernel_rfl) ?_ _
   go_wp2_with fail
   all_goals (go_ret; exact ⟨_, rfl, fun h => by first | exact HG.out | exact absurd h (by simp), by first | exact J1.out.trans belT | (repeat (first | (with_reducible first | exact Below.refl _ _ | assumption | refine Below.drew ?_) | ((with_reducible first | refine Below.alloc ?_ ?_ _ | refine Below.setCell ?_ ?_ _); rotate_left; (first | omega | (simp <;> omega)))))⟩)
 ·have d1 : decide (1000 ≤ i) = false := decide_eq_false g1
  clear g1
  go_enter Tryz.func91, Tryz.ntmps91
  go_upto_region 1 with fail
  refine ord_start (SB (w.heap.size + 1) [] _) 22 (preB 0 22) (by kernel_rfl) (by kernel_rfl) (by kernel_rfl) SB.refl.drew (fun hHeld => ?_)
  refine oS (i := 0) (preB 1 21) rfl hHeld ?_
  (try simp only [Act.put, putS])
  refine oS (i := 1) (preB 2 20) rfl hHeld ?_
  (try simp only [Act.put, putS])
  refine oS (i := 2) (preB 3 19) rfl hHeld ?_
  (try simp only [Act.put, putS])
  refine oS (i := 3) (preB 4 18) rfl hHeld ?_
  (try simp only [Act.put, putS])
  refine ord_skip (i := 4) (preB 5 17) rfl (by kernel_rfl) (by kernel_rfl) (by kernel_rfl) (by kernel_rfl) (fun _ _ _ h => h) hHeld (by rfl) ?_
  (try simp only [Act.put, putS])
  refine ord_skip (i := 5) (preB 6 16) rfl (by kernel_rfl) (by kernel_rfl) (by kernel_rfl) (by kernel_rfl) (fun _ _ _ h => h) hHeld (by rfl) ?_
  (try simp only [Act.put, putS])
  refine ord_skip (i := 6) (preB 7 15) rfl (by kernel_rfl) (by kernel_rfl) (by kernel_rfl) (by kernel_rfl) (fun _ _ _ h => h) hHeld (by rfl) ?_
  (try simp only [Act.put, putS])
  refine oS (i := 7) (preB 8 14) rfl hHeld ?_
  (try simp only [Act.put, putS])
  refine oS (i := 8) (preB 9 13) rfl hHeld ?_
  (try simp only [Act.put, putS])
  refine ord_skip (i := 9) (preB 10 12) rfl (by kernel_rfl) (by kernel_rfl) (by kernel_rfl) (by kernel_rfl) (fun _ _ _ h => h) hHeld (by rfl) ?_
  (try simp only [Act.put, putS])
  refine ord_skip (i := 10) (preB 11 11) rfl (by kernel_rfl) (by kernel_rfl) (by kernel_rfl) (by kernel_rfl) (fun _ _ _ h => h) hHeld (by rfl) ?_
  (try simp only [Act.put, putS])
  refine ord_skip (i := 11) (preB 12 10) rfl (by kernel_rfl) (by kernel_rfl) (by kernel_rfl) (by kernel_rfl) (fun _ _ _ h => h) hHeld (by rfl) ?_
  (try simp only [Act.put, putS])
  refine oS (i := 12) (preB 13 9) rfl hHeld ?_
  (try simp only [Act.put, putS])
  refine oS (i := 13) (preB 14 8) rfl hHeld ?_
  (try simp only [Act.put, putS])
  refine ord_skip (i := 14) (preB 15 7) rfl (by kernel_rfl) (by kernel_rfl) (by kernel_rfl) (by kernel_rfl) (fun _ _ _ h => h) hHeld (by rfl) ?_
  (try simp only [Act.put, putS])
  refine ord_skip (i := 15) (preB 16 6) rfl (by kernel_rfl) (by kernel_rfl) (by kernel_rfl) (by kernel_rfl) (fun _ _ _ h => h) hHeld (by rfl) ?_
  (try simp only [Act.put, putS])
  refine ord_skip (i := 16) (preB 17 5) rfl (by kernel_rfl) (by kernel_rfl) (by kernel_rfl) (by kernel_rfl) (fun _ _ _ h => h) hHeld (by rfl) ?_
  (try simp only [Act.put, putS])
  refine ord_skip (i := 17) (preB 18 4) rfl (by kernel_rfl) (by kernel_rfl) (by kernel_rfl) (by kernel_rfl) (fun _ _ _ h => h) hHeld (by rfl) ?_
  (try simp only [Act.put, putS])
  refine ord_skip (i := 18) (preB 19 3) rfl (by kernel_rfl) (by kernel_rfl) (by kernel_rfl) (by kernel_rfl) (fun _ _ _ h => h) hHeld (by rfl) ?_
  (try simp only [Act.put, putS])
  refine ord_skip (i := 19) (preB 20 2) rfl (by kernel_rfl) (by kernel_rfl) (by kernel_rfl) (by kernel_rfl) (fun _ _ _ h => h) hHeld (by rfl) ?_
  (try simp only [Act.put, putS])
  refine oS (i := 20) (preB 21 1) rfl hHeld ?_
  (try simp only [Act.put, putS])
  refine oS (i := 21) (preB 22 0) rfl hHeld ?_
  (try simp only [Act.put, putS])
  refine wpAnyH_done (by kernel_rfl) ?_ _
  go_wp2_with fail
  go_ret
  exact ⟨_, rfl, nofun, by (repeat (first | (with_reducible first | exact Below.refl _ _ | assumption | refine Below.drew ?_) | ((with_reducible first | refine Below.alloc ?_ ?_ _ | refine Below.setCell ?_ ?_ _); rotate_left; (first | omega | (simp <;> omega)))))⟩
set_option maxRecDepth 8000 in
set_option maxHeartbeats 4000000 in
theorem wowned_any (B : LBk) (hB : BkOK B) (x : LAcc) (w : World) (hw : BkIn w B) :
  Calls Tryz.prog 92 #[.agg B.C, .agg #[.int .i64 x.id, .int .i64 x.op, .int .i64 x.cl, .int .i64 x.ex, .string x.ow, .string x.pr, .string x.nu]] w (SomE w) := by
 obtain ⟨i0, Z, hi0, hi1, hi2⟩ := pz_zero
 have HI := hide (And.intro hi0 hi1)
 have HZ1 := hide hi2
 have HB := hide hB
 have HW := hide hw
 have h17 := hB.pro
 clear hB hw hi0 hi1 hi2
 go_enter Tryz.func92, Tryz.ntmps92
 go_wp2_with fail
 refine (wname15_any x.ow _).mono ?_
 rintro e w1 ⟨⟨nb, rfl⟩, hb⟩
 have q1B : Below w.heap.size w w1 := qB hb
 have q1z := hb.size
 try simp at q1z
 have q1t : w.heap.size ≤ w1.heap.size := (by omega)
 obtain ⟨q1s0, q1n0_0, q1n0_1, q1n0_2⟩ := kB w1.heap.size w.heap.size
 have q1c0_17 := cel hb w.heap.size 17
 simp [go_sem, *] at q1c0_17
 have q1f0 := fun o => fro hb w.heap.size o
 simp [go_sem, *] at q1f0
 obtain ⟨q1s1, q1n1_0, q1n1_1, q1n1_2⟩ := kB w1.heap.size (w.heap.size + 1)
 obtain ⟨q1c1_0, q1c1_1, q1c1_2, q1c1_3, q1c1_4, q1c1_5, q1c1_6, q1f1⟩ := kC7 hb (w.heap.size + 1)
 simp [go_sem, *] at q1c1_0 q1c1_1 q1c1_2 q1c1_3 q1c1_4 q1c1_5 q1c1_6 q1f1
 have q1o := belO q1B
 clear hb
 cases nb with
 | false =>
  go_wp2_with fail
  go_ret
  exact ⟨⟨_, rfl⟩, by refine q1B.trans ?_; (repeat (first | (with_reducible first | exact Below.refl _ _ | assumption | refine Below.drew ?_) | ((with_reducible first | refine Below.alloc ?_ ?_ _ | refine Below.setCell ?_ ?_ _); rotate_left; (first | omega | (simp <;> omega)))))⟩
 | true =>
  go_wp2_with fail
  refine (rcat_any B.pA B.pn B.pc B.P x.pr x.op HB.out.pn HB.out.cells _ (HW.out.pro.below (q1B.trans belT))).mono ?_
  rintro e w2 ⟨C, b, rfl, hs, h1, ho, hb⟩
  have HH := hide (And.intro hs h1)
  have B2 := hide (q1B.trans ((Below.trans belT hb).mono (by omega)))
  clear hs h1 ho hb
  cases b with
  | false =>
   go_wp2_with (first
     | (with_reducible refine wpList_alloc_row rfl 88 rfl (some 5) rfl i0 HI.out.1 Z HI.out.2 w2.heap.size rfl ?_)
     | ((with_reducible refine wpList_store_newrow2 rfl 88 (.tmp 5) (.tmp 19) rfl rfl w2.heap.size C rfl rfl 88 Z (blk_new rfl) (pz_size HH.out.1) (by rw [HZ1.out, HH.out.1]) HH.out.2 ?_); intro w5 hb5 hs5 hx5 hk5))
   have B5 := hide (B2.out.trans ((show Below w2.heap.size w2 w5 from Below.trans belT hb5).mono B2.out.size))
   clear hb5 hs5 hx5 hk5
   go_wp2_with fail
   go_ret
   exact ⟨⟨_, rfl⟩, B5.out⟩
  | true =>
   go_wp2_with (first
     | (with_reducible refine wpList_alloc_row rfl 88 rfl (some 5) rfl i0 HI.out.1 Z HI.out.2 w2.heap.size rfl ?_)
     | ((with_reducible refine wpList_store_newrow2 rfl 88 (.tmp 5) (.tmp 19) rfl rfl w2.heap.size C rfl rfl 88 Z (blk_new rfl) (pz_size HH.out.1) (by rw [HZ1.out, HH.out.1]) HH.out.2 ?_); intro w5 hb5 hs5 hx5 hk5))
   have B5 := hide (B2.out.trans ((show Below w2.heap.size w2 w5 from Below.trans belT hb5).mono B2.out.size))
   clear hb5 hs5 hx5 hk5
   go_wp2_with fail
   go_ret
   exact ⟨⟨_, rfl⟩, B5.out⟩
end Go.Proofs.YtpghciiifnjimaaGreatDoor
namespace Go.Proofs.YtpghciiifnjimaaGreatDoor
set_option maxRecDepth 4000
set_option linter.unusedSimpArgs false
set_option linter.unusedVariables false
open Go.RowKit
set_option maxRecDepth 20000 in
set_option maxHeartbeats 16000000 in
theorem wcheck24_any (B : LBk) (hB : BkOK B) (w : World) (hw : BkIn w B) :
  Calls Tryz.prog 44 #[.agg B.C] w (OkE (∀ k, k < B.an → 1000 ≤ (B.a k).id) w) := by
 obtain ⟨C, aA, an, ac, a, jA, jn, jc, E, pA, pn, pc, P⟩ := B
 have HR := hide (show RowAcc w aA an a from hw.acc)
 have HIN := hide hw
 have HOK := hide hB
 have HCS := hide (bk_size hB)
 have h18 : C[18]? = some (.slice aA an ac) := hB.bks.acc
 have hn : an ≤ 1000000 := hB.an
 clear hB hw
 dsimp only
 by_cases h64 : 64 < an
 ·have d64 : decide ((64 : Int) < an) = true := decide_eq_true (by omega)
  clear h64
  go_enter Tryz.func44, Tryz.ntmps44
  go_wp2_with fail
  go_ret
  exact ⟨_, rfl, fun h => absurd h (by decide), by (repeat (first | (with_reducible first | exact Below.refl _ _ | assumption | refine Below.drew ?_) | ((with_reducible first | refine Below.alloc ?_ ?_ _ | refine Below.setCell ?_ ?_ _); rotate_left; (first | omega | (simp <;> omega)))))⟩
 have d64 : decide ((64 : Int) < an) = false := decide_eq_false (by omega)
 have d64' : (an : Int) ≤ 64 := by omega
 clear h64
 go_enter Tryz.func44, Tryz.ntmps44
 go_wp2_with fail
 go_loopw [3] (fun v wr => KP an (fun k => 1000 ≤ (a k).id) (w.alloc (.cells C 33)) v wr) (fun v _ => an - (intOf v).toNat)
 case atStart => exact ⟨0, by omega, rfl, fun i hi => by omega, Below.refl _ _⟩
 case round =>
  obtain ⟨k, hk, rfl, hz, hb⟩ := hrel
  have HZ := hide hz
  have H0 := hide hb
  have HC0 := hide (blk_below hb (by simp) (blk_new (w := w) (o := .cells C 33) rfl))
  clear hz
  have q1B : Below w.heap.size w wr := qB hb
  have q1z := hb.size
  try simp at q1z
  have q1t : w.heap.size ≤ wr.heap.size := (by omega)
  obtain ⟨q1s0, q1n0_0, q1n0_1, q1n0_2⟩ := kB wr.heap.size w.heap.size
  have q1c0_18 := cel hb w.heap.size 18
  simp [go_sem, *] at q1c0_18
  have q1f0 := fun o => fro hb w.heap.size o
  simp [go_sem, *] at q1f0
  have q1o := belO q1B
  clear hb
  have BL := hide q1B
  clear h18
  by_cases hlt : k < an
  ·have hm : (k : Int) < an := by omega
   have hk0 : (0 : Int) ≤ k := by omega
   have HK := hide hlt
   have HSH := hide (fun (W : World) => wshaped_any (a k) W)
   obtain ⟨b, off, rfl, hbl, c0, c1, c2, c3, c4, c5, c6⟩ := (HR.out.below q1B).at hlt
   have HOW := hide (fun (W : World) (h : BkIn W ⟨C, some ⟨b, off, none⟩, an, ac, a, jA, jn, jc, E, pA, pn, pc, P⟩) => wowned_any _ HOK.out (a k) W h)
   obtain ⟨x, hx⟩ : ∃ x, x = a k := ⟨_, rfl⟩
   rw [← hx] at c0 c1 c2 c3 c4 c5 c6
   have HX := hide hx
   rw [← hx] at HSH HOW
   have HSM := hide (show ∀ kk, k = kk + 1 → wr.cell? ⟨b, off + kk * 7, none⟩ = some (.int .i64 (a kk).id) from fun kk hkk => by
    obtain ⟨b', off', e', _, p0, _, _, _, _, _, _⟩ := (HR.out.below q1B).at (show kk < an by omega)
    injection e' with e'
    injection e' with e1 e2
    subst e1 e2
    exact p0)
   have HBL := hide hbl
   clear hlt hk hx
   go_upto_region 7 with fail
   go_cut [5] (fun v5 wx => (∃ cb : Bool, v5 = .bool cb) ∧ wx = wr.alloc (.cells #[.int .i64 x.id, .int .i64 x.op, .int .i64 x.cl, .int .i64 x.ex, .string x.ow, .string x.pr, .string x.nu] 44))
   case first =>
    cases h1 : (x.cl == 0) with
    | true =>
     go_wp2_with fail
     go_meet
     exact ⟨⟨_, rfl⟩, rfl⟩
    | false =>
     go_wp2_with (go_at_call 90; refine (rvalid_any _ _).mono ?_; rintro r wv ⟨rfl, rfl⟩)
     all_goals (go_meet; exact ⟨⟨_, rfl⟩, rfl⟩)
   case rest =>
    obtain ⟨⟨cb, rfl⟩, rfl⟩ := hcut
    clear hbl c0 c1 c2 c3 c4 c5 c6
    go_wp2_with fail
    refine (HSH.out _).mono ?_
    rintro e w1 ⟨sb, rfl, hid, hb⟩
    have HID0 := hide hid
    clear hid
    have BX : Below wr.heap.size wr w1 := qB hb
    have HC1 := hide (blk_below BX (by omega) HC0.out)
    have q2B : Below wr.heap.size wr w1 := qB hb
    have q2z := hb.size
    try simp at q2z
    have q2t : wr.heap.size ≤ w1.heap.size := (by omega)
    obtain ⟨q2s0, q2n0_0, q2n0_1, q2n0_2⟩ := kB w1.heap.size w.heap.size
    have q2c0_18 := cel hb w.heap.size 18
    simp [go_sem, *] at q2c0_18
    have q2f0 := fun o => fro hb w.heap.size o
    simp [go_sem, *] at q2f0
    obtain ⟨q2s1, q2n1_0, q2n1_1, q2n1_2⟩ := kB w1.heap.size wr.heap.size
    obtain ⟨q2c1_0, q2c1_1, q2c1_2, q2c1_3, q2c1_4, q2c1_5, q2c1_6, q2f1⟩ := kC7 hb wr.heap.size
    simp [go_sem, *] at q2c1_0 q2c1_1 q2c1_2 q2c1_3 q2c1_4 q2c1_5 q2c1_6 q2f1
    have q2o := belO q2B
    clear hb q1o q1f0 q1c0_18 q1s0 q1z q1B
    have BW := hide q2B
    have B2 := hide (BL.out.trans (q2B.mono (by first | omega | (simp <;> omega))))
    have zB2 := B2.out.size
    clear BX
    cases sb with
    | false =>
     go_wp2_with fail
     go_ret
     exact ⟨_, rfl, fun h => absurd h (by decide), B2.out⟩
    | true =>
     have HID := hide (show 1000 ≤ (a k).id from by rw [← HX.out]; exact HID0.out rfl)
     cases cb with
     | false =>
      go_wp2_with fail
      go_ret
      exact ⟨_, rfl, fun h => absurd h (by decide), B2.out⟩
     | true =>
      by_cases g5 : x.ex < 0
      ·have d5 : decide (x.ex < 0) = true := decide_eq_true g5
       clear g5
       go_wp2_with fail
       go_ret
       exact ⟨_, rfl, fun h => absurd h (by decide), B2.out⟩
      have d5 : decide (x.ex < 0) = false := decide_eq_false g5
      by_cases g6 : 1000000000000 < x.ex
      ·have d6 : decide (1000000000000 < x.ex) = true := decide_eq_true g6
       clear g5 g6
       go_wp2_with fail
       go_ret
       exact ⟨_, rfl, fun h => absurd h (by decide), B2.out⟩
      have d6 : decide (1000000000000 < x.ex) = false := decide_eq_false g6
      clear g5 g6
      by_cases hkz : 0 < k
      ·obtain ⟨kk, hkk⟩ : ∃ kk, k = kk + 1 := ⟨k - 1, by omega⟩
       have d8 : decide (0 < k) = true := decide_eq_true hkz
       have n1 : IntKind.i64.wrap ((k : Int) - 1) = (kk : Int) := by rw [i64w]; unfold wrap64; have := HK.out; omega
       have hkk0 : (0 : Int) ≤ kk := by omega
       have hkk1 : (kk : Int) < an := by have := HK.out; omega
       have p1 : w1.cell? ⟨b, off + kk * 7, none⟩ = some (.int .i64 (a kk).id) := (BW.out.cell (p := ⟨b, off + kk * 7, none⟩) HBL.out).trans (HSM.out kk hkk)
       have hbl1 : b < w1.heap.size := by have := HBL.out; omega
       clear hkk hkz
       by_cases ho : x.id ≤ (a kk).id
       ·have d9 : decide (x.id ≤ (a kk).id) = true := decide_eq_true ho
        clear ho
        go_wp2_with fail
        refine ord_start (SB (w1.heap.size) [] _) 14 (preB 0 14) (by kernel_rfl) (by kernel_rfl) (by kernel_rfl) SB.refl.drew (fun hHeld => ?_)
        refine oS (i := 0) (preB 1 13) rfl hHeld ?_
        (try simp only [Act.put, putS])
        refine oS (i := 1) (preB 2 12) rfl hHeld ?_
        (try simp only [Act.put, putS])
        refine oS (i := 2) (preB 3 11) rfl hHeld ?_
        (try simp only [Act.put, putS])
        refine oS (i := 3) (preB 4 10) rfl hHeld ?_
        (try simp only [Act.put, putS])
        refine oS (i := 4) (preB 5 9) rfl hHeld ?_
        (try simp only [Act.put, putS])
        refine oS (i := 5) (preB 6 8) rfl hHeld ?_
        (try simp only [Act.put, putS])
        refine oS (i := 6) (preB 7 7) rfl hHeld ?_
        (try simp only [Act.put, putS])
        refine oS (i := 7) (preB 8 6) rfl hHeld ?_
        (try simp only [Act.put, putS])
        refine oS (i := 8) (preB 9 5) rfl hHeld ?_
        (try simp only [Act.put, putS])
        refine oS (i := 9) (preB 10 4) rfl hHeld ?_
        (try simp only [Act.put, putS])
        refine oS (i := 10) (preB 11 3) rfl hHeld ?_
        (try simp only [Act.put, putS])
        refine oS (i := 11) (preB 12 2) rfl hHeld ?_
        (try simp only [Act.put, putS])
        refine oS (i := 12) (preB 13 1) rfl hHeld ?_
        (try simp only [Act.put, putS])
        refine oS (i := 13) (preB 14 0) rfl hHeld ?_
        (try simp only [Act.put, putS])
        refine wpAnyH_done (by kernel_rfl) ?_ _
        go_wp2_with fail
        go_ret
        exact ⟨_, rfl, fun h => absurd h (by decide), B2.out.trans belT⟩
       ·have d9 : decide (x.id ≤ (a kk).id) = false := decide_eq_false ho
        clear ho
        go_wp2_with fail
        refine ord_start (SB (w1.heap.size) [] _) 14 (preB 0 14) (by kernel_rfl) (by kernel_rfl) (by kernel_rfl) SB.refl.drew (fun hHeld => ?_)
        refine oS (i := 0) (preB 1 13) rfl hHeld ?_
        (try simp only [Act.put, putS])
        refine oS (i := 1) (preB 2 12) rfl hHeld ?_
        (try simp only [Act.put, putS])
        refine oS (i := 2) (preB 3 11) rfl hHeld ?_
        (try simp only [Act.put, putS])
        refine oS (i := 3) (preB 4 10) rfl hHeld ?_
        (try simp only [Act.put, putS])
        refine oS (i := 4) (preB 5 9) rfl hHeld ?_
        (try simp only [Act.put, putS])
        refine oS (i := 5) (preB 6 8) rfl hHeld ?_
        (try simp only [Act.put, putS])
        refine oS (i := 6) (preB 7 7) rfl hHeld ?_
        (try simp only [Act.put, putS])
        refine oS (i := 7) (preB 8 6) rfl hHeld ?_
        (try simp only [Act.put, putS])
        refine oS (i := 8) (preB 9 5) rfl hHeld ?_
        (try simp only [Act.put, putS])
        refine oS (i := 9) (preB 10 4) rfl hHeld ?_
        (try simp only [Act.put, putS])
        refine oS (i := 10) (preB 11 3) rfl hHeld ?_
        (try simp only [Act.put, putS])
        refine oS (i := 11) (preB 12 2) rfl hHeld ?_
        (try simp only [Act.put, putS])
        refine oS (i := 12) (preB 13 1) rfl hHeld ?_
        (try simp only [Act.put, putS])
        refine oS (i := 13) (preB 14 0) rfl hHeld ?_
        (try simp only [Act.put, putS])
        refine wpAnyH_done (by kernel_rfl) ?_ _
        go_wp2_with (with_reducible refine wpList_load_row rfl 33 (.tmp 1) rfl w.heap.size rfl 33 C (0, 0) _ (blk_drew HC1.out) Tryz.underlying33 rfl HCS.out ?_)
        refine (HOW.out _ (HIN.out.below (B2.out.trans belT))).mono ?_
        rintro e w3 ⟨⟨ow, rfl⟩, hb⟩
        have B3W := Below.trans (by (repeat (first | (with_reducible first | exact Below.refl _ _ | assumption | refine Below.drew ?_) | ((with_reducible first | refine Below.alloc ?_ ?_ _ | refine Below.setCell ?_ ?_ _); rotate_left; (first | omega | (simp <;> omega))))) : Below w1.heap.size w1 _) hb
        have B3 := hide (B2.out.trans (B3W.mono zB2))
        have B3F := hide (BW.out.trans (B3W.mono BW.out.size))
        clear hb B3W
        by_cases h9 : ow = 0
        ·have n9 : (ow != 0) = false := by rw [h9]; rfl
         clear h9
         go_wp2_with fail
         go_roundw
         case rel => exact ⟨k + 1, HK.out, by go_num, kp_next HZ.out HID.out, H0.out.trans (B3F.out.mono (by have h1 := H0.out.size; simpa using h1))⟩
         case measure => have := HK.out; simp [intOf]; omega
        ·have n9 : (ow != 0) = true := by simp [bne, h9]
         have HF := hide h9
         clear h9
         go_wp2_with fail
         go_ret
         exact ⟨_, rfl, fun h => absurd h HF.out, B3.out.trans belT⟩
      ·have d8 : decide (0 < k) = false := decide_eq_false hkz
       clear hkz
       go_wp2_with fail
       refine ord_start (SB (w1.heap.size) [] _) 14 (preB 0 14) (by kernel_rfl) (by kernel_rfl) (by kernel_rfl) SB.refl.drew (fun hHeld => ?_)
       refine oS (i := 0) (preB 1 13) rfl hHeld ?_
       (try simp only [Act.put, putS])
       refine oS (i := 1) (preB 2 12) rfl hHeld ?_
       (try simp only [Act.put, putS])
       refine oS (i := 2) (preB 3 11) rfl hHeld ?_
       (try simp only [Act.put, putS])
       refine ord_skip (i := 3) (preB 4 10) rfl (by kernel_rfl) (by kernel_rfl) (by kernel_rfl) (by kernel_rfl) (fun _ _ _ h => h) hHeld (by rfl) ?_
       (try simp only [Act.put, putS])
       refine ord_skip (i := 4) (preB 5 9) rfl (by kernel_rfl) (by kernel_rfl) (by kernel_rfl) (by kernel_rfl) (fun _ _ _ h => h) hHeld (by rfl) ?_
       (try simp only [Act.put, putS])
       refine ord_skip (i := 5) (preB 6 8) rfl (by kernel_rfl) (by kernel_rfl) (by kernel_rfl) (by kernel_rfl) (fun _ _ _ h => h) hHeld (by rfl) ?_
       (try simp only [Act.put, putS])
       refine ord_skip (i := 6) (preB 7 7) rfl (by kernel_rfl) (by kernel_rfl) (by kernel_rfl) (by kernel_rfl) (fun _ _ _ h => h) hHeld (by rfl) ?_
       (try simp only [Act.put, putS])
       refine ord_skip (i := 7) (preB 8 6) rfl (by kernel_rfl) (by kernel_rfl) (by kernel_rfl) (by kernel_rfl) (fun _ _ _ h => h) hHeld (by rfl) ?_
       (try simp only [Act.put, putS])
       refine ord_skip (i := 8) (preB 9 5) rfl (by kernel_rfl) (by kernel_rfl) (by kernel_rfl) (by kernel_rfl) (fun _ _ _ h => h) hHeld (by rfl) ?_
       (try simp only [Act.put, putS])
       refine ord_skip (i := 9) (preB 10 4) rfl (by kernel_rfl) (by kernel_rfl) (by kernel_rfl) (by kernel_rfl) (fun _ _ _ h => h) hHeld (by rfl) ?_
       (try simp only [Act.put, putS])
       refine ord_skip (i := 10) (preB 11 3) rfl (by kernel_rfl) (by kernel_rfl) (by kernel_rfl) (by kernel_rfl) (fun _ _ _ h => h) hHeld (by rfl) ?_
       (try simp only [Act.put, putS])
       refine ord_skip (i := 11) (preB 12 2) rfl (by kernel_rfl) (by kernel_rfl) (by kernel_rfl) (by kernel_rfl) (fun _ _ _ h => h) hHeld (by rfl) ?_
       (try simp only [Act.put, putS])
       refine ord_skip (i := 12) (preB 13 1) rfl (by kernel_rfl) (by kernel_rfl) (by kernel_rfl) (by kernel_rfl) (fun _ _ _ h => h) hHeld (by rfl) ?_
       (try simp only [Act.put, putS])
       refine oS (i := 13) (preB 14 0) rfl hHeld ?_
       (try simp only [Act.put, putS])
       refine wpAnyH_done (by kernel_rfl) ?_ _
       go_wp2_with (with_reducible refine wpList_load_row rfl 33 (.tmp 1) rfl w.heap.size rfl 33 C (0, 0) _ (blk_drew HC1.out) Tryz.underlying33 rfl HCS.out ?_)
       refine (HOW.out _ (HIN.out.below (B2.out.trans belT))).mono ?_
       rintro e w3 ⟨⟨ow, rfl⟩, hb⟩
       have B3W := Below.trans (by (repeat (first | (with_reducible first | exact Below.refl _ _ | assumption | refine Below.drew ?_) | ((with_reducible first | refine Below.alloc ?_ ?_ _ | refine Below.setCell ?_ ?_ _); rotate_left; (first | omega | (simp <;> omega))))) : Below w1.heap.size w1 _) hb
       have B3 := hide (B2.out.trans (B3W.mono zB2))
       have B3F := hide (BW.out.trans (B3W.mono BW.out.size))
       clear hb B3W
       by_cases h9 : ow = 0
       ·have n9 : (ow != 0) = false := by rw [h9]; rfl
        clear h9
        go_wp2_with fail
        go_roundw
        case rel => exact ⟨k + 1, HK.out, by go_num, kp_next HZ.out HID.out, H0.out.trans (B3F.out.mono (by have h1 := H0.out.size; simpa using h1))⟩
        case measure => have := HK.out; simp [intOf]; omega
       ·have n9 : (ow != 0) = true := by simp [bne, h9]
        have HF := hide h9
        clear h9
        go_wp2_with fail
        go_ret
        exact ⟨_, rfl, fun h => absurd h HF.out, B3.out.trans belT⟩
  ·obtain rfl : k = an := by omega
   clear hlt hk
   go_wp2_with fail
   go_ret
   exact ⟨_, rfl, fun _ => HZ.out, BL.out⟩
end Go.Proofs.YtpghciiifnjimaaGreatDoor
