/- Texts laid together: Eub. -/
import Derived.Test.YtdjlaiilngechaaGreatDoorUEua
import Derived.Test.YtdjlaiilngechaaGreatDoorUK0
namespace Go.Proofs.YtdjlaiilngechaaGreatDoor
set_option maxRecDepth 4000
set_option linter.unusedSimpArgs false
set_option linter.unusedVariables false
open Go.RowKit
theorem rrvalid6 (w : World) : Calls Tryz.prog 146 #[.int .i64 6] w fun e w' => e = .returned (.bool true) ∧ w = w' := by
 go_enter Tryz.func146, Tryz.ntmps146
 go_wp2_with fail
 go_ret
 exact ⟨rfl, rfl⟩
theorem rgood_any (n : Int) (w : World) : Calls Tryz.prog 118 #[.int .i64 n] w fun e w' => e = .returned (.bool (decide (-1000000000000 ≤ n ∧ n ≤ 1000000000000))) ∧ w = w' := by
 by_cases h1 : -1000000000000 ≤ n
 ·by_cases h2 : n ≤ 1000000000000
  ·rw [decide_eq_true ⟨h1, h2⟩]
   go_enter Tryz.func118, Tryz.ntmps118
   go_wp2_with fail
   go_ret
   exact ⟨by first | rfl | simp [*], rfl⟩
  ·rw [decide_eq_false (fun h => h2 h.2)]
   have h3 : 1000000000000 < n := by omega
   go_enter Tryz.func118, Tryz.ntmps118
   go_wp2_with fail
   go_ret
   exact ⟨by first | rfl | simp [*], rfl⟩
 ·rw [decide_eq_false (fun h => h1 h.1)]
  have h3 : n < -1000000000000 := by omega
  clear h1
  go_enter Tryz.func118, Tryz.ntmps118
  go_wp2_with fail
  go_ret
  exact ⟨by first | rfl | simp [*], rfl⟩
theorem rup_any (q r : Int) (neg odd : Bool) (ho : odd = decide (q % 2 = 1)) (h0 : 0 ≤ r) (h1 : r < 1603080000000) (w : World) :
  Calls Tryz.prog 148 #[.bool neg, .bool odd, .int .i64 r, .int .i64 1603080000000, .int .i64 6] w fun e w' => e = .returned (.bool (decide (mr q r = 1))) ∧ w = w' := by
 have h3 : IntKind.i64.wrap (1603080000000 - r) = 1603080000000 - r := by rw [IntKind.wrap_i64]; omega
 by_cases a : 1603080000000 - r < r
 ·have HV := hide (show decide (mr q r = 1) = true from decide_eq_true (if_pos a))
  have a2 : ¬ r = 1603080000000 - r := by omega
  clear ho
  go_enter Tryz.func148, Tryz.ntmps148
  go_wp2_with fail
  go_ret
  exact ⟨by rw [HV.out]; first | rfl | simp [*], rfl⟩
 ·by_cases b : r < 1603080000000 - r
  ·have HV := hide (show decide (mr q r = 1) = false from decide_eq_false (by unfold mr; rw [if_neg a, if_pos b]; decide))
   have a' := Int.not_lt.1 a
   have a2 : ¬ r = 1603080000000 - r := by omega
   clear a ho
   go_enter Tryz.func148, Tryz.ntmps148
   go_wp2_with fail
   go_ret
   exact ⟨by rw [HV.out]; first | rfl | simp [*], rfl⟩
  ·have HV := hide (show decide (mr q r = 1) = odd from by rw [ho]; unfold mr; rw [if_neg a, if_neg b])
   have h4 : (1603080000000 : Int) - r = r := by omega
   rw [h4] at h3
   clear a b ho
   go_enter Tryz.func148, Tryz.ntmps148
   go_wp2_with fail
   go_ret
   exact ⟨by rw [HV.out]; rfl, rfl⟩
/-- Behind the quotient that was taken up: its box, and the box of the quotient. -/
def RdCut (y : Int) (w : World) (k : Nat) (v11 v12 : Value) (wx : World) : Prop :=
 ∃ g a b, v11 = .pointer (some ⟨g, 0, none⟩) ∧ (∃ c, v12 = .int .i64 c) ∧ Below w.heap.size w wx ∧ k < wx.heap.size ∧
  (wx.cell? ⟨g, 0, none⟩ = some (.int .i64 (hiW y)) ∧ wx.cell? ⟨g, 1, none⟩ = some (.int .u64 (loW y))) ∧ (g < wx.heap.size ∧ ¬ g = k) ∧
  (wx.cell? ⟨k, 0, none⟩ = some (.int .i64 a) ∧ wx.cell? ⟨k, 1, none⟩ = some (.int .u64 b) ∧ ∀ o, wx.frozen? ⟨k, o, none⟩ = false)
theorem bq_eq (q : Int) : (q % 2 == 1) = decide (q % 2 = 1) := by
 by_cases h : q % 2 = 1
 ·rw [decide_eq_true h]; simp [h]
 ·rw [decide_eq_false h]; simpa using h
set_option maxHeartbeats 4000000 in
theorem rrdiv_any (x : Int) (hx : WIn x) (w : World) :
  Calls Tryz.prog 117 #[.agg #[.int .i64 (hiW x), .int .u64 (loW x)], .int .i64 1603080000000, .int .i64 6] w fun e w' => e = .returned (.tuple #[.int .i64 (iV (rnd x)), .int .i64 (dvE x)]) ∧ Below w.heap.size w w' := by
 obtain ⟨q, hq⟩ : ∃ q, q = x / 1603080000000 := ⟨_, rfl⟩
 obtain ⟨r, hr⟩ : ∃ r, r = x % 1603080000000 := ⟨_, rfl⟩
 have HD := hide (fun W => by have t := rdiv_any x hx W; rw [← hq, ← hr] at t; exact t)
 have HQ := hide (show WIn q from by rw [hq]; exact quo_win hx)
 have r0 : 0 ≤ r := by omega
 have r1 : r < 1603080000000 := by omega
 obtain ⟨y, hy⟩ : ∃ y, y = rnd x := ⟨_, rfl⟩
 have HY := hide (show WIn y from by rw [hy]; exact rnd_win hx)
 have HE := hide (show q + mr q r = y from by rw [hy, hq, hr]; rfl)
 have HM := hide (mr_bd q r)
 have HI := hide (rwint_any y HY.out)
 have HEy := hide (show dvE x = if iB y = true then 0 else 6 from by rw [hy]; rfl)
 have ht1 : (loW q).tmod 2 = q % 2 := by have := lo_bd q; rw [Int.tmod_eq_emod_of_nonneg this.1]; unfold loW; omega
 have ht2 : IntKind.u64.wrap (q % 2) = q % 2 := by rw [wrapU]; omega
 have ht3 : loW q % 2 = q % 2 := by unfold loW; omega
 rw [← hy]
 clear hq hr hy
 cases hb0 : iB y with
 | true =>
  have HE1 := hide (show dvE x = 0 from by rw [HEy.out, hb0]; rfl)
  rcases Int.lt_or_eq_of_le r0 with hr0 | hr0
  ·by_cases hm1 : mr q r = 1
   ·have HMD := hide (show decide (mr q r = 1) = true from decide_eq_true hm1)
    have HF := hide (show fitR (q + 1) = y from by rw [← hm1, HE.out]; exact fitR_of HY.out)
    clear hm1
    have HB0 := hide hb0
    clear hb0
    go_enter Tryz.func117, Tryz.ntmps117
    go_wp2_with fail
    refine (rrvalid6 _).mono ?_
    rintro e w0 ⟨rfl, rfl⟩
    go_wp2_with fail
    refine (HD.out _).mono ?_
    rintro e w1 ⟨rfl, hb⟩
    have q1B : Below w.heap.size w w1 := qB hb
    have q1z := hb.size
    try simp at q1z
    have q1t : w.heap.size ≤ w1.heap.size := (by omega)
    obtain ⟨q1s0, q1n0_0, q1n0_1, q1n0_2⟩ := kB w1.heap.size w.heap.size
    obtain ⟨q1c0_0, q1c0_1, q1f0⟩ := kC2 hb w.heap.size
    simp [go_sem, *] at q1c0_0 q1c0_1 q1f0
    have q1o := belO q1B
    clear hb
    go_wp2_with fail
    refine (rup_any q r _ _ (by first | exact bq_eq _ | rfl | simp) r0 r1 _).mono ?_
    rintro e w0 ⟨rfl, rfl⟩
    rw [HMD.out]
    go_upto_region 5 with fail
    go_cut [11, 12] (fun v11 v12 wx => RdCut y w w1.heap.size v11 v12 wx)
    case first =>
     refine ord_start (SB (w1.heap.size + 1) [] _) 9 (preB 0 9) (by kernel_rfl) (by kernel_rfl) (by kernel_rfl) SB.refl.drew (fun hHeld => ?_)
     refine oS (i := 0) (preB 1 8) rfl hHeld ?_
     (try simp only [Act.put, putS])
     refine wpAnyH_ready (rs := [1, 6]) (by kernel_rfl) (by simp) ?_
     refine ord_run (i := 1) (preB 2 7) rfl (by kernel_rfl) (by rfl) (fun K hK => ?_) ?_
     ·go_simp
      go_wp2_with (go_at_call 63; refine (rof_any 1 (by decide) (by decide) _).mono ?_; rintro e w2 ⟨rfl, hb⟩; (first | (have q2B : Below w.heap.size w w2 := qB hb; have q2z := hb.size; (try simp at q2z); have q2t : w.heap.size ≤ w2.heap.size := (by omega); have q2s0 : w1.heap.size < w2.heap.size := (by omega); obtain ⟨q2n0_0, q2n0_1, q2n0_2⟩ := kN q2s0; obtain ⟨q2c0_0, q2c0_1, q2f0⟩ := kC2 hb w1.heap.size; simp [go_sem, *] at q2c0_0 q2c0_1 q2f0; have q2s1 : w1.heap.size + 1 < w2.heap.size := (by omega); obtain ⟨q2n1_0, q2n1_1, q2n1_2⟩ := kN q2s1; obtain ⟨q2c1_0, q2c1_1, q2f1⟩ := kC2 hb (w1.heap.size + 1); simp [go_sem, *] at q2c1_0 q2c1_1 q2f1; have q2o := belO q2B; have hbS := hb; have hbS2 := hb; clear hb) | (have q2B : Below w.heap.size w w2 := qB hb; have q2z := hb.size; (try simp at q2z); have q2t : w.heap.size ≤ w2.heap.size := (by omega); have q2s0 : w1.heap.size < w2.heap.size := (by omega); obtain ⟨q2n0_0, q2n0_1, q2n0_2⟩ := kN q2s0; obtain ⟨q2c0_0, q2c0_1, q2f0⟩ := kC2 hb w1.heap.size; simp [go_sem, *] at q2c0_0 q2c0_1 q2f0; have q2o := belO q2B; have hbS := hb; have hbS2 := hb; clear hb)))
      refine hK.out _ _ ?_ (fun hHeld => ?_)
      ·exact sbT
      clear hK K
      (try simp only [Act.put, putS])
      refine wpAnyH_ready (rs := [2, 6]) (by kernel_rfl) (by simp) ?_
      refine ord_run (i := 2) (preB 3 6) rfl (by kernel_rfl) (by rfl) (fun K hK => ?_) ?_
      ·go_simp
       go_wp2_with (go_at_call 31; refine (radd_any q 1 HQ.out (by unfold WIn; omega) _).mono ?_; rintro e w3 ⟨rfl, hb⟩; rw [HF.out]; (first | (have q3B : Below w.heap.size w w3 := qB hb; have q3z := hb.size; (try simp at q3z); have q3t : w.heap.size ≤ w3.heap.size := (by omega); have q3s0 : w1.heap.size < w3.heap.size := (by omega); obtain ⟨q3n0_0, q3n0_1, q3n0_2⟩ := kN q3s0; obtain ⟨q3c0_0, q3c0_1, q3f0⟩ := kC2 hb w1.heap.size; simp [go_sem, *] at q3c0_0 q3c0_1 q3f0; have q3s1 : w1.heap.size + 1 < w3.heap.size := (by omega); obtain ⟨q3n1_0, q3n1_1, q3n1_2⟩ := kN q3s1; obtain ⟨q3c1_0, q3c1_1, q3f1⟩ := kC2 hb (w1.heap.size + 1); simp [go_sem, *] at q3c1_0 q3c1_1 q3f1; have q3o := belO q3B; have hbS := hb; have hbS3 := hb; clear hb) | (have q3B : Below w.heap.size w w3 := qB hb; have q3z := hb.size; (try simp at q3z); have q3t : w.heap.size ≤ w3.heap.size := (by omega); have q3s0 : w1.heap.size < w3.heap.size := (by omega); obtain ⟨q3n0_0, q3n0_1, q3n0_2⟩ := kN q3s0; obtain ⟨q3c0_0, q3c0_1, q3f0⟩ := kC2 hb w1.heap.size; simp [go_sem, *] at q3c0_0 q3c0_1 q3f0; have q3s1 : w2.heap.size < w3.heap.size := (by omega); obtain ⟨q3n1_0, q3n1_1, q3n1_2⟩ := kN q3s1; obtain ⟨q3c1_0, q3c1_1, q3f1⟩ := kC2 hb w2.heap.size; simp [go_sem, *] at q3c1_0 q3c1_1 q3f1; have q3o := belO q3B; have hbS := hb; have hbS3 := hb; clear hb) | (have q3B : Below w.heap.size w w3 := qB hb; have q3z := hb.size; (try simp at q3z); have q3t : w.heap.size ≤ w3.heap.size := (by omega); have q3s0 : w1.heap.size < w3.heap.size := (by omega); obtain ⟨q3n0_0, q3n0_1, q3n0_2⟩ := kN q3s0; obtain ⟨q3c0_0, q3c0_1, q3f0⟩ := kC2 hb w1.heap.size; simp [go_sem, *] at q3c0_0 q3c0_1 q3f0; have q3o := belO q3B; have hbS := hb; have hbS3 := hb; clear hb)))
       refine hK.out _ _ ?_ (fun hHeld => ?_)
       ·exact sbT
       clear hK K
       (try simp only [Act.put, putS])
       refine oS (i := 3) (preB 4 5) rfl hHeld ?_
       (try simp only [Act.put, putS])
       refine oS (i := 4) (preB 5 4) rfl hHeld ?_
       (try simp only [Act.put, putS])
       refine oS (i := 5) (preB 6 3) rfl hHeld ?_
       (try simp only [Act.put, putS])
       refine wpAnyH_ready (rs := [6]) (by kernel_rfl) (by simp) ?_
       refine ord_run (i := 6) (preB 7 2) rfl (by kernel_rfl) (by rfl) (fun K hK => ?_) AllReadyH.nil
       go_simp
       refine hK.out _ _ ?_ (fun hHeld => ?_)
       ·exact sbT
       clear hK K
       (try simp only [Act.put, putS])
       refine wpAnyH_ready (rs := [7]) (by kernel_rfl) (by simp) ?_
       refine ord_run (i := 7) (preB 8 1) rfl (by kernel_rfl) (by rfl) (fun K hK => ?_) AllReadyH.nil
       go_simp
       refine hK.out _ _ ?_ (fun hHeld => ?_)
       ·exact sbT
       clear hK K
       (try simp only [Act.put, putS])
       refine oS (i := 8) (preB 9 0) rfl hHeld ?_
       (try simp only [Act.put, putS])
       refine wpAnyH_done (by kernel_rfl) ?_ _
       go_wp2_with fail; go_meet; exact ⟨_, hiW q, loW q, rfl, ⟨_, rfl⟩, belT, (by simp; omega), ⟨(by simp [go_sem, *]), (by simp [go_sem, *])⟩, ⟨(by first | omega | (simp <;> omega)), (by first | omega | (simp <;> omega))⟩, ⟨(by simp [go_sem, *]), (by simp [go_sem, *]), (by simp [go_sem, *])⟩⟩
      refine ord_run (i := 6) #[true, true, false, false, false, false, true, false, false] rfl (by kernel_rfl) (by rfl) (fun K hK => ?_) ?_
      ·go_simp
       refine hK.out _ _ ?_ (fun hHeld => ?_)
       ·exact sbT
       clear hK K
       (try simp only [Act.put, putS])
       refine wpAnyH_ready (rs := [2]) (by kernel_rfl) (by simp) ?_
       refine ord_run (i := 2) #[true, true, true, false, false, false, true, false, false] rfl (by kernel_rfl) (by rfl) (fun K hK => ?_) AllReadyH.nil
       go_simp
       go_wp2_with (go_at_call 31; refine (radd_any q 1 HQ.out (by unfold WIn; omega) _).mono ?_; rintro e w3 ⟨rfl, hb⟩; rw [HF.out]; (first | (have q3B : Below w.heap.size w w3 := qB hb; have q3z := hb.size; (try simp at q3z); have q3t : w.heap.size ≤ w3.heap.size := (by omega); have q3s0 : w1.heap.size < w3.heap.size := (by omega); obtain ⟨q3n0_0, q3n0_1, q3n0_2⟩ := kN q3s0; obtain ⟨q3c0_0, q3c0_1, q3f0⟩ := kC2 hb w1.heap.size; simp [go_sem, *] at q3c0_0 q3c0_1 q3f0; have q3s1 : w1.heap.size + 1 < w3.heap.size := (by omega); obtain ⟨q3n1_0, q3n1_1, q3n1_2⟩ := kN q3s1; obtain ⟨q3c1_0, q3c1_1, q3f1⟩ := kC2 hb (w1.heap.size + 1); simp [go_sem, *] at q3c1_0 q3c1_1 q3f1; have q3o := belO q3B; have hbS := hb; have hbS3 := hb; clear hb) | (have q3B : Below w.heap.size w w3 := qB hb; have q3z := hb.size; (try simp at q3z); have q3t : w.heap.size ≤ w3.heap.size := (by omega); have q3s0 : w1.heap.size < w3.heap.size := (by omega); obtain ⟨q3n0_0, q3n0_1, q3n0_2⟩ := kN q3s0; obtain ⟨q3c0_0, q3c0_1, q3f0⟩ := kC2 hb w1.heap.size; simp [go_sem, *] at q3c0_0 q3c0_1 q3f0; have q3s1 : w2.heap.size < w3.heap.size := (by omega); obtain ⟨q3n1_0, q3n1_1, q3n1_2⟩ := kN q3s1; obtain ⟨q3c1_0, q3c1_1, q3f1⟩ := kC2 hb w2.heap.size; simp [go_sem, *] at q3c1_0 q3c1_1 q3f1; have q3o := belO q3B; have hbS := hb; have hbS3 := hb; clear hb) | (have q3B : Below w.heap.size w w3 := qB hb; have q3z := hb.size; (try simp at q3z); have q3t : w.heap.size ≤ w3.heap.size := (by omega); have q3s0 : w1.heap.size < w3.heap.size := (by omega); obtain ⟨q3n0_0, q3n0_1, q3n0_2⟩ := kN q3s0; obtain ⟨q3c0_0, q3c0_1, q3f0⟩ := kC2 hb w1.heap.size; simp [go_sem, *] at q3c0_0 q3c0_1 q3f0; have q3o := belO q3B; have hbS := hb; have hbS3 := hb; clear hb)))
       refine hK.out _ _ ?_ (fun hHeld => ?_)
       ·exact sbT
       clear hK K
       (try simp only [Act.put, putS])
       refine oS (i := 3) #[true, true, true, true, false, false, true, false, false] rfl hHeld ?_
       (try simp only [Act.put, putS])
       refine oS (i := 4) #[true, true, true, true, true, false, true, false, false] rfl hHeld ?_
       (try simp only [Act.put, putS])
       refine oS (i := 5) (preB 7 2) rfl hHeld ?_
       (try simp only [Act.put, putS])
       refine wpAnyH_ready (rs := [7]) (by kernel_rfl) (by simp) ?_
       refine ord_run (i := 7) (preB 8 1) rfl (by kernel_rfl) (by rfl) (fun K hK => ?_) AllReadyH.nil
       go_simp
       refine hK.out _ _ ?_ (fun hHeld => ?_)
       ·exact sbT
       clear hK K
       (try simp only [Act.put, putS])
       refine oS (i := 8) (preB 9 0) rfl hHeld ?_
       (try simp only [Act.put, putS])
       refine wpAnyH_done (by kernel_rfl) ?_ _
       go_wp2_with fail; go_meet; exact ⟨_, hiW q, loW q, rfl, ⟨_, rfl⟩, belT, (by simp; omega), ⟨(by simp [go_sem, *]), (by simp [go_sem, *])⟩, ⟨(by first | omega | (simp <;> omega)), (by first | omega | (simp <;> omega))⟩, ⟨(by simp [go_sem, *]), (by simp [go_sem, *]), (by simp [go_sem, *])⟩⟩
      exact AllReadyH.nil
     refine ord_run (i := 6) #[true, false, false, false, false, false, true, false, false] rfl (by kernel_rfl) (by rfl) (fun K hK => ?_) ?_
     ·go_simp
      refine hK.out _ _ ?_ (fun hHeld => ?_)
      ·exact sbT
      clear hK K
      (try simp only [Act.put, putS])
      refine wpAnyH_ready (rs := [1]) (by kernel_rfl) (by simp) ?_
      refine ord_run (i := 1) #[true, true, false, false, false, false, true, false, false] rfl (by kernel_rfl) (by rfl) (fun K hK => ?_) AllReadyH.nil
      go_simp
      go_wp2_with (go_at_call 63; refine (rof_any 1 (by decide) (by decide) _).mono ?_; rintro e w2 ⟨rfl, hb⟩; (first | (have q2B : Below w.heap.size w w2 := qB hb; have q2z := hb.size; (try simp at q2z); have q2t : w.heap.size ≤ w2.heap.size := (by omega); have q2s0 : w1.heap.size < w2.heap.size := (by omega); obtain ⟨q2n0_0, q2n0_1, q2n0_2⟩ := kN q2s0; obtain ⟨q2c0_0, q2c0_1, q2f0⟩ := kC2 hb w1.heap.size; simp [go_sem, *] at q2c0_0 q2c0_1 q2f0; have q2s1 : w1.heap.size + 1 < w2.heap.size := (by omega); obtain ⟨q2n1_0, q2n1_1, q2n1_2⟩ := kN q2s1; obtain ⟨q2c1_0, q2c1_1, q2f1⟩ := kC2 hb (w1.heap.size + 1); simp [go_sem, *] at q2c1_0 q2c1_1 q2f1; have q2o := belO q2B; have hbS := hb; have hbS2 := hb; clear hb) | (have q2B : Below w.heap.size w w2 := qB hb; have q2z := hb.size; (try simp at q2z); have q2t : w.heap.size ≤ w2.heap.size := (by omega); have q2s0 : w1.heap.size < w2.heap.size := (by omega); obtain ⟨q2n0_0, q2n0_1, q2n0_2⟩ := kN q2s0; obtain ⟨q2c0_0, q2c0_1, q2f0⟩ := kC2 hb w1.heap.size; simp [go_sem, *] at q2c0_0 q2c0_1 q2f0; have q2o := belO q2B; have hbS := hb; have hbS2 := hb; clear hb)))
      refine hK.out _ _ ?_ (fun hHeld => ?_)
      ·exact sbT
      clear hK K
      (try simp only [Act.put, putS])
      refine wpAnyH_ready (rs := [2]) (by kernel_rfl) (by simp) ?_
      refine ord_run (i := 2) #[true, true, true, false, false, false, true, false, false] rfl (by kernel_rfl) (by rfl) (fun K hK => ?_) AllReadyH.nil
      go_simp
      go_wp2_with (go_at_call 31; refine (radd_any q 1 HQ.out (by unfold WIn; omega) _).mono ?_; rintro e w3 ⟨rfl, hb⟩; rw [HF.out]; (first | (have q3B : Below w.heap.size w w3 := qB hb; have q3z := hb.size; (try simp at q3z); have q3t : w.heap.size ≤ w3.heap.size := (by omega); have q3s0 : w1.heap.size < w3.heap.size := (by omega); obtain ⟨q3n0_0, q3n0_1, q3n0_2⟩ := kN q3s0; obtain ⟨q3c0_0, q3c0_1, q3f0⟩ := kC2 hb w1.heap.size; simp [go_sem, *] at q3c0_0 q3c0_1 q3f0; have q3s1 : w1.heap.size + 1 < w3.heap.size := (by omega); obtain ⟨q3n1_0, q3n1_1, q3n1_2⟩ := kN q3s1; obtain ⟨q3c1_0, q3c1_1, q3f1⟩ := kC2 hb (w1.heap.size + 1); simp [go_sem, *] at q3c1_0 q3c1_1 q3f1; have q3o := belO q3B; have hbS := hb; have hbS3 := hb; clear hb) | (have q3B : Below w.heap.size w w3 := qB hb; have q3z := hb.size; (try simp at q3z); have q3t : w.heap.size ≤ w3.heap.size := (by omega); have q3s0 : w1.heap.size < w3.heap.size := (by omega); obtain ⟨q3n0_0, q3n0_1, q3n0_2⟩ := kN q3s0; obtain ⟨q3c0_0, q3c0_1, q3f0⟩ := kC2 hb w1.heap.size; simp [go_sem, *] at q3c0_0 q3c0_1 q3f0; have q3s1 : w2.heap.size < w3.heap.size := (by omega); obtain ⟨q3n1_0, q3n1_1, q3n1_2⟩ := kN q3s1; obtain ⟨q3c1_0, q3c1_1, q3f1⟩ := kC2 hb w2.heap.size; simp [go_sem, *] at q3c1_0 q3c1_1 q3f1; have q3o := belO q3B; have hbS := hb; have hbS3 := hb; clear hb) | (have q3B : Below w.heap.size w w3 := qB hb; have q3z := hb.size; (try simp at q3z); have q3t : w.heap.size ≤ w3.heap.size := (by omega); have q3s0 : w1.heap.size < w3.heap.size := (by omega); obtain ⟨q3n0_0, q3n0_1, q3n0_2⟩ := kN q3s0; obtain ⟨q3c0_0, q3c0_1, q3f0⟩ := kC2 hb w1.heap.size; simp [go_sem, *] at q3c0_0 q3c0_1 q3f0; have q3o := belO q3B; have hbS := hb; have hbS3 := hb; clear hb)))
      refine hK.out _ _ ?_ (fun hHeld => ?_)
      ·exact sbT
      clear hK K
      (try simp only [Act.put, putS])
      refine oS (i := 3) #[true, true, true, true, false, false, true, false, false] rfl hHeld ?_
      (try simp only [Act.put, putS])
      refine oS (i := 4) #[true, true, true, true, true, false, true, false, false] rfl hHeld ?_
      (try simp only [Act.put, putS])
      refine oS (i := 5) (preB 7 2) rfl hHeld ?_
      (try simp only [Act.put, putS])
      refine wpAnyH_ready (rs := [7]) (by kernel_rfl) (by simp) ?_
      refine ord_run (i := 7) (preB 8 1) rfl (by kernel_rfl) (by rfl) (fun K hK => ?_) AllReadyH.nil
      go_simp
      refine hK.out _ _ ?_ (fun hHeld => ?_)
      ·exact sbT
      clear hK K
      (try simp only [Act.put, putS])
      refine oS (i := 8) (preB 9 0) rfl hHeld ?_
      (try simp only [Act.put, putS])
      refine wpAnyH_done (by kernel_rfl) ?_ _
      go_wp2_with fail; go_meet; exact ⟨_, hiW q, loW q, rfl, ⟨_, rfl⟩, belT, (by simp; omega), ⟨(by simp [go_sem, *]), (by simp [go_sem, *])⟩, ⟨(by first | omega | (simp <;> omega)), (by first | omega | (simp <;> omega))⟩, ⟨(by simp [go_sem, *]), (by simp [go_sem, *]), (by simp [go_sem, *])⟩⟩
     exact AllReadyH.nil
    case rest =>
     obtain ⟨g, a, b, rfl, ⟨c, rfl⟩, hB, hz, ⟨cg0, cg1⟩, ⟨hg, hgn⟩, ⟨cr0, cr1, crf⟩⟩ := hcut
     have hgk : ¬ w1.heap.size = g := fun h => hgn h.symm
     go_wp2_with fail
     refine (HI.out _).mono ?_
     rintro e w5 ⟨rfl, hb⟩
     rw [HB0.out]
     have hb5 := hb
     have hz5 : w.heap.size ≤ w5.heap.size := by have := hb.size; have := hB.size; simp at *; omega
     go_wp2_with fail
     refine bodyPost_ret (by simp [results, Tryz.results117, go_sem, *] <;> rfl) rfl ⟨?_, ?_⟩
     ·rw [HE1.out]
     ·exact Below.trans (Below.trans hB belT) (hb5.mono (by have := hB.size; simp; omega))
   ·have HMD := hide (show decide (mr q r = 1) = false from decide_eq_false hm1)
    have hq0 : y = q := by have := HE.out; have := HM.out; omega
    subst hq0
    clear hm1
    have HB0 := hide hb0
    clear hb0
    go_enter Tryz.func117, Tryz.ntmps117
    go_wp2_with fail
    refine (rrvalid6 _).mono ?_
    rintro e w0 ⟨rfl, rfl⟩
    go_wp2_with fail
    refine (HD.out _).mono ?_
    rintro e w1 ⟨rfl, hb⟩
    have q1B : Below w.heap.size w w1 := qB hb
    have q1z := hb.size
    try simp at q1z
    have q1t : w.heap.size ≤ w1.heap.size := (by omega)
    obtain ⟨q1s0, q1n0_0, q1n0_1, q1n0_2⟩ := kB w1.heap.size w.heap.size
    obtain ⟨q1c0_0, q1c0_1, q1f0⟩ := kC2 hb w.heap.size
    simp [go_sem, *] at q1c0_0 q1c0_1 q1f0
    have q1o := belO q1B
    clear hb
    go_wp2_with fail
    refine (rup_any y r _ _ (by first | exact bq_eq _ | rfl | simp) r0 r1 _).mono ?_
    rintro e w0 ⟨rfl, rfl⟩
    rw [HMD.out]
    go_wp2_with fail
    refine (HI.out _).mono ?_
    rintro e w5 ⟨rfl, hb⟩
    rw [HB0.out]
    have q5B : Below w.heap.size w w5 := qB hb
    have q5z := hb.size
    try simp at q5z
    have q5t : w.heap.size ≤ w5.heap.size := (by omega)
    obtain ⟨q5s0, q5n0_0, q5n0_1, q5n0_2⟩ := kB w5.heap.size w1.heap.size
    obtain ⟨q5c0_0, q5c0_1, q5f0⟩ := kC2 hb w1.heap.size
    simp [go_sem, *] at q5c0_0 q5c0_1 q5f0
    have q5o := belO q5B
    clear hb q1o q1f0 q1c0_1 q1c0_0 q1s0 q1z q1B
    go_wp2_with fail
    refine bodyPost_ret (by simp [results, Tryz.results117, go_sem, *] <;> rfl) rfl ⟨?_, ?_⟩
    ·rw [HE1.out]
    (repeat (first | (with_reducible first | exact Below.refl _ _ | assumption | refine Below.drew ?_) | ((with_reducible first | refine Below.alloc ?_ ?_ _ | refine Below.setCell ?_ ?_ _); rotate_left; (first | omega | (simp <;> omega)))))
  ·subst hr0
   have hq0 : y = q := by have := HE.out; rw [mr_zero] at this; omega
   subst hq0
   have HB0 := hide hb0
   clear hb0
   go_enter Tryz.func117, Tryz.ntmps117
   go_wp2_with fail
   refine (rrvalid6 _).mono ?_
   rintro e w0 ⟨rfl, rfl⟩
   go_wp2_with fail
   refine (HD.out _).mono ?_
   rintro e w1 ⟨rfl, hb⟩
   have q1B : Below w.heap.size w w1 := qB hb
   have q1z := hb.size
   try simp at q1z
   have q1t : w.heap.size ≤ w1.heap.size := (by omega)
   obtain ⟨q1s0, q1n0_0, q1n0_1, q1n0_2⟩ := kB w1.heap.size w.heap.size
   obtain ⟨q1c0_0, q1c0_1, q1f0⟩ := kC2 hb w.heap.size
   simp [go_sem, *] at q1c0_0 q1c0_1 q1f0
   have q1o := belO q1B
   clear hb
   go_wp2_with fail
   refine (HI.out _).mono ?_
   rintro e w5 ⟨rfl, hb⟩
   rw [HB0.out]
   have q5B : Below w.heap.size w w5 := qB hb
   have q5z := hb.size
   try simp at q5z
   have q5t : w.heap.size ≤ w5.heap.size := (by omega)
   obtain ⟨q5s0, q5n0_0, q5n0_1, q5n0_2⟩ := kB w5.heap.size w1.heap.size
   obtain ⟨q5c0_0, q5c0_1, q5f0⟩ := kC2 hb w1.heap.size
   simp [go_sem, *] at q5c0_0 q5c0_1 q5f0
   have q5o := belO q5B
   clear hb q1o q1f0 q1c0_1 q1c0_0 q1s0 q1z q1B
   go_wp2_with fail
   refine bodyPost_ret (by simp [results, Tryz.results117, go_sem, *] <;> rfl) rfl ⟨?_, ?_⟩
   ·rw [HE1.out]
   (repeat (first | (with_reducible first | exact Below.refl _ _ | assumption | refine Below.drew ?_) | ((with_reducible first | refine Below.alloc ?_ ?_ _ | refine Below.setCell ?_ ?_ _); rotate_left; (first | omega | (simp <;> omega)))))
 | false =>
  have HE1 := hide (show dvE x = 6 from by rw [HEy.out, hb0]; rfl)
  have HIV := hide (iV_no hb0)
  rcases Int.lt_or_eq_of_le r0 with hr0 | hr0
  ·by_cases hm1 : mr q r = 1
   ·have HMD := hide (show decide (mr q r = 1) = true from decide_eq_true hm1)
    have HF := hide (show fitR (q + 1) = y from by rw [← hm1, HE.out]; exact fitR_of HY.out)
    clear hm1
    have HB0 := hide hb0
    clear hb0
    go_enter Tryz.func117, Tryz.ntmps117
    go_wp2_with fail
    refine (rrvalid6 _).mono ?_
    rintro e w0 ⟨rfl, rfl⟩
    go_wp2_with fail
    refine (HD.out _).mono ?_
    rintro e w1 ⟨rfl, hb⟩
    have q1B : Below w.heap.size w w1 := qB hb
    have q1z := hb.size
    try simp at q1z
    have q1t : w.heap.size ≤ w1.heap.size := (by omega)
    obtain ⟨q1s0, q1n0_0, q1n0_1, q1n0_2⟩ := kB w1.heap.size w.heap.size
    obtain ⟨q1c0_0, q1c0_1, q1f0⟩ := kC2 hb w.heap.size
    simp [go_sem, *] at q1c0_0 q1c0_1 q1f0
    have q1o := belO q1B
    clear hb
    go_wp2_with fail
    refine (rup_any q r _ _ (by first | exact bq_eq _ | rfl | simp) r0 r1 _).mono ?_
    rintro e w0 ⟨rfl, rfl⟩
    rw [HMD.out]
    go_upto_region 5 with fail
    go_cut [11, 12] (fun v11 v12 wx => RdCut y w w1.heap.size v11 v12 wx)
    case first =>
     refine ord_start (SB (w1.heap.size + 1) [] _) 9 (preB 0 9) (by kernel_rfl) (by kernel_rfl) (by kernel_rfl) SB.refl.drew (fun hHeld => ?_)
     refine oS (i := 0) (preB 1 8) rfl hHeld ?_
     (try simp only [Act.put, putS])
     refine wpAnyH_ready (rs := [1, 6]) (by kernel_rfl) (by simp) ?_
     refine ord_run (i := 1) (preB 2 7) rfl (by kernel_rfl) (by rfl) (fun K hK => ?_) ?_
     ·go_simp
      go_wp2_with (go_at_call 63; refine (rof_any 1 (by decide) (by decide) _).mono ?_; rintro e w2 ⟨rfl, hb⟩; (first | (have q2B : Below w.heap.size w w2 := qB hb; have q2z := hb.size; (try simp at q2z); have q2t : w.heap.size ≤ w2.heap.size := (by omega); have q2s0 : w1.heap.size < w2.heap.size := (by omega); obtain ⟨q2n0_0, q2n0_1, q2n0_2⟩ := kN q2s0; obtain ⟨q2c0_0, q2c0_1, q2f0⟩ := kC2 hb w1.heap.size; simp [go_sem, *] at q2c0_0 q2c0_1 q2f0; have q2s1 : w1.heap.size + 1 < w2.heap.size := (by omega); obtain ⟨q2n1_0, q2n1_1, q2n1_2⟩ := kN q2s1; obtain ⟨q2c1_0, q2c1_1, q2f1⟩ := kC2 hb (w1.heap.size + 1); simp [go_sem, *] at q2c1_0 q2c1_1 q2f1; have q2o := belO q2B; have hbS := hb; have hbS2 := hb; clear hb) | (have q2B : Below w.heap.size w w2 := qB hb; have q2z := hb.size; (try simp at q2z); have q2t : w.heap.size ≤ w2.heap.size := (by omega); have q2s0 : w1.heap.size < w2.heap.size := (by omega); obtain ⟨q2n0_0, q2n0_1, q2n0_2⟩ := kN q2s0; obtain ⟨q2c0_0, q2c0_1, q2f0⟩ := kC2 hb w1.heap.size; simp [go_sem, *] at q2c0_0 q2c0_1 q2f0; have q2o := belO q2B; have hbS := hb; have hbS2 := hb; clear hb)))
      refine hK.out _ _ ?_ (fun hHeld => ?_)
      ·exact sbT
      clear hK K
      (try simp only [Act.put, putS])
      refine wpAnyH_ready (rs := [2, 6]) (by kernel_rfl) (by simp) ?_
      refine ord_run (i := 2) (preB 3 6) rfl (by kernel_rfl) (by rfl) (fun K hK => ?_) ?_
      ·go_simp
       go_wp2_with (go_at_call 31; refine (radd_any q 1 HQ.out (by unfold WIn; omega) _).mono ?_; rintro e w3 ⟨rfl, hb⟩; rw [HF.out]; (first | (have q3B : Below w.heap.size w w3 := qB hb; have q3z := hb.size; (try simp at q3z); have q3t : w.heap.size ≤ w3.heap.size := (by omega); have q3s0 : w1.heap.size < w3.heap.size := (by omega); obtain ⟨q3n0_0, q3n0_1, q3n0_2⟩ := kN q3s0; obtain ⟨q3c0_0, q3c0_1, q3f0⟩ := kC2 hb w1.heap.size; simp [go_sem, *] at q3c0_0 q3c0_1 q3f0; have q3s1 : w1.heap.size + 1 < w3.heap.size := (by omega); obtain ⟨q3n1_0, q3n1_1, q3n1_2⟩ := kN q3s1; obtain ⟨q3c1_0, q3c1_1, q3f1⟩ := kC2 hb (w1.heap.size + 1); simp [go_sem, *] at q3c1_0 q3c1_1 q3f1; have q3o := belO q3B; have hbS := hb; have hbS3 := hb; clear hb) | (have q3B : Below w.heap.size w w3 := qB hb; have q3z := hb.size; (try simp at q3z); have q3t : w.heap.size ≤ w3.heap.size := (by omega); have q3s0 : w1.heap.size < w3.heap.size := (by omega); obtain ⟨q3n0_0, q3n0_1, q3n0_2⟩ := kN q3s0; obtain ⟨q3c0_0, q3c0_1, q3f0⟩ := kC2 hb w1.heap.size; simp [go_sem, *] at q3c0_0 q3c0_1 q3f0; have q3s1 : w2.heap.size < w3.heap.size := (by omega); obtain ⟨q3n1_0, q3n1_1, q3n1_2⟩ := kN q3s1; obtain ⟨q3c1_0, q3c1_1, q3f1⟩ := kC2 hb w2.heap.size; simp [go_sem, *] at q3c1_0 q3c1_1 q3f1; have q3o := belO q3B; have hbS := hb; have hbS3 := hb; clear hb) | (have q3B : Below w.heap.size w w3 := qB hb; have q3z := hb.size; (try simp at q3z); have q3t : w.heap.size ≤ w3.heap.size := (by omega); have q3s0 : w1.heap.size < w3.heap.size := (by omega); obtain ⟨q3n0_0, q3n0_1, q3n0_2⟩ := kN q3s0; obtain ⟨q3c0_0, q3c0_1, q3f0⟩ := kC2 hb w1.heap.size; simp [go_sem, *] at q3c0_0 q3c0_1 q3f0; have q3o := belO q3B; have hbS := hb; have hbS3 := hb; clear hb)))
       refine hK.out _ _ ?_ (fun hHeld => ?_)
       ·exact sbT
       clear hK K
       (try simp only [Act.put, putS])
       refine oS (i := 3) (preB 4 5) rfl hHeld ?_
       (try simp only [Act.put, putS])
       refine oS (i := 4) (preB 5 4) rfl hHeld ?_
       (try simp only [Act.put, putS])
       refine oS (i := 5) (preB 6 3) rfl hHeld ?_
       (try simp only [Act.put, putS])
       refine wpAnyH_ready (rs := [6]) (by kernel_rfl) (by simp) ?_
       refine ord_run (i := 6) (preB 7 2) rfl (by kernel_rfl) (by rfl) (fun K hK => ?_) AllReadyH.nil
       go_simp
       refine hK.out _ _ ?_ (fun hHeld => ?_)
       ·exact sbT
       clear hK K
       (try simp only [Act.put, putS])
       refine wpAnyH_ready (rs := [7]) (by kernel_rfl) (by simp) ?_
       refine ord_run (i := 7) (preB 8 1) rfl (by kernel_rfl) (by rfl) (fun K hK => ?_) AllReadyH.nil
       go_simp
       refine hK.out _ _ ?_ (fun hHeld => ?_)
       ·exact sbT
       clear hK K
       (try simp only [Act.put, putS])
       refine oS (i := 8) (preB 9 0) rfl hHeld ?_
       (try simp only [Act.put, putS])
       refine wpAnyH_done (by kernel_rfl) ?_ _
       go_wp2_with fail; go_meet; exact ⟨_, hiW q, loW q, rfl, ⟨_, rfl⟩, belT, (by simp; omega), ⟨(by simp [go_sem, *]), (by simp [go_sem, *])⟩, ⟨(by first | omega | (simp <;> omega)), (by first | omega | (simp <;> omega))⟩, ⟨(by simp [go_sem, *]), (by simp [go_sem, *]), (by simp [go_sem, *])⟩⟩
      refine ord_run (i := 6) #[true, true, false, false, false, false, true, false, false] rfl (by kernel_rfl) (by rfl) (fun K hK => ?_) ?_
      ·go_simp
       refine hK.out _ _ ?_ (fun hHeld => ?_)
       ·exact sbT
       clear hK K
       (try simp only [Act.put, putS])
       refine wpAnyH_ready (rs := [2]) (by kernel_rfl) (by simp) ?_
       refine ord_run (i := 2) #[true, true, true, false, false, false, true, false, false] rfl (by kernel_rfl) (by rfl) (fun K hK => ?_) AllReadyH.nil
       go_simp
       go_wp2_with (go_at_call 31; refine (radd_any q 1 HQ.out (by unfold WIn; omega) _).mono ?_; rintro e w3 ⟨rfl, hb⟩; rw [HF.out]; (first | (have q3B : Below w.heap.size w w3 := qB hb; have q3z := hb.size; (try simp at q3z); have q3t : w.heap.size ≤ w3.heap.size := (by omega); have q3s0 : w1.heap.size < w3.heap.size := (by omega); obtain ⟨q3n0_0, q3n0_1, q3n0_2⟩ := kN q3s0; obtain ⟨q3c0_0, q3c0_1, q3f0⟩ := kC2 hb w1.heap.size; simp [go_sem, *] at q3c0_0 q3c0_1 q3f0; have q3s1 : w1.heap.size + 1 < w3.heap.size := (by omega); obtain ⟨q3n1_0, q3n1_1, q3n1_2⟩ := kN q3s1; obtain ⟨q3c1_0, q3c1_1, q3f1⟩ := kC2 hb (w1.heap.size + 1); simp [go_sem, *] at q3c1_0 q3c1_1 q3f1; have q3o := belO q3B; have hbS := hb; have hbS3 := hb; clear hb) | (have q3B : Below w.heap.size w w3 := qB hb; have q3z := hb.size; (try simp at q3z); have q3t : w.heap.size ≤ w3.heap.size := (by omega); have q3s0 : w1.heap.size < w3.heap.size := (by omega); obtain ⟨q3n0_0, q3n0_1, q3n0_2⟩ := kN q3s0; obtain ⟨q3c0_0, q3c0_1, q3f0⟩ := kC2 hb w1.heap.size; simp [go_sem, *] at q3c0_0 q3c0_1 q3f0; have q3s1 : w2.heap.size < w3.heap.size := (by omega); obtain ⟨q3n1_0, q3n1_1, q3n1_2⟩ := kN q3s1; obtain ⟨q3c1_0, q3c1_1, q3f1⟩ := kC2 hb w2.heap.size; simp [go_sem, *] at q3c1_0 q3c1_1 q3f1; have q3o := belO q3B; have hbS := hb; have hbS3 := hb; clear hb) | (have q3B : Below w.heap.size w w3 := qB hb; have q3z := hb.size; (try simp at q3z); have q3t : w.heap.size ≤ w3.heap.size := (by omega); have q3s0 : w1.heap.size < w3.heap.size := (by omega); obtain ⟨q3n0_0, q3n0_1, q3n0_2⟩ := kN q3s0; obtain ⟨q3c0_0, q3c0_1, q3f0⟩ := kC2 hb w1.heap.size; simp [go_sem, *] at q3c0_0 q3c0_1 q3f0; have q3o := belO q3B; have hbS := hb; have hbS3 := hb; clear hb)))
       refine hK.out _ _ ?_ (fun hHeld => ?_)
       ·exact sbT
       clear hK K
       (try simp only [Act.put, putS])
       refine oS (i := 3) #[true, true, true, true, false, false, true, false, false] rfl hHeld ?_
       (try simp only [Act.put, putS])
       refine oS (i := 4) #[true, true, true, true, true, false, true, false, false] rfl hHeld ?_
       (try simp only [Act.put, putS])
       refine oS (i := 5) (preB 7 2) rfl hHeld ?_
       (try simp only [Act.put, putS])
       refine wpAnyH_ready (rs := [7]) (by kernel_rfl) (by simp) ?_
       refine ord_run (i := 7) (preB 8 1) rfl (by kernel_rfl) (by rfl) (fun K hK => ?_) AllReadyH.nil
       go_simp
       refine hK.out _ _ ?_ (fun hHeld => ?_)
       ·exact sbT
       clear hK K
       (try simp only [Act.put, putS])
       refine oS (i := 8) (preB 9 0) rfl hHeld ?_
       (try simp only [Act.put, putS])
       refine wpAnyH_done (by kernel_rfl) ?_ _
       go_wp2_with fail; go_meet; exact ⟨_, hiW q, loW q, rfl, ⟨_, rfl⟩, belT, (by simp; omega), ⟨(by simp [go_sem, *]), (by simp [go_sem, *])⟩, ⟨(by first | omega | (simp <;> omega)), (by first | omega | (simp <;> omega))⟩, ⟨(by simp [go_sem, *]), (by simp [go_sem, *]), (by simp [go_sem, *])⟩⟩
      exact AllReadyH.nil
     refine ord_run (i := 6) #[true, false, false, false, false, false, true, false, false] rfl (by kernel_rfl) (by rfl) (fun K hK => ?_) ?_
     ·go_simp
      refine hK.out _ _ ?_ (fun hHeld => ?_)
      ·exact sbT
      clear hK K
      (try simp only [Act.put, putS])
      refine wpAnyH_ready (rs := [1]) (by kernel_rfl) (by simp) ?_
      refine ord_run (i := 1) #[true, true, false, false, false, false, true, false, false] rfl (by kernel_rfl) (by rfl) (fun K hK => ?_) AllReadyH.nil
      go_simp
      go_wp2_with (go_at_call 63; refine (rof_any 1 (by decide) (by decide) _).mono ?_; rintro e w2 ⟨rfl, hb⟩; (first | (have q2B : Below w.heap.size w w2 := qB hb; have q2z := hb.size; (try simp at q2z); have q2t : w.heap.size ≤ w2.heap.size := (by omega); have q2s0 : w1.heap.size < w2.heap.size := (by omega); obtain ⟨q2n0_0, q2n0_1, q2n0_2⟩ := kN q2s0; obtain ⟨q2c0_0, q2c0_1, q2f0⟩ := kC2 hb w1.heap.size; simp [go_sem, *] at q2c0_0 q2c0_1 q2f0; have q2s1 : w1.heap.size + 1 < w2.heap.size := (by omega); obtain ⟨q2n1_0, q2n1_1, q2n1_2⟩ := kN q2s1; obtain ⟨q2c1_0, q2c1_1, q2f1⟩ := kC2 hb (w1.heap.size + 1); simp [go_sem, *] at q2c1_0 q2c1_1 q2f1; have q2o := belO q2B; have hbS := hb; have hbS2 := hb; clear hb) | (have q2B : Below w.heap.size w w2 := qB hb; have q2z := hb.size; (try simp at q2z); have q2t : w.heap.size ≤ w2.heap.size := (by omega); have q2s0 : w1.heap.size < w2.heap.size := (by omega); obtain ⟨q2n0_0, q2n0_1, q2n0_2⟩ := kN q2s0; obtain ⟨q2c0_0, q2c0_1, q2f0⟩ := kC2 hb w1.heap.size; simp [go_sem, *] at q2c0_0 q2c0_1 q2f0; have q2o := belO q2B; have hbS := hb; have hbS2 := hb; clear hb)))
      refine hK.out _ _ ?_ (fun hHeld => ?_)
      ·exact sbT
      clear hK K
      (try simp only [Act.put, putS])
      refine wpAnyH_ready (rs := [2]) (by kernel_rfl) (by simp) ?_
      refine ord_run (i := 2) #[true, true, true, false, false, false, true, false, false] rfl (by kernel_rfl) (by rfl) (fun K hK => ?_) AllReadyH.nil
      go_simp
      go_wp2_with (go_at_call 31; refine (radd_any q 1 HQ.out (by unfold WIn; omega) _).mono ?_; rintro e w3 ⟨rfl, hb⟩; rw [HF.out]; (first | (have q3B : Below w.heap.size w w3 := qB hb; have q3z := hb.size; (try simp at q3z); have q3t : w.heap.size ≤ w3.heap.size := (by omega); have q3s0 : w1.heap.size < w3.heap.size := (by omega); obtain ⟨q3n0_0, q3n0_1, q3n0_2⟩ := kN q3s0; obtain ⟨q3c0_0, q3c0_1, q3f0⟩ := kC2 hb w1.heap.size; simp [go_sem, *] at q3c0_0 q3c0_1 q3f0; have q3s1 : w1.heap.size + 1 < w3.heap.size := (by omega); obtain ⟨q3n1_0, q3n1_1, q3n1_2⟩ := kN q3s1; obtain ⟨q3c1_0, q3c1_1, q3f1⟩ := kC2 hb (w1.heap.size + 1); simp [go_sem, *] at q3c1_0 q3c1_1 q3f1; have q3o := belO q3B; have hbS := hb; have hbS3 := hb; clear hb) | (have q3B : Below w.heap.size w w3 := qB hb; have q3z := hb.size; (try simp at q3z); have q3t : w.heap.size ≤ w3.heap.size := (by omega); have q3s0 : w1.heap.size < w3.heap.size := (by omega); obtain ⟨q3n0_0, q3n0_1, q3n0_2⟩ := kN q3s0; obtain ⟨q3c0_0, q3c0_1, q3f0⟩ := kC2 hb w1.heap.size; simp [go_sem, *] at q3c0_0 q3c0_1 q3f0; have q3s1 : w2.heap.size < w3.heap.size := (by omega); obtain ⟨q3n1_0, q3n1_1, q3n1_2⟩ := kN q3s1; obtain ⟨q3c1_0, q3c1_1, q3f1⟩ := kC2 hb w2.heap.size; simp [go_sem, *] at q3c1_0 q3c1_1 q3f1; have q3o := belO q3B; have hbS := hb; have hbS3 := hb; clear hb) | (have q3B : Below w.heap.size w w3 := qB hb; have q3z := hb.size; (try simp at q3z); have q3t : w.heap.size ≤ w3.heap.size := (by omega); have q3s0 : w1.heap.size < w3.heap.size := (by omega); obtain ⟨q3n0_0, q3n0_1, q3n0_2⟩ := kN q3s0; obtain ⟨q3c0_0, q3c0_1, q3f0⟩ := kC2 hb w1.heap.size; simp [go_sem, *] at q3c0_0 q3c0_1 q3f0; have q3o := belO q3B; have hbS := hb; have hbS3 := hb; clear hb)))
      refine hK.out _ _ ?_ (fun hHeld => ?_)
      ·exact sbT
      clear hK K
      (try simp only [Act.put, putS])
      refine oS (i := 3) #[true, true, true, true, false, false, true, false, false] rfl hHeld ?_
      (try simp only [Act.put, putS])
      refine oS (i := 4) #[true, true, true, true, true, false, true, false, false] rfl hHeld ?_
      (try simp only [Act.put, putS])
      refine oS (i := 5) (preB 7 2) rfl hHeld ?_
      (try simp only [Act.put, putS])
      refine wpAnyH_ready (rs := [7]) (by kernel_rfl) (by simp) ?_
      refine ord_run (i := 7) (preB 8 1) rfl (by kernel_rfl) (by rfl) (fun K hK => ?_) AllReadyH.nil
      go_simp
      refine hK.out _ _ ?_ (fun hHeld => ?_)
      ·exact sbT
      clear hK K
      (try simp only [Act.put, putS])
      refine oS (i := 8) (preB 9 0) rfl hHeld ?_
      (try simp only [Act.put, putS])
      refine wpAnyH_done (by kernel_rfl) ?_ _
      go_wp2_with fail; go_meet; exact ⟨_, hiW q, loW q, rfl, ⟨_, rfl⟩, belT, (by simp; omega), ⟨(by simp [go_sem, *]), (by simp [go_sem, *])⟩, ⟨(by first | omega | (simp <;> omega)), (by first | omega | (simp <;> omega))⟩, ⟨(by simp [go_sem, *]), (by simp [go_sem, *]), (by simp [go_sem, *])⟩⟩
     exact AllReadyH.nil
    case rest =>
     obtain ⟨g, a, b, rfl, ⟨c, rfl⟩, hB, hz, ⟨cg0, cg1⟩, ⟨hg, hgn⟩, ⟨cr0, cr1, crf⟩⟩ := hcut
     have hgk : ¬ w1.heap.size = g := fun h => hgn h.symm
     go_wp2_with fail
     refine (HI.out _).mono ?_
     rintro e w5 ⟨rfl, hb⟩
     rw [HB0.out]
     have hb5 := hb
     have hz5 : w.heap.size ≤ w5.heap.size := by have := hb.size; have := hB.size; simp at *; omega
     go_wp2_with fail
     refine bodyPost_ret (by simp [results, Tryz.results117, go_sem, *] <;> rfl) rfl ⟨?_, ?_⟩
     ·rw [HE1.out, HIV.out]
     ·exact Below.trans (Below.trans hB belT) (hb5.mono (by have := hB.size; simp; omega))
   ·have HMD := hide (show decide (mr q r = 1) = false from decide_eq_false hm1)
    have hq0 : y = q := by have := HE.out; have := HM.out; omega
    subst hq0
    clear hm1
    have HB0 := hide hb0
    clear hb0
    go_enter Tryz.func117, Tryz.ntmps117
    go_wp2_with fail
    refine (rrvalid6 _).mono ?_
    rintro e w0 ⟨rfl, rfl⟩
    go_wp2_with fail
    refine (HD.out _).mono ?_
    rintro e w1 ⟨rfl, hb⟩
    have q1B : Below w.heap.size w w1 := qB hb
    have q1z := hb.size
    try simp at q1z
    have q1t : w.heap.size ≤ w1.heap.size := (by omega)
    obtain ⟨q1s0, q1n0_0, q1n0_1, q1n0_2⟩ := kB w1.heap.size w.heap.size
    obtain ⟨q1c0_0, q1c0_1, q1f0⟩ := kC2 hb w.heap.size
    simp [go_sem, *] at q1c0_0 q1c0_1 q1f0
    have q1o := belO q1B
    clear hb
    go_wp2_with fail
    refine (rup_any y r _ _ (by first | exact bq_eq _ | rfl | simp) r0 r1 _).mono ?_
    rintro e w0 ⟨rfl, rfl⟩
    rw [HMD.out]
    go_wp2_with fail
    refine (HI.out _).mono ?_
    rintro e w5 ⟨rfl, hb⟩
    rw [HB0.out]
    have q5B : Below w.heap.size w w5 := qB hb
    have q5z := hb.size
    try simp at q5z
    have q5t : w.heap.size ≤ w5.heap.size := (by omega)
    obtain ⟨q5s0, q5n0_0, q5n0_1, q5n0_2⟩ := kB w5.heap.size w1.heap.size
    obtain ⟨q5c0_0, q5c0_1, q5f0⟩ := kC2 hb w1.heap.size
    simp [go_sem, *] at q5c0_0 q5c0_1 q5f0
    have q5o := belO q5B
    clear hb q1o q1f0 q1c0_1 q1c0_0 q1s0 q1z q1B
    go_wp2_with fail
    refine bodyPost_ret (by simp [results, Tryz.results117, go_sem, *] <;> rfl) rfl ⟨?_, ?_⟩
    ·rw [HE1.out, HIV.out]
    (repeat (first | (with_reducible first | exact Below.refl _ _ | assumption | refine Below.drew ?_) | ((with_reducible first | refine Below.alloc ?_ ?_ _ | refine Below.setCell ?_ ?_ _); rotate_left; (first | omega | (simp <;> omega)))))
  ·subst hr0
   have hq0 : y = q := by have := HE.out; rw [mr_zero] at this; omega
   subst hq0
   have HB0 := hide hb0
   clear hb0
   go_enter Tryz.func117, Tryz.ntmps117
   go_wp2_with fail
   refine (rrvalid6 _).mono ?_
   rintro e w0 ⟨rfl, rfl⟩
   go_wp2_with fail
   refine (HD.out _).mono ?_
   rintro e w1 ⟨rfl, hb⟩
   have q1B : Below w.heap.size w w1 := qB hb
   have q1z := hb.size
   try simp at q1z
   have q1t : w.heap.size ≤ w1.heap.size := (by omega)
   obtain ⟨q1s0, q1n0_0, q1n0_1, q1n0_2⟩ := kB w1.heap.size w.heap.size
   obtain ⟨q1c0_0, q1c0_1, q1f0⟩ := kC2 hb w.heap.size
   simp [go_sem, *] at q1c0_0 q1c0_1 q1f0
   have q1o := belO q1B
   clear hb
   go_wp2_with fail
   refine (HI.out _).mono ?_
   rintro e w5 ⟨rfl, hb⟩
   rw [HB0.out]
   have q5B : Below w.heap.size w w5 := qB hb
   have q5z := hb.size
   try simp at q5z
   have q5t : w.heap.size ≤ w5.heap.size := (by omega)
   obtain ⟨q5s0, q5n0_0, q5n0_1, q5n0_2⟩ := kB w5.heap.size w1.heap.size
   obtain ⟨q5c0_0, q5c0_1, q5f0⟩ := kC2 hb w1.heap.size
   simp [go_sem, *] at q5c0_0 q5c0_1 q5f0
   have q5o := belO q5B
   clear hb q1o q1f0 q1c0_1 q1c0_0 q1s0 q1z q1B
   go_wp2_with fail
   refine bodyPost_ret (by simp [results, Tryz.results117, go_sem, *] <;> rfl) rfl ⟨?_, ?_⟩
   ·rw [HE1.out, HIV.out]
   (repeat (first | (with_reducible first | exact Below.refl _ _ | assumption | refine Below.drew ?_) | ((with_reducible first | refine Below.alloc ?_ ?_ _ | refine Below.setCell ?_ ?_ _); rotate_left; (first | omega | (simp <;> omega)))))
set_option maxHeartbeats 4000000 in
theorem ramount_any (x : Int) (hx : WIn x) (w : World) : Calls Tryz.prog 73 #[.agg #[.int .i64 (hiW x), .int .u64 (loW x)], .int .i64 6] w (AmRet x w) := by
 have HD := hide (rrdiv_any x hx)
 obtain ⟨n, hn⟩ : ∃ n, n = iV (rnd x) := ⟨_, rfl⟩
 obtain ⟨E, hE⟩ : ∃ E, E = dvE x := ⟨_, rfl⟩
 rw [← hn, ← hE] at HD
 by_cases hb : iB (rnd x) = true
 ·have he : E = 0 := by rw [hE]; exact if_pos hb
  have hy : n = rnd x := by rw [hn]; exact if_pos (of_decide_eq_true hb)
  have hnb : -9223372036854775808 ≤ n ∧ n ≤ 9223372036854775807 := by rw [hy]; exact of_decide_eq_true hb
  subst he
  by_cases hg : -1000000000000 ≤ n ∧ n ≤ 1000000000000
  ·have HG := hide (decide_eq_true hg)
   have HV := hide (show raE x = 0 ∧ raV x = n from by have := am_yes (x := x) (by rw [← hy]; exact hg); rw [hy]; exact this)
   have HX := hide hx
   have n1 := hnb.1
   have n2 := hnb.2
   clear hn hE hy hb hg hnb hx
   go_enter Tryz.func73, Tryz.ntmps73
   go_wp2_with fail
   refine (HD.out _).mono ?_
   rintro e w1 ⟨rfl, hb⟩
   have q1B : Below w.heap.size w w1 := qB hb
   have q1z := hb.size
   try simp at q1z
   have q1t : w.heap.size ≤ w1.heap.size := (by omega)
   obtain ⟨q1s0, q1n0_0, q1n0_1, q1n0_2⟩ := kB w1.heap.size w.heap.size
   obtain ⟨q1c0_0, q1c0_1, q1f0⟩ := kC2 hb w.heap.size
   simp [go_sem, *] at q1c0_0 q1c0_1 q1f0
   obtain ⟨q1s1, q1n1_0, q1n1_1, q1n1_2⟩ := kB w1.heap.size (w.heap.size + 1)
   obtain ⟨q1c1_0, q1c1_1, q1f1⟩ := kC2 hb (w.heap.size + 1)
   simp [go_sem, *] at q1c1_0 q1c1_1 q1f1
   have q1o := belO q1B
   clear hb
   go_wp2_with fail
   refine (rgood_any n _).mono ?_
   rintro e w0 ⟨rfl, rfl⟩
   rw [HG.out]
   go_upto_region 6 with fail
   go_cut [9, 10] (fun v9 v10 wx => AmCut w v9 v10 wx)
   case first =>
    refine ord_start (SB (w1.heap.size) [] _) 10 (preB 0 10) (by kernel_rfl) (by kernel_rfl) (by kernel_rfl) SB.refl.drew (fun hHeld => ?_)
    refine oS (i := 0) (preB 1 9) rfl hHeld ?_
    (try simp only [Act.put, putS])
    refine oS (i := 1) (preB 2 8) rfl hHeld ?_
    (try simp only [Act.put, putS])
    refine wpAnyH_ready (rs := [2, 7]) (by kernel_rfl) (by simp) ?_
    refine ord_run (i := 2) (preB 3 7) rfl (by kernel_rfl) (by rfl) (fun K hK => ?_) ?_
    ·go_simp
     go_wp2_with (go_at_call 34; refine (rmul_any n 1603080000000 n1 n2 (by decide) (by decide) _).mono ?_; rintro e w2 ⟨rfl, hb⟩; (first | (have q2B : Below w.heap.size w w2 := qB hb; have q2z := hb.size; (try simp at q2z); have q2t : w.heap.size ≤ w2.heap.size := (by omega); have q2s0 : w.heap.size + 1 < w2.heap.size := (by omega); obtain ⟨q2n0_0, q2n0_1, q2n0_2⟩ := kN q2s0; obtain ⟨q2c0_0, q2c0_1, q2f0⟩ := kC2 hb (w.heap.size + 1); simp [go_sem, *] at q2c0_0 q2c0_1 q2f0; have q2s1 : w1.heap.size < w2.heap.size := (by omega); obtain ⟨q2n1_0, q2n1_1, q2n1_2⟩ := kN q2s1; obtain ⟨q2c1_0, q2c1_1, q2f1⟩ := kC2 hb w1.heap.size; simp [go_sem, *] at q2c1_0 q2c1_1 q2f1; have q2o := belO q2B; have hbS := hb; have hbS2 := hb; clear hb) | (have q2B : Below w.heap.size w w2 := qB hb; have q2z := hb.size; (try simp at q2z); have q2t : w.heap.size ≤ w2.heap.size := (by omega); have q2s0 : w.heap.size + 1 < w2.heap.size := (by omega); obtain ⟨q2n0_0, q2n0_1, q2n0_2⟩ := kN q2s0; obtain ⟨q2c0_0, q2c0_1, q2f0⟩ := kC2 hb (w.heap.size + 1); simp [go_sem, *] at q2c0_0 q2c0_1 q2f0; have q2o := belO q2B; have hbS := hb; have hbS2 := hb; clear hb)))
     refine hK.out _ _ ?_ (fun hHeld => ?_)
     ·exact sbT
     clear hK K
     (try simp only [Act.put, putS])
     refine wpAnyH_ready (rs := [3, 7]) (by kernel_rfl) (by simp) ?_
     refine ord_run (i := 3) (preB 4 6) rfl (by kernel_rfl) (by rfl) (fun K hK => ?_) ?_
     ·go_simp
      go_wp2_with (go_at_call 53; refine (rsub_any x (n * 1603080000000) HX.out (mul_win n1 n2 (by decide) (by decide)) _).mono ?_; rintro e w3 ⟨rfl, hb⟩; (first | (have q3B : Below w.heap.size w w3 := qB hb; have q3z := hb.size; (try simp at q3z); have q3t : w.heap.size ≤ w3.heap.size := (by omega); have q3s0 : w.heap.size + 1 < w3.heap.size := (by omega); obtain ⟨q3n0_0, q3n0_1, q3n0_2⟩ := kN q3s0; obtain ⟨q3c0_0, q3c0_1, q3f0⟩ := kC2 hb (w.heap.size + 1); simp [go_sem, *] at q3c0_0 q3c0_1 q3f0; have q3s1 : w1.heap.size < w3.heap.size := (by omega); obtain ⟨q3n1_0, q3n1_1, q3n1_2⟩ := kN q3s1; obtain ⟨q3c1_0, q3c1_1, q3f1⟩ := kC2 hb w1.heap.size; simp [go_sem, *] at q3c1_0 q3c1_1 q3f1; have q3o := belO q3B; have hbS := hb; have hbS3 := hb; clear hb) | (have q3B : Below w.heap.size w w3 := qB hb; have q3z := hb.size; (try simp at q3z); have q3t : w.heap.size ≤ w3.heap.size := (by omega); have q3s0 : w.heap.size + 1 < w3.heap.size := (by omega); obtain ⟨q3n0_0, q3n0_1, q3n0_2⟩ := kN q3s0; obtain ⟨q3c0_0, q3c0_1, q3f0⟩ := kC2 hb (w.heap.size + 1); simp [go_sem, *] at q3c0_0 q3c0_1 q3f0; have q3s1 : w2.heap.size < w3.heap.size := (by omega); obtain ⟨q3n1_0, q3n1_1, q3n1_2⟩ := kN q3s1; obtain ⟨q3c1_0, q3c1_1, q3f1⟩ := kC2 hb w2.heap.size; simp [go_sem, *] at q3c1_0 q3c1_1 q3f1; have q3o := belO q3B; have hbS := hb; have hbS3 := hb; clear hb) | (have q3B : Below w.heap.size w w3 := qB hb; have q3z := hb.size; (try simp at q3z); have q3t : w.heap.size ≤ w3.heap.size := (by omega); have q3s0 : w.heap.size + 1 < w3.heap.size := (by omega); obtain ⟨q3n0_0, q3n0_1, q3n0_2⟩ := kN q3s0; obtain ⟨q3c0_0, q3c0_1, q3f0⟩ := kC2 hb (w.heap.size + 1); simp [go_sem, *] at q3c0_0 q3c0_1 q3f0; have q3o := belO q3B; have hbS := hb; have hbS3 := hb; clear hb)))
      refine hK.out _ _ ?_ (fun hHeld => ?_)
      ·exact sbT
      clear hK K
      (try simp only [Act.put, putS])
      refine oS (i := 4) (preB 5 5) rfl hHeld ?_
      (try simp only [Act.put, putS])
      refine oS (i := 5) (preB 6 4) rfl hHeld ?_
      (try simp only [Act.put, putS])
      refine oS (i := 6) (preB 7 3) rfl hHeld ?_
      (try simp only [Act.put, putS])
      refine wpAnyH_ready (rs := [7]) (by kernel_rfl) (by simp) ?_
      refine ord_run (i := 7) (preB 8 2) rfl (by kernel_rfl) (by rfl) (fun K hK => ?_) AllReadyH.nil
      go_simp
      refine hK.out _ _ ?_ (fun hHeld => ?_)
      ·exact sbT
      clear hK K
      (try simp only [Act.put, putS])
      refine wpAnyH_ready (rs := [8]) (by kernel_rfl) (by simp) ?_
      refine ord_run (i := 8) (preB 9 1) rfl (by kernel_rfl) (by rfl) (fun K hK => ?_) AllReadyH.nil
      go_simp
      refine hK.out _ _ ?_ (fun hHeld => ?_)
      ·exact sbT
      clear hK K
      (try simp only [Act.put, putS])
      refine oS (i := 9) (preB 10 0) rfl hHeld ?_
      (try simp only [Act.put, putS])
      refine wpAnyH_done (by kernel_rfl) ?_ _
      go_wp2_with fail; go_meet; exact ⟨_, hiW (fitR (x - n * 1603080000000)), loW (fitR (x - n * 1603080000000)), rfl, ⟨_, rfl⟩, belT, (by simp; omega), ⟨(by simp [go_sem, *]), (by simp [go_sem, *])⟩, ⟨(by first | omega | (simp <;> omega)), (by first | omega | (simp <;> omega))⟩, ⟨(by simp [go_sem, *]), (by simp [go_sem, *]), (by simp [go_sem, *])⟩⟩
     refine ord_run (i := 7) #[true, true, true, false, false, false, false, true, false, false] rfl (by kernel_rfl) (by rfl) (fun K hK => ?_) ?_
     ·go_simp
      refine hK.out _ _ ?_ (fun hHeld => ?_)
      ·exact sbT
      clear hK K
      (try simp only [Act.put, putS])
      refine wpAnyH_ready (rs := [3]) (by kernel_rfl) (by simp) ?_
      refine ord_run (i := 3) #[true, true, true, true, false, false, false, true, false, false] rfl (by kernel_rfl) (by rfl) (fun K hK => ?_) AllReadyH.nil
      go_simp
      go_wp2_with (go_at_call 53; refine (rsub_any x (n * 1603080000000) HX.out (mul_win n1 n2 (by decide) (by decide)) _).mono ?_; rintro e w3 ⟨rfl, hb⟩; (first | (have q3B : Below w.heap.size w w3 := qB hb; have q3z := hb.size; (try simp at q3z); have q3t : w.heap.size ≤ w3.heap.size := (by omega); have q3s0 : w.heap.size + 1 < w3.heap.size := (by omega); obtain ⟨q3n0_0, q3n0_1, q3n0_2⟩ := kN q3s0; obtain ⟨q3c0_0, q3c0_1, q3f0⟩ := kC2 hb (w.heap.size + 1); simp [go_sem, *] at q3c0_0 q3c0_1 q3f0; have q3s1 : w1.heap.size < w3.heap.size := (by omega); obtain ⟨q3n1_0, q3n1_1, q3n1_2⟩ := kN q3s1; obtain ⟨q3c1_0, q3c1_1, q3f1⟩ := kC2 hb w1.heap.size; simp [go_sem, *] at q3c1_0 q3c1_1 q3f1; have q3o := belO q3B; have hbS := hb; have hbS3 := hb; clear hb) | (have q3B : Below w.heap.size w w3 := qB hb; have q3z := hb.size; (try simp at q3z); have q3t : w.heap.size ≤ w3.heap.size := (by omega); have q3s0 : w.heap.size + 1 < w3.heap.size := (by omega); obtain ⟨q3n0_0, q3n0_1, q3n0_2⟩ := kN q3s0; obtain ⟨q3c0_0, q3c0_1, q3f0⟩ := kC2 hb (w.heap.size + 1); simp [go_sem, *] at q3c0_0 q3c0_1 q3f0; have q3s1 : w2.heap.size < w3.heap.size := (by omega); obtain ⟨q3n1_0, q3n1_1, q3n1_2⟩ := kN q3s1; obtain ⟨q3c1_0, q3c1_1, q3f1⟩ := kC2 hb w2.heap.size; simp [go_sem, *] at q3c1_0 q3c1_1 q3f1; have q3o := belO q3B; have hbS := hb; have hbS3 := hb; clear hb) | (have q3B : Below w.heap.size w w3 := qB hb; have q3z := hb.size; (try simp at q3z); have q3t : w.heap.size ≤ w3.heap.size := (by omega); have q3s0 : w.heap.size + 1 < w3.heap.size := (by omega); obtain ⟨q3n0_0, q3n0_1, q3n0_2⟩ := kN q3s0; obtain ⟨q3c0_0, q3c0_1, q3f0⟩ := kC2 hb (w.heap.size + 1); simp [go_sem, *] at q3c0_0 q3c0_1 q3f0; have q3o := belO q3B; have hbS := hb; have hbS3 := hb; clear hb)))
      refine hK.out _ _ ?_ (fun hHeld => ?_)
      ·exact sbT
      clear hK K
      (try simp only [Act.put, putS])
      refine oS (i := 4) #[true, true, true, true, true, false, false, true, false, false] rfl hHeld ?_
      (try simp only [Act.put, putS])
      refine oS (i := 5) #[true, true, true, true, true, true, false, true, false, false] rfl hHeld ?_
      (try simp only [Act.put, putS])
      refine oS (i := 6) (preB 8 2) rfl hHeld ?_
      (try simp only [Act.put, putS])
      refine wpAnyH_ready (rs := [8]) (by kernel_rfl) (by simp) ?_
      refine ord_run (i := 8) (preB 9 1) rfl (by kernel_rfl) (by rfl) (fun K hK => ?_) AllReadyH.nil
      go_simp
      refine hK.out _ _ ?_ (fun hHeld => ?_)
      ·exact sbT
      clear hK K
      (try simp only [Act.put, putS])
      refine oS (i := 9) (preB 10 0) rfl hHeld ?_
      (try simp only [Act.put, putS])
      refine wpAnyH_done (by kernel_rfl) ?_ _
      go_wp2_with fail; go_meet; exact ⟨_, hiW (fitR (x - n * 1603080000000)), loW (fitR (x - n * 1603080000000)), rfl, ⟨_, rfl⟩, belT, (by simp; omega), ⟨(by simp [go_sem, *]), (by simp [go_sem, *])⟩, ⟨(by first | omega | (simp <;> omega)), (by first | omega | (simp <;> omega))⟩, ⟨(by simp [go_sem, *]), (by simp [go_sem, *]), (by simp [go_sem, *])⟩⟩
     exact AllReadyH.nil
    refine ord_run (i := 7) #[true, true, false, false, false, false, false, true, false, false] rfl (by kernel_rfl) (by rfl) (fun K hK => ?_) ?_
    ·go_simp
     refine hK.out _ _ ?_ (fun hHeld => ?_)
     ·exact sbT
     clear hK K
     (try simp only [Act.put, putS])
     refine wpAnyH_ready (rs := [2]) (by kernel_rfl) (by simp) ?_
     refine ord_run (i := 2) #[true, true, true, false, false, false, false, true, false, false] rfl (by kernel_rfl) (by rfl) (fun K hK => ?_) AllReadyH.nil
     go_simp
     go_wp2_with (go_at_call 34; refine (rmul_any n 1603080000000 n1 n2 (by decide) (by decide) _).mono ?_; rintro e w2 ⟨rfl, hb⟩; (first | (have q2B : Below w.heap.size w w2 := qB hb; have q2z := hb.size; (try simp at q2z); have q2t : w.heap.size ≤ w2.heap.size := (by omega); have q2s0 : w.heap.size + 1 < w2.heap.size := (by omega); obtain ⟨q2n0_0, q2n0_1, q2n0_2⟩ := kN q2s0; obtain ⟨q2c0_0, q2c0_1, q2f0⟩ := kC2 hb (w.heap.size + 1); simp [go_sem, *] at q2c0_0 q2c0_1 q2f0; have q2s1 : w1.heap.size < w2.heap.size := (by omega); obtain ⟨q2n1_0, q2n1_1, q2n1_2⟩ := kN q2s1; obtain ⟨q2c1_0, q2c1_1, q2f1⟩ := kC2 hb w1.heap.size; simp [go_sem, *] at q2c1_0 q2c1_1 q2f1; have q2o := belO q2B; have hbS := hb; have hbS2 := hb; clear hb) | (have q2B : Below w.heap.size w w2 := qB hb; have q2z := hb.size; (try simp at q2z); have q2t : w.heap.size ≤ w2.heap.size := (by omega); have q2s0 : w.heap.size + 1 < w2.heap.size := (by omega); obtain ⟨q2n0_0, q2n0_1, q2n0_2⟩ := kN q2s0; obtain ⟨q2c0_0, q2c0_1, q2f0⟩ := kC2 hb (w.heap.size + 1); simp [go_sem, *] at q2c0_0 q2c0_1 q2f0; have q2o := belO q2B; have hbS := hb; have hbS2 := hb; clear hb)))
     refine hK.out _ _ ?_ (fun hHeld => ?_)
     ·exact sbT
     clear hK K
     (try simp only [Act.put, putS])
     refine wpAnyH_ready (rs := [3]) (by kernel_rfl) (by simp) ?_
     refine ord_run (i := 3) #[true, true, true, true, false, false, false, true, false, false] rfl (by kernel_rfl) (by rfl) (fun K hK => ?_) AllReadyH.nil
     go_simp
     go_wp2_with (go_at_call 53; refine (rsub_any x (n * 1603080000000) HX.out (mul_win n1 n2 (by decide) (by decide)) _).mono ?_; rintro e w3 ⟨rfl, hb⟩; (first | (have q3B : Below w.heap.size w w3 := qB hb; have q3z := hb.size; (try simp at q3z); have q3t : w.heap.size ≤ w3.heap.size := (by omega); have q3s0 : w.heap.size + 1 < w3.heap.size := (by omega); obtain ⟨q3n0_0, q3n0_1, q3n0_2⟩ := kN q3s0; obtain ⟨q3c0_0, q3c0_1, q3f0⟩ := kC2 hb (w.heap.size + 1); simp [go_sem, *] at q3c0_0 q3c0_1 q3f0; have q3s1 : w1.heap.size < w3.heap.size := (by omega); obtain ⟨q3n1_0, q3n1_1, q3n1_2⟩ := kN q3s1; obtain ⟨q3c1_0, q3c1_1, q3f1⟩ := kC2 hb w1.heap.size; simp [go_sem, *] at q3c1_0 q3c1_1 q3f1; have q3o := belO q3B; have hbS := hb; have hbS3 := hb; clear hb) | (have q3B : Below w.heap.size w w3 := qB hb; have q3z := hb.size; (try simp at q3z); have q3t : w.heap.size ≤ w3.heap.size := (by omega); have q3s0 : w.heap.size + 1 < w3.heap.size := (by omega); obtain ⟨q3n0_0, q3n0_1, q3n0_2⟩ := kN q3s0; obtain ⟨q3c0_0, q3c0_1, q3f0⟩ := kC2 hb (w.heap.size + 1); simp [go_sem, *] at q3c0_0 q3c0_1 q3f0; have q3s1 : w2.heap.size < w3.heap.size := (by omega); obtain ⟨q3n1_0, q3n1_1, q3n1_2⟩ := kN q3s1; obtain ⟨q3c1_0, q3c1_1, q3f1⟩ := kC2 hb w2.heap.size; simp [go_sem, *] at q3c1_0 q3c1_1 q3f1; have q3o := belO q3B; have hbS := hb; have hbS3 := hb; clear hb) | (have q3B : Below w.heap.size w w3 := qB hb; have q3z := hb.size; (try simp at q3z); have q3t : w.heap.size ≤ w3.heap.size := (by omega); have q3s0 : w.heap.size + 1 < w3.heap.size := (by omega); obtain ⟨q3n0_0, q3n0_1, q3n0_2⟩ := kN q3s0; obtain ⟨q3c0_0, q3c0_1, q3f0⟩ := kC2 hb (w.heap.size + 1); simp [go_sem, *] at q3c0_0 q3c0_1 q3f0; have q3o := belO q3B; have hbS := hb; have hbS3 := hb; clear hb)))
     refine hK.out _ _ ?_ (fun hHeld => ?_)
     ·exact sbT
     clear hK K
     (try simp only [Act.put, putS])
     refine oS (i := 4) #[true, true, true, true, true, false, false, true, false, false] rfl hHeld ?_
     (try simp only [Act.put, putS])
     refine oS (i := 5) #[true, true, true, true, true, true, false, true, false, false] rfl hHeld ?_
     (try simp only [Act.put, putS])
     refine oS (i := 6) (preB 8 2) rfl hHeld ?_
     (try simp only [Act.put, putS])
     refine wpAnyH_ready (rs := [8]) (by kernel_rfl) (by simp) ?_
     refine ord_run (i := 8) (preB 9 1) rfl (by kernel_rfl) (by rfl) (fun K hK => ?_) AllReadyH.nil
     go_simp
     refine hK.out _ _ ?_ (fun hHeld => ?_)
     ·exact sbT
     clear hK K
     (try simp only [Act.put, putS])
     refine oS (i := 9) (preB 10 0) rfl hHeld ?_
     (try simp only [Act.put, putS])
     refine wpAnyH_done (by kernel_rfl) ?_ _
     go_wp2_with fail; go_meet; exact ⟨_, hiW (fitR (x - n * 1603080000000)), loW (fitR (x - n * 1603080000000)), rfl, ⟨_, rfl⟩, belT, (by simp; omega), ⟨(by simp [go_sem, *]), (by simp [go_sem, *])⟩, ⟨(by first | omega | (simp <;> omega)), (by first | omega | (simp <;> omega))⟩, ⟨(by simp [go_sem, *]), (by simp [go_sem, *]), (by simp [go_sem, *])⟩⟩
    exact AllReadyH.nil
   case rest =>
    obtain ⟨g, a, b, rfl, ⟨c, rfl⟩, hB, hz, ⟨cg0, cg1⟩, ⟨hg, hgn⟩, ⟨cr0, cr1, crf⟩⟩ := hcut
    go_wp2_with fail
    refine wp_region_seq (SB (wc.heap.size) [w.heap.size + 1] _) [true, true, true, false, true] (by kernel_rfl) (by kernel_rfl) rfl (by kernel_rfl) (fun _ _ d _ _ h => by cases d <;> exact h) SB.refl.drew (fun hHeld => ?_)
    refine seq_take ?_ (by rfl) (fun wx hSx => ?_) ?_
    rotate_left
    ·(unfold SB at hSx; go_simp; (try with_reducible rfl))
    (try simp only [Act.put, putS])
    refine seq_take ?_ (by rfl) (fun wx hSx => ?_) ?_
    rotate_left
    ·(unfold SB at hSx; go_simp; (try with_reducible rfl))
    (try simp only [Act.put, putS])
    refine seq_take ?_ (by rfl) (fun wx hSx => ?_) ?_
    rotate_left
    ·(unfold SB at hSx; go_simp; (try with_reducible rfl))
    (try simp only [Act.put, putS])
    refine seq_run (by rfl) (fun K hK => ?_)
    go_simp
    refine hK.out _ _ ?_ (fun hHeld => ?_)
    ·exact sbT
    clear hK K
    (try simp only [Act.put, putS])
    refine seq_take ?_ (by rfl) (fun wx hSx => ?_) ?_
    rotate_left
    ·(unfold SB at hSx; go_simp; (try with_reducible rfl))
    (try simp only [Act.put, putS])
    refine seq_end ?_
    go_wp2_with fail
    refine bodyPost_ret (by simp [results, Tryz.results73, go_sem, *] <;> rfl) rfl ?_
    refine amRet_of HV.out (by with_reducible rfl) ?_
    (repeat (first | (with_reducible first | exact Below.refl _ _ | assumption | refine Below.drew ?_) | ((with_reducible first | refine Below.alloc ?_ ?_ _ | refine Below.setCell ?_ ?_ _); rotate_left; (first | omega | (simp <;> omega)))))
  ·have HG := hide (decide_eq_false hg)
   have HV := hide (am_no (x := x) (by rw [← hy]; exact hg))
   clear hn hE hy hb hg hnb hx
   go_enter Tryz.func73, Tryz.ntmps73
   go_wp2_with fail
   refine (HD.out _).mono ?_
   rintro e w1 ⟨rfl, hb⟩
   have q1B : Below w.heap.size w w1 := qB hb
   have q1z := hb.size
   try simp at q1z
   have q1t : w.heap.size ≤ w1.heap.size := (by omega)
   obtain ⟨q1s0, q1n0_0, q1n0_1, q1n0_2⟩ := kB w1.heap.size w.heap.size
   obtain ⟨q1c0_0, q1c0_1, q1f0⟩ := kC2 hb w.heap.size
   simp [go_sem, *] at q1c0_0 q1c0_1 q1f0
   obtain ⟨q1s1, q1n1_0, q1n1_1, q1n1_2⟩ := kB w1.heap.size (w.heap.size + 1)
   obtain ⟨q1c1_0, q1c1_1, q1f1⟩ := kC2 hb (w.heap.size + 1)
   simp [go_sem, *] at q1c1_0 q1c1_1 q1f1
   have q1o := belO q1B
   clear hb
   go_wp2_with fail
   refine (rgood_any n _).mono ?_
   rintro e w0 ⟨rfl, rfl⟩
   rw [HG.out]
   go_wp2_with fail
   refine bodyPost_ret (by simp [results, Tryz.results73, go_sem, *] <;> rfl) rfl ?_
   refine amRet_of HV.out (by with_reducible rfl) ?_
   (repeat (first | (with_reducible first | exact Below.refl _ _ | assumption | refine Below.drew ?_) | ((with_reducible first | refine Below.alloc ?_ ?_ _ | refine Below.setCell ?_ ?_ _); rotate_left; (first | omega | (simp <;> omega)))))
 ·have he : E = 6 := by rw [hE]; exact if_neg hb
  have HV := hide (am_no (x := x) (fun h => hb (decide_eq_true (by omega))))
  subst he
  clear hn hE hb hx
  go_enter Tryz.func73, Tryz.ntmps73
  go_wp2_with fail
  refine (HD.out _).mono ?_
  rintro e w1 ⟨rfl, hb⟩
  have q1B : Below w.heap.size w w1 := qB hb
  have q1z := hb.size
  try simp at q1z
  have q1t : w.heap.size ≤ w1.heap.size := (by omega)
  obtain ⟨q1s0, q1n0_0, q1n0_1, q1n0_2⟩ := kB w1.heap.size w.heap.size
  obtain ⟨q1c0_0, q1c0_1, q1f0⟩ := kC2 hb w.heap.size
  simp [go_sem, *] at q1c0_0 q1c0_1 q1f0
  obtain ⟨q1s1, q1n1_0, q1n1_1, q1n1_2⟩ := kB w1.heap.size (w.heap.size + 1)
  obtain ⟨q1c1_0, q1c1_1, q1f1⟩ := kC2 hb (w.heap.size + 1)
  simp [go_sem, *] at q1c1_0 q1c1_1 q1f1
  have q1o := belO q1B
  clear hb
  go_wp2_with fail
  refine bodyPost_ret (by simp [results, Tryz.results73, go_sem, *] <;> rfl) rfl ?_
  refine amRet_of HV.out (by with_reducible rfl) ?_
  (repeat (first | (with_reducible first | exact Below.refl _ _ | assumption | refine Below.drew ?_) | ((with_reducible first | refine Below.alloc ?_ ?_ _ | refine Below.setCell ?_ ?_ _); rotate_left; (first | omega | (simp <;> omega)))))
end Go.Proofs.YtdjlaiilngechaaGreatDoor
