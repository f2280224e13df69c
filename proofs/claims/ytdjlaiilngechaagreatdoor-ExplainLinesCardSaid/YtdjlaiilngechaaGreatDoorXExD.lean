/- Texts laid together: ExD. -/
import Derived.Test.YtdjlaiilngechaaGreatDoorXExC
import Derived.Test.YtdjlaiilngechaaGreatDoorXK0
namespace Go.Proofs.YtdjlaiilngechaaGreatDoor
set_option maxRecDepth 4000
set_option linter.unusedSimpArgs false
set_option linter.unusedVariables false
open Go.RowKit
/-- What is added to the quotient. -/
def mr (q r : Int) : Int := if 1603080000000 - r < r then 1 else if r < 1603080000000 - r then 0 else q % 2
def rnd (x : Int) : Int := x / 1603080000000 + mr (x / 1603080000000) (x % 1603080000000)
theorem mr_bd (q r : Int) : 0 ≤ mr q r ∧ mr q r ≤ 1 := by unfold mr; split; omega; split <;> omega
theorem mr_zero (q : Int) : mr q 0 = 0 := by unfold mr; rw [if_neg (by decide), if_pos (by decide)]
theorem and_one {l : Int} (h : 0 ≤ l) (h' : l < 18446744073709551616) : bits .and .u64 l 1 = l % 2 := by
 obtain ⟨a, rfl⟩ := Int.eq_ofNat_of_zero_le h
 have h2 := bits_and_u64_nat a 1 (by omega) (by decide)
 rw [show ((1 : Nat) : Int) = 1 from rfl] at h2
 rw [h2, Nat.and_one_is_mod]
 omega
theorem rvalid6 (w : World) : Calls Tryz.prog 138 #[.int .i64 6] w fun e w' => e = .returned (.bool true) ∧ w = w' := by
 go_enter Tryz.func138, Tryz.ntmps138
 go_wp2_with fail
 go_ret
 exact ⟨rfl, rfl⟩
theorem ramt_any (n : Int) (w : World) : Calls Tryz.prog 110 #[.int .i64 n] w fun e w' => e = .returned (.bool (decide (-1000000000000 ≤ n ∧ n ≤ 1000000000000))) ∧ w = w' := by
 by_cases h1 : -1000000000000 ≤ n
 ·by_cases h2 : n ≤ 1000000000000
  ·rw [decide_eq_true ⟨h1, h2⟩]
   go_enter Tryz.func110, Tryz.ntmps110
   go_wp2_with fail
   go_ret
   exact ⟨by first | rfl | simp [*], rfl⟩
  ·rw [decide_eq_false (fun h => h2 h.2)]
   have h3 : 1000000000000 < n := by omega
   go_enter Tryz.func110, Tryz.ntmps110
   go_wp2_with fail
   go_ret
   exact ⟨by first | rfl | simp [*], rfl⟩
 ·rw [decide_eq_false (fun h => h1 h.1)]
  have h3 : n < -1000000000000 := by omega
  clear h1
  go_enter Tryz.func110, Tryz.ntmps110
  go_wp2_with fail
  go_ret
  exact ⟨by first | rfl | simp [*], rfl⟩
theorem more_any (q r : Int) (hq : WIn q) (h0 : 0 ≤ r) (h1 : r < 1603080000000) (w : World) :
  Calls Tryz.prog 141 #[.agg #[.int .i64 (hiW q), .int .u64 (loW q)], .int .i64 r, .int .i64 1603080000000, .int .i64 6] w fun e w' => e = .returned (.int .i64 (mr q r)) ∧ Below w.heap.size w w' := by
 have h3 : IntKind.i64.wrap (1603080000000 - r) = 1603080000000 - r := by rw [IntKind.wrap_i64]; omega
 by_cases a : 1603080000000 - r < r
 ·have HV := hide (show mr q r = 1 from if_pos a)
  go_enter Tryz.func141, Tryz.ntmps141
  go_wp2_with fail
  refine bodyPost_ret (by simp [results, Tryz.results141, go_sem, *] <;> rfl) rfl ⟨?_, ?_⟩
  ·rw [HV.out]
  (repeat (first | (with_reducible first | exact Below.refl _ _ | assumption | refine Below.drew ?_) | ((with_reducible first | refine Below.alloc ?_ ?_ _ | refine Below.setCell ?_ ?_ _); rotate_left; (first | omega | (simp <;> omega)))))
 ·by_cases b : r < 1603080000000 - r
  ·have HV := hide (show mr q r = 0 from by unfold mr; rw [if_neg a, if_pos b])
   have a' := Int.not_lt.1 a
   clear a
   go_enter Tryz.func141, Tryz.ntmps141
   go_wp2_with fail
   refine bodyPost_ret (by simp [results, Tryz.results141, go_sem, *] <;> rfl) rfl ⟨?_, ?_⟩
   ·rw [HV.out]
   (repeat (first | (with_reducible first | exact Below.refl _ _ | assumption | refine Below.drew ?_) | ((with_reducible first | refine Below.alloc ?_ ?_ _ | refine Below.setCell ?_ ?_ _); rotate_left; (first | omega | (simp <;> omega)))))
  ·have HV := hide (show mr q r = q % 2 from by unfold mr; rw [if_neg a, if_neg b])
   have a' := Int.not_lt.1 a
   have b' := Int.not_lt.1 b
   have h5 := and_one (lo_bd q).1 (lo_bd q).2
   have h6 : IntKind.i64.wrap (loW q % 2) = q % 2 := by rw [IntKind.wrap_i64]; unfold loW; omega
   clear a b
   go_enter Tryz.func141, Tryz.ntmps141
   go_wp2_with fail
   refine bodyPost_ret (by simp [results, Tryz.results141, go_sem, *] <;> rfl) rfl ⟨?_, ?_⟩
   ·first | rw [HV.out] | (rw [HV.out, h5, h6])
   (repeat (first | (with_reducible first | exact Below.refl _ _ | assumption | refine Below.drew ?_) | ((with_reducible first | refine Below.alloc ?_ ?_ _ | refine Below.setCell ?_ ?_ _); rotate_left; (first | omega | (simp <;> omega)))))
/-- What Divide answers. -/
def dvE (x : Int) : Int := if iB (rnd x) = true then 0 else 6
theorem iV_no {x : Int} (h : iB x = false) : iV x = 0 := if_neg (of_decide_eq_false h)
theorem rnd_win {x : Int} (h : WIn x) : WIn (rnd x) := by
 have := mr_bd (x / 1603080000000) (x % 1603080000000)
 unfold rnd
 unfold WIn at *
 omega
set_option maxHeartbeats 4000000 in
theorem rdivide_any (x : Int) (hx : WIn x) (w : World) :
  Calls Tryz.prog 109 #[.agg #[.int .i64 (hiW x), .int .u64 (loW x)], .int .i64 1603080000000, .int .i64 6] w fun e w' => e = .returned (.tuple #[.int .i64 (iV (rnd x)), .int .i64 (dvE x)]) ∧ Below w.heap.size w w' := by
 obtain ⟨q, hq⟩ : ∃ q, q = x / 1603080000000 := ⟨_, rfl⟩
 obtain ⟨r, hr⟩ : ∃ r, r = x % 1603080000000 := ⟨_, rfl⟩
 have HD := hide (fun W => by have t := div_any x hx W; rw [← hq, ← hr] at t; exact t)
 have HQ := hide (show WIn q from by rw [hq]; exact quo_win hx)
 have r0 : 0 ≤ r := by omega
 have r1 : r < 1603080000000 := by omega
 obtain ⟨y, hy⟩ : ∃ y, y = rnd x := ⟨_, rfl⟩
 have HY := hide (show WIn y from by rw [hy]; exact rnd_win hx)
 have HE := hide (show q + mr q r = y from by rw [hy, hq, hr]; rfl)
 have HF := hide (show fitR (q + mr q r) = y from by rw [HE.out]; exact fitR_of HY.out)
 have HM := hide (mr_bd q r)
 have HI := hide (wint_any y HY.out)
 have HEy := hide (show dvE x = if iB y = true then 0 else 6 from by rw [hy]; rfl)
 rw [← hy]
 clear hq hr hy
 cases hb0 : iB y with
 | true =>
  have HE1 := hide (show dvE x = 0 from by rw [HEy.out, hb0]; rfl)
  rcases Int.lt_or_eq_of_le r0 with hr0 | hr0
  ·have HB0 := hide hb0
   clear hb0
   go_enter Tryz.func109, Tryz.ntmps109
   go_wp2_with fail
   refine (rvalid6 _).mono ?_
   rintro e w0 ⟨rfl, rfl⟩
   go_wp2_with fail
   refine (HD.out _).mono ?_
   rintro e w1 ⟨rfl, hb⟩
   have q1B : Below w.heap.size w w1 := qB hb
   have q1z := hb.size
   try simp at q1z
   have q1t : w.heap.size ≤ w1.heap.size := (by omega)
   obtain ⟨q1s0, q1n0_0, q1n0_1, q1n0_2⟩ := kB w1.heap.size w.heap.size
   obtain ⟨q1c0_0, q1c0_1, q1f0⟩ := kC2 hb w.heap.size
   simp [go_sem, *] at q1c0_0 q1c0_1 q1f0
   have q1o := belO q1B
   clear hb
   go_wp2_with fail
   refine ord_start (SB (w1.heap.size) [] _) 12 (preB 0 12) (by kernel_rfl) (by kernel_rfl) (by kernel_rfl) SB.refl.drew (fun hHeld => ?_)
   refine oS (i := 2) #[false, false, true, false, false, false, false, false, false, false, false, false] rfl hHeld ?_
   (try simp only [Act.put, putS])
   refine oS (i := 3) #[false, false, true, true, false, false, false, false, false, false, false, false] rfl hHeld ?_
   (try simp only [Act.put, putS])
   refine oS (i := 4) #[false, false, true, true, true, false, false, false, false, false, false, false] rfl hHeld ?_
   (try simp only [Act.put, putS])
   refine wpAnyH_ready (rs := [0, 1]) (by kernel_rfl) (by simp) ?_
   refine ord_run (i := 0) #[true, false, true, true, true, false, false, false, false, false, false, false] rfl (by kernel_rfl) (by rfl) (fun K hK => ?_) ?_
   ·go_simp
    refine hK.out _ _ ?_ (fun hHeld => ?_)
    ·exact sbT
    clear hK K
    (try simp only [Act.put, putS])
    refine wpAnyH_ready (rs := [1]) (by kernel_rfl) (by simp) ?_
    refine ord_run (i := 1) (preB 5 7) rfl (by kernel_rfl) (by rfl) (fun K hK => ?_) AllReadyH.nil
    go_simp
    refine hK.out _ _ ?_ (fun hHeld => ?_)
    ·exact sbT
    clear hK K
    (try simp only [Act.put, putS])
    refine wpAnyH_ready (rs := [5]) (by kernel_rfl) (by simp) ?_
    refine ord_run (i := 5) (preB 6 6) rfl (by kernel_rfl) (by rfl) (fun K hK => ?_) AllReadyH.nil
    go_simp
    go_wp2_with (go_at_call 141; refine (more_any q r HQ.out r0 r1 _).mono ?_; rintro e w2 ⟨rfl, hb⟩; have q2B : Below w.heap.size w w2 := qB hb; have q2z := hb.size; (try simp at q2z); have q2t : w.heap.size ≤ w2.heap.size := (by omega); have q2s0 : w1.heap.size < w2.heap.size := (by omega); obtain ⟨q2n0_0, q2n0_1, q2n0_2⟩ := kN q2s0; obtain ⟨q2c0_0, q2c0_1, q2f0⟩ := kC2 hb w1.heap.size; simp [go_sem, *] at q2c0_0 q2c0_1 q2f0; have q2o := belO q2B; have hbS := hb; have hbS2 := hb; clear hb)
    refine hK.out _ _ ?_ (fun hHeld => ?_)
    ·exact sbT
    clear hK K
    (try simp only [Act.put, putS])
    refine wpAnyH_ready (rs := [6]) (by kernel_rfl) (by simp) ?_
    refine ord_run (i := 6) (preB 7 5) rfl (by kernel_rfl) (by rfl) (fun K hK => ?_) AllReadyH.nil
    go_simp
    go_wp2_with (go_at_call 140; refine (wof_any (mr q r) (by have := HM.out; omega) (by have := HM.out; omega) _).mono ?_; rintro e w3 ⟨rfl, hb⟩; have q3B : Below w.heap.size w w3 := qB hb; have q3z := hb.size; (try simp at q3z); have q3t : w.heap.size ≤ w3.heap.size := (by omega); have q3s0 : w1.heap.size < w3.heap.size := (by omega); obtain ⟨q3n0_0, q3n0_1, q3n0_2⟩ := kN q3s0; obtain ⟨q3c0_0, q3c0_1, q3f0⟩ := kC2 hb w1.heap.size; simp [go_sem, *] at q3c0_0 q3c0_1 q3f0; have q3o := belO q3B; have hbS := hb; have hbS3 := hb; clear hb)
    refine hK.out _ _ ?_ (fun hHeld => ?_)
    ·exact sbT
    clear hK K
    (try simp only [Act.put, putS])
    refine wpAnyH_ready (rs := [7]) (by kernel_rfl) (by simp) ?_
    refine ord_run (i := 7) (preB 8 4) rfl (by kernel_rfl) (by rfl) (fun K hK => ?_) AllReadyH.nil
    go_simp
    go_wp2_with (go_at_call 37; refine (wadd_any q (mr q r) HQ.out (by have := HM.out; unfold WIn; omega) _).mono ?_; rintro e w4 ⟨rfl, hb⟩; rw [HF.out]; have q4B : Below w.heap.size w w4 := qB hb; have q4z := hb.size; (try simp at q4z); have q4t : w.heap.size ≤ w4.heap.size := (by omega); have q4s0 : w1.heap.size < w4.heap.size := (by omega); obtain ⟨q4n0_0, q4n0_1, q4n0_2⟩ := kN q4s0; obtain ⟨q4c0_0, q4c0_1, q4f0⟩ := kC2 hb w1.heap.size; simp [go_sem, *] at q4c0_0 q4c0_1 q4f0; have q4o := belO q4B; have hbS := hb; have hbS4 := hb; clear hb)
    refine hK.out _ _ ?_ (fun hHeld => ?_)
    ·exact sbT
    clear hK K
    (try simp only [Act.put, putS])
    refine oS (i := 8) (preB 9 3) rfl hHeld ?_
    (try simp only [Act.put, putS])
    refine oS (i := 9) (preB 10 2) rfl hHeld ?_
    (try simp only [Act.put, putS])
    refine oS (i := 10) (preB 11 1) rfl hHeld ?_
    (try simp only [Act.put, putS])
    refine wpAnyH_ready (rs := [11]) (by kernel_rfl) (by simp) ?_
    refine ord_run (i := 11) (preB 12 0) rfl (by kernel_rfl) (by rfl) (fun K hK => ?_) AllReadyH.nil
    go_simp
    refine hK.out _ _ ?_ (fun hHeld => ?_)
    ·exact sbT
    clear hK K
    (try simp only [Act.put, putS])
    refine wpAnyH_done (by kernel_rfl) ?_ _
    go_wp2_with fail
    refine (HI.out _).mono ?_
    rintro e w5 ⟨rfl, hb⟩
    rw [HB0.out]
    have q5B : Below w.heap.size w w5 := qB hb
    have q5z := hb.size
    try simp at q5z
    have q5t : w.heap.size ≤ w5.heap.size := (by omega)
    obtain ⟨q5s0, q5n0_0, q5n0_1, q5n0_2⟩ := kB w5.heap.size w1.heap.size
    obtain ⟨q5c0_0, q5c0_1, q5f0⟩ := kC2 hb w1.heap.size
    simp [go_sem, *] at q5c0_0 q5c0_1 q5f0
    have q5o := belO q5B
    clear hb q1o q1f0 q1c0_1 q1c0_0 q1s0 q1z q1B
    go_wp2_with fail
    refine bodyPost_ret (by simp [results, Tryz.results109, go_sem, *] <;> rfl) rfl ⟨?_, ?_⟩
    ·rw [HE1.out]
    (repeat (first | (with_reducible first | exact Below.refl _ _ | assumption | refine Below.drew ?_) | ((with_reducible first | refine Below.alloc ?_ ?_ _ | refine Below.setCell ?_ ?_ _); rotate_left; (first | omega | (simp <;> omega)))))
   refine ord_run (i := 1) #[false, true, true, true, true, false, false, false, false, false, false, false] rfl (by kernel_rfl) (by rfl) (fun K hK => ?_) ?_
   ·go_simp
    refine hK.out _ _ ?_ (fun hHeld => ?_)
    ·exact sbT
    clear hK K
    (try simp only [Act.put, putS])
    refine wpAnyH_ready (rs := [0, 5]) (by kernel_rfl) (by simp) ?_
    refine ord_run (i := 0) (preB 5 7) rfl (by kernel_rfl) (by rfl) (fun K hK => ?_) ?_
    ·go_simp
     refine hK.out _ _ ?_ (fun hHeld => ?_)
     ·exact sbT
     clear hK K
     (try simp only [Act.put, putS])
     refine wpAnyH_ready (rs := [5]) (by kernel_rfl) (by simp) ?_
     refine ord_run (i := 5) (preB 6 6) rfl (by kernel_rfl) (by rfl) (fun K hK => ?_) AllReadyH.nil
     go_simp
     go_wp2_with (go_at_call 141; refine (more_any q r HQ.out r0 r1 _).mono ?_; rintro e w2 ⟨rfl, hb⟩; have q2B : Below w.heap.size w w2 := qB hb; have q2z := hb.size; (try simp at q2z); have q2t : w.heap.size ≤ w2.heap.size := (by omega); have q2s0 : w1.heap.size < w2.heap.size := (by omega); obtain ⟨q2n0_0, q2n0_1, q2n0_2⟩ := kN q2s0; obtain ⟨q2c0_0, q2c0_1, q2f0⟩ := kC2 hb w1.heap.size; simp [go_sem, *] at q2c0_0 q2c0_1 q2f0; have q2o := belO q2B; have hbS := hb; have hbS2 := hb; clear hb)
     refine hK.out _ _ ?_ (fun hHeld => ?_)
     ·exact sbT
     clear hK K
     (try simp only [Act.put, putS])
     refine wpAnyH_ready (rs := [6]) (by kernel_rfl) (by simp) ?_
     refine ord_run (i := 6) (preB 7 5) rfl (by kernel_rfl) (by rfl) (fun K hK => ?_) AllReadyH.nil
     go_simp
     go_wp2_with (go_at_call 140; refine (wof_any (mr q r) (by have := HM.out; omega) (by have := HM.out; omega) _).mono ?_; rintro e w3 ⟨rfl, hb⟩; have q3B : Below w.heap.size w w3 := qB hb; have q3z := hb.size; (try simp at q3z); have q3t : w.heap.size ≤ w3.heap.size := (by omega); have q3s0 : w1.heap.size < w3.heap.size := (by omega); obtain ⟨q3n0_0, q3n0_1, q3n0_2⟩ := kN q3s0; obtain ⟨q3c0_0, q3c0_1, q3f0⟩ := kC2 hb w1.heap.size; simp [go_sem, *] at q3c0_0 q3c0_1 q3f0; have q3o := belO q3B; have hbS := hb; have hbS3 := hb; clear hb)
     refine hK.out _ _ ?_ (fun hHeld => ?_)
     ·exact sbT
     clear hK K
     (try simp only [Act.put, putS])
     refine wpAnyH_ready (rs := [7]) (by kernel_rfl) (by simp) ?_
     refine ord_run (i := 7) (preB 8 4) rfl (by kernel_rfl) (by rfl) (fun K hK => ?_) AllReadyH.nil
     go_simp
     go_wp2_with (go_at_call 37; refine (wadd_any q (mr q r) HQ.out (by have := HM.out; unfold WIn; omega) _).mono ?_; rintro e w4 ⟨rfl, hb⟩; rw [HF.out]; have q4B : Below w.heap.size w w4 := qB hb; have q4z := hb.size; (try simp at q4z); have q4t : w.heap.size ≤ w4.heap.size := (by omega); have q4s0 : w1.heap.size < w4.heap.size := (by omega); obtain ⟨q4n0_0, q4n0_1, q4n0_2⟩ := kN q4s0; obtain ⟨q4c0_0, q4c0_1, q4f0⟩ := kC2 hb w1.heap.size; simp [go_sem, *] at q4c0_0 q4c0_1 q4f0; have q4o := belO q4B; have hbS := hb; have hbS4 := hb; clear hb)
     refine hK.out _ _ ?_ (fun hHeld => ?_)
     ·exact sbT
     clear hK K
     (try simp only [Act.put, putS])
     refine oS (i := 8) (preB 9 3) rfl hHeld ?_
     (try simp only [Act.put, putS])
     refine oS (i := 9) (preB 10 2) rfl hHeld ?_
     (try simp only [Act.put, putS])
     refine oS (i := 10) (preB 11 1) rfl hHeld ?_
     (try simp only [Act.put, putS])
     refine wpAnyH_ready (rs := [11]) (by kernel_rfl) (by simp) ?_
     refine ord_run (i := 11) (preB 12 0) rfl (by kernel_rfl) (by rfl) (fun K hK => ?_) AllReadyH.nil
     go_simp
     refine hK.out _ _ ?_ (fun hHeld => ?_)
     ·exact sbT
     clear hK K
     (try simp only [Act.put, putS])
     refine wpAnyH_done (by kernel_rfl) ?_ _
     go_wp2_with fail
     refine (HI.out _).mono ?_
     rintro e w5 ⟨rfl, hb⟩
     rw [HB0.out]
     have q5B : Below w.heap.size w w5 := qB hb
     have q5z := hb.size
     try simp at q5z
     have q5t : w.heap.size ≤ w5.heap.size := (by omega)
     obtain ⟨q5s0, q5n0_0, q5n0_1, q5n0_2⟩ := kB w5.heap.size w1.heap.size
     obtain ⟨q5c0_0, q5c0_1, q5f0⟩ := kC2 hb w1.heap.size
     simp [go_sem, *] at q5c0_0 q5c0_1 q5f0
     have q5o := belO q5B
     clear hb q1o q1f0 q1c0_1 q1c0_0 q1s0 q1z q1B
     go_wp2_with fail
     refine bodyPost_ret (by simp [results, Tryz.results109, go_sem, *] <;> rfl) rfl ⟨?_, ?_⟩
     ·rw [HE1.out]
     (repeat (first | (with_reducible first | exact Below.refl _ _ | assumption | refine Below.drew ?_) | ((with_reducible first | refine Below.alloc ?_ ?_ _ | refine Below.setCell ?_ ?_ _); rotate_left; (first | omega | (simp <;> omega)))))
    refine ord_run (i := 5) #[false, true, true, true, true, true, false, false, false, false, false, false] rfl (by kernel_rfl) (by rfl) (fun K hK => ?_) ?_
    ·go_simp
     go_wp2_with (go_at_call 141; refine (more_any q r HQ.out r0 r1 _).mono ?_; rintro e w2 ⟨rfl, hb⟩; have q2B : Below w.heap.size w w2 := qB hb; have q2z := hb.size; (try simp at q2z); have q2t : w.heap.size ≤ w2.heap.size := (by omega); have q2s0 : w1.heap.size < w2.heap.size := (by omega); obtain ⟨q2n0_0, q2n0_1, q2n0_2⟩ := kN q2s0; obtain ⟨q2c0_0, q2c0_1, q2f0⟩ := kC2 hb w1.heap.size; simp [go_sem, *] at q2c0_0 q2c0_1 q2f0; have q2o := belO q2B; have hbS := hb; have hbS2 := hb; clear hb)
     refine hK.out _ _ ?_ (fun hHeld => ?_)
     ·exact sbT
     clear hK K
     (try simp only [Act.put, putS])
     refine wpAnyH_ready (rs := [0, 6]) (by kernel_rfl) (by simp) ?_
     refine ord_run (i := 0) (preB 6 6) rfl (by kernel_rfl) (by rfl) (fun K hK => ?_) ?_
     ·go_simp
      refine hK.out _ _ ?_ (fun hHeld => ?_)
      ·exact sbT
      clear hK K
      (try simp only [Act.put, putS])
      refine wpAnyH_ready (rs := [6]) (by kernel_rfl) (by simp) ?_
      refine ord_run (i := 6) (preB 7 5) rfl (by kernel_rfl) (by rfl) (fun K hK => ?_) AllReadyH.nil
      go_simp
      go_wp2_with (go_at_call 140; refine (wof_any (mr q r) (by have := HM.out; omega) (by have := HM.out; omega) _).mono ?_; rintro e w3 ⟨rfl, hb⟩; have q3B : Below w.heap.size w w3 := qB hb; have q3z := hb.size; (try simp at q3z); have q3t : w.heap.size ≤ w3.heap.size := (by omega); have q3s0 : w1.heap.size < w3.heap.size := (by omega); obtain ⟨q3n0_0, q3n0_1, q3n0_2⟩ := kN q3s0; obtain ⟨q3c0_0, q3c0_1, q3f0⟩ := kC2 hb w1.heap.size; simp [go_sem, *] at q3c0_0 q3c0_1 q3f0; have q3o := belO q3B; have hbS := hb; have hbS3 := hb; clear hb)
      refine hK.out _ _ ?_ (fun hHeld => ?_)
      ·exact sbT
      clear hK K
      (try simp only [Act.put, putS])
      refine wpAnyH_ready (rs := [7]) (by kernel_rfl) (by simp) ?_
      refine ord_run (i := 7) (preB 8 4) rfl (by kernel_rfl) (by rfl) (fun K hK => ?_) AllReadyH.nil
      go_simp
      go_wp2_with (go_at_call 37; refine (wadd_any q (mr q r) HQ.out (by have := HM.out; unfold WIn; omega) _).mono ?_; rintro e w4 ⟨rfl, hb⟩; rw [HF.out]; have q4B : Below w.heap.size w w4 := qB hb; have q4z := hb.size; (try simp at q4z); have q4t : w.heap.size ≤ w4.heap.size := (by omega); have q4s0 : w1.heap.size < w4.heap.size := (by omega); obtain ⟨q4n0_0, q4n0_1, q4n0_2⟩ := kN q4s0; obtain ⟨q4c0_0, q4c0_1, q4f0⟩ := kC2 hb w1.heap.size; simp [go_sem, *] at q4c0_0 q4c0_1 q4f0; have q4o := belO q4B; have hbS := hb; have hbS4 := hb; clear hb)
      refine hK.out _ _ ?_ (fun hHeld => ?_)
      ·exact sbT
      clear hK K
      (try simp only [Act.put, putS])
      refine oS (i := 8) (preB 9 3) rfl hHeld ?_
      (try simp only [Act.put, putS])
      refine oS (i := 9) (preB 10 2) rfl hHeld ?_
      (try simp only [Act.put, putS])
      refine oS (i := 10) (preB 11 1) rfl hHeld ?_
      (try simp only [Act.put, putS])
      refine wpAnyH_ready (rs := [11]) (by kernel_rfl) (by simp) ?_
      refine ord_run (i := 11) (preB 12 0) rfl (by kernel_rfl) (by rfl) (fun K hK => ?_) AllReadyH.nil
      go_simp
      refine hK.out _ _ ?_ (fun hHeld => ?_)
      ·exact sbT
      clear hK K
      (try simp only [Act.put, putS])
      refine wpAnyH_done (by kernel_rfl) ?_ _
      go_wp2_with fail
      refine (HI.out _).mono ?_
      rintro e w5 ⟨rfl, hb⟩
      rw [HB0.out]
      have q5B : Below w.heap.size w w5 := qB hb
      have q5z := hb.size
      try simp at q5z
      have q5t : w.heap.size ≤ w5.heap.size := (by omega)
      obtain ⟨q5s0, q5n0_0, q5n0_1, q5n0_2⟩ := kB w5.heap.size w1.heap.size
      obtain ⟨q5c0_0, q5c0_1, q5f0⟩ := kC2 hb w1.heap.size
      simp [go_sem, *] at q5c0_0 q5c0_1 q5f0
      have q5o := belO q5B
      clear hb q1o q1f0 q1c0_1 q1c0_0 q1s0 q1z q1B
      go_wp2_with fail
      refine bodyPost_ret (by simp [results, Tryz.results109, go_sem, *] <;> rfl) rfl ⟨?_, ?_⟩
      ·rw [HE1.out]
      (repeat (first | (with_reducible first | exact Below.refl _ _ | assumption | refine Below.drew ?_) | ((with_reducible first | refine Below.alloc ?_ ?_ _ | refine Below.setCell ?_ ?_ _); rotate_left; (first | omega | (simp <;> omega)))))
     refine ord_run (i := 6) #[false, true, true, true, true, true, true, false, false, false, false, false] rfl (by kernel_rfl) (by rfl) (fun K hK => ?_) ?_
     ·go_simp
      go_wp2_with (go_at_call 140; refine (wof_any (mr q r) (by have := HM.out; omega) (by have := HM.out; omega) _).mono ?_; rintro e w3 ⟨rfl, hb⟩; have q3B : Below w.heap.size w w3 := qB hb; have q3z := hb.size; (try simp at q3z); have q3t : w.heap.size ≤ w3.heap.size := (by omega); have q3s0 : w1.heap.size < w3.heap.size := (by omega); obtain ⟨q3n0_0, q3n0_1, q3n0_2⟩ := kN q3s0; obtain ⟨q3c0_0, q3c0_1, q3f0⟩ := kC2 hb w1.heap.size; simp [go_sem, *] at q3c0_0 q3c0_1 q3f0; have q3o := belO q3B; have hbS := hb; have hbS3 := hb; clear hb)
      refine hK.out _ _ ?_ (fun hHeld => ?_)
      ·exact sbT
      clear hK K
      (try simp only [Act.put, putS])
      refine wpAnyH_ready (rs := [0]) (by kernel_rfl) (by simp) ?_
      refine ord_run (i := 0) (preB 7 5) rfl (by kernel_rfl) (by rfl) (fun K hK => ?_) AllReadyH.nil
      go_simp
      refine hK.out _ _ ?_ (fun hHeld => ?_)
      ·exact sbT
      clear hK K
      (try simp only [Act.put, putS])
      refine wpAnyH_ready (rs := [7]) (by kernel_rfl) (by simp) ?_
      refine ord_run (i := 7) (preB 8 4) rfl (by kernel_rfl) (by rfl) (fun K hK => ?_) AllReadyH.nil
      go_simp
      go_wp2_with (go_at_call 37; refine (wadd_any q (mr q r) HQ.out (by have := HM.out; unfold WIn; omega) _).mono ?_; rintro e w4 ⟨rfl, hb⟩; rw [HF.out]; have q4B : Below w.heap.size w w4 := qB hb; have q4z := hb.size; (try simp at q4z); have q4t : w.heap.size ≤ w4.heap.size := (by omega); have q4s0 : w1.heap.size < w4.heap.size := (by omega); obtain ⟨q4n0_0, q4n0_1, q4n0_2⟩ := kN q4s0; obtain ⟨q4c0_0, q4c0_1, q4f0⟩ := kC2 hb w1.heap.size; simp [go_sem, *] at q4c0_0 q4c0_1 q4f0; have q4o := belO q4B; have hbS := hb; have hbS4 := hb; clear hb)
      refine hK.out _ _ ?_ (fun hHeld => ?_)
      ·exact sbT
      clear hK K
      (try simp only [Act.put, putS])
      refine oS (i := 8) (preB 9 3) rfl hHeld ?_
      (try simp only [Act.put, putS])
      refine oS (i := 9) (preB 10 2) rfl hHeld ?_
      (try simp only [Act.put, putS])
      refine oS (i := 10) (preB 11 1) rfl hHeld ?_
      (try simp only [Act.put, putS])
      refine wpAnyH_ready (rs := [11]) (by kernel_rfl) (by simp) ?_
      refine ord_run (i := 11) (preB 12 0) rfl (by kernel_rfl) (by rfl) (fun K hK => ?_) AllReadyH.nil
      go_simp
      refine hK.out _ _ ?_ (fun hHeld => ?_)
      ·exact sbT
      clear hK K
      (try simp only [Act.put, putS])
      refine wpAnyH_done (by kernel_rfl) ?_ _
      go_wp2_with fail
      refine (HI.out _).mono ?_
      rintro e w5 ⟨rfl, hb⟩
      rw [HB0.out]
      have q5B : Below w.heap.size w w5 := qB hb
      have q5z := hb.size
      try simp at q5z
      have q5t : w.heap.size ≤ w5.heap.size := (by omega)
      obtain ⟨q5s0, q5n0_0, q5n0_1, q5n0_2⟩ := kB w5.heap.size w1.heap.size
      obtain ⟨q5c0_0, q5c0_1, q5f0⟩ := kC2 hb w1.heap.size
      simp [go_sem, *] at q5c0_0 q5c0_1 q5f0
      have q5o := belO q5B
      clear hb q1o q1f0 q1c0_1 q1c0_0 q1s0 q1z q1B
      go_wp2_with fail
      refine bodyPost_ret (by simp [results, Tryz.results109, go_sem, *] <;> rfl) rfl ⟨?_, ?_⟩
      ·rw [HE1.out]
      (repeat (first | (with_reducible first | exact Below.refl _ _ | assumption | refine Below.drew ?_) | ((with_reducible first | refine Below.alloc ?_ ?_ _ | refine Below.setCell ?_ ?_ _); rotate_left; (first | omega | (simp <;> omega)))))
     exact AllReadyH.nil
    exact AllReadyH.nil
   exact AllReadyH.nil
  ·subst hr0
   have hq0 : y = q := by have := HE.out; rw [mr_zero] at this; omega
   subst hq0
   have HB0 := hide hb0
   clear hb0
   go_enter Tryz.func109, Tryz.ntmps109
   go_wp2_with fail
   refine (rvalid6 _).mono ?_
   rintro e w0 ⟨rfl, rfl⟩
   go_wp2_with fail
   refine (HD.out _).mono ?_
   rintro e w1 ⟨rfl, hb⟩
   have q1B : Below w.heap.size w w1 := qB hb
   have q1z := hb.size
   try simp at q1z
   have q1t : w.heap.size ≤ w1.heap.size := (by omega)
   obtain ⟨q1s0, q1n0_0, q1n0_1, q1n0_2⟩ := kB w1.heap.size w.heap.size
   obtain ⟨q1c0_0, q1c0_1, q1f0⟩ := kC2 hb w.heap.size
   simp [go_sem, *] at q1c0_0 q1c0_1 q1f0
   have q1o := belO q1B
   clear hb
   go_wp2_with fail
   refine (HI.out _).mono ?_
   rintro e w5 ⟨rfl, hb⟩
   rw [HB0.out]
   have q5B : Below w.heap.size w w5 := qB hb
   have q5z := hb.size
   try simp at q5z
   have q5t : w.heap.size ≤ w5.heap.size := (by omega)
   obtain ⟨q5s0, q5n0_0, q5n0_1, q5n0_2⟩ := kB w5.heap.size w1.heap.size
   obtain ⟨q5c0_0, q5c0_1, q5f0⟩ := kC2 hb w1.heap.size
   simp [go_sem, *] at q5c0_0 q5c0_1 q5f0
   have q5o := belO q5B
   clear hb q1o q1f0 q1c0_1 q1c0_0 q1s0 q1z q1B
   go_wp2_with fail
   refine bodyPost_ret (by simp [results, Tryz.results109, go_sem, *] <;> rfl) rfl ⟨?_, ?_⟩
   ·rw [HE1.out]
   (repeat (first | (with_reducible first | exact Below.refl _ _ | assumption | refine Below.drew ?_) | ((with_reducible first | refine Below.alloc ?_ ?_ _ | refine Below.setCell ?_ ?_ _); rotate_left; (first | omega | (simp <;> omega)))))
 | false =>
  have HE1 := hide (show dvE x = 6 from by rw [HEy.out, hb0]; rfl)
  have HIV := hide (iV_no hb0)
  rcases Int.lt_or_eq_of_le r0 with hr0 | hr0
  ·have HB0 := hide hb0
   clear hb0
   go_enter Tryz.func109, Tryz.ntmps109
   go_wp2_with fail
   refine (rvalid6 _).mono ?_
   rintro e w0 ⟨rfl, rfl⟩
   go_wp2_with fail
   refine (HD.out _).mono ?_
   rintro e w1 ⟨rfl, hb⟩
   have q1B : Below w.heap.size w w1 := qB hb
   have q1z := hb.size
   try simp at q1z
   have q1t : w.heap.size ≤ w1.heap.size := (by omega)
   obtain ⟨q1s0, q1n0_0, q1n0_1, q1n0_2⟩ := kB w1.heap.size w.heap.size
   obtain ⟨q1c0_0, q1c0_1, q1f0⟩ := kC2 hb w.heap.size
   simp [go_sem, *] at q1c0_0 q1c0_1 q1f0
   have q1o := belO q1B
   clear hb
   go_wp2_with fail
   refine ord_start (SB (w1.heap.size) [] _) 12 (preB 0 12) (by kernel_rfl) (by kernel_rfl) (by kernel_rfl) SB.refl.drew (fun hHeld => ?_)
   refine oS (i := 2) #[false, false, true, false, false, false, false, false, false, false, false, false] rfl hHeld ?_
   (try simp only [Act.put, putS])
   refine oS (i := 3) #[false, false, true, true, false, false, false, false, false, false, false, false] rfl hHeld ?_
   (try simp only [Act.put, putS])
   refine oS (i := 4) #[false, false, true, true, true, false, false, false, false, false, false, false] rfl hHeld ?_
   (try simp only [Act.put, putS])
   refine wpAnyH_ready (rs := [0, 1]) (by kernel_rfl) (by simp) ?_
   refine ord_run (i := 0) #[true, false, true, true, true, false, false, false, false, false, false, false] rfl (by kernel_rfl) (by rfl) (fun K hK => ?_) ?_
   ·go_simp
    refine hK.out _ _ ?_ (fun hHeld => ?_)
    ·exact sbT
    clear hK K
    (try simp only [Act.put, putS])
    refine wpAnyH_ready (rs := [1]) (by kernel_rfl) (by simp) ?_
    refine ord_run (i := 1) (preB 5 7) rfl (by kernel_rfl) (by rfl) (fun K hK => ?_) AllReadyH.nil
    go_simp
    refine hK.out _ _ ?_ (fun hHeld => ?_)
    ·exact sbT
    clear hK K
    (try simp only [Act.put, putS])
    refine wpAnyH_ready (rs := [5]) (by kernel_rfl) (by simp) ?_
    refine ord_run (i := 5) (preB 6 6) rfl (by kernel_rfl) (by rfl) (fun K hK => ?_) AllReadyH.nil
    go_simp
    go_wp2_with (go_at_call 141; refine (more_any q r HQ.out r0 r1 _).mono ?_; rintro e w2 ⟨rfl, hb⟩; have q2B : Below w.heap.size w w2 := qB hb; have q2z := hb.size; (try simp at q2z); have q2t : w.heap.size ≤ w2.heap.size := (by omega); have q2s0 : w1.heap.size < w2.heap.size := (by omega); obtain ⟨q2n0_0, q2n0_1, q2n0_2⟩ := kN q2s0; obtain ⟨q2c0_0, q2c0_1, q2f0⟩ := kC2 hb w1.heap.size; simp [go_sem, *] at q2c0_0 q2c0_1 q2f0; have q2o := belO q2B; have hbS := hb; have hbS2 := hb; clear hb)
    refine hK.out _ _ ?_ (fun hHeld => ?_)
    ·exact sbT
    clear hK K
    (try simp only [Act.put, putS])
    refine wpAnyH_ready (rs := [6]) (by kernel_rfl) (by simp) ?_
    refine ord_run (i := 6) (preB 7 5) rfl (by kernel_rfl) (by rfl) (fun K hK => ?_) AllReadyH.nil
    go_simp
    go_wp2_with (go_at_call 140; refine (wof_any (mr q r) (by have := HM.out; omega) (by have := HM.out; omega) _).mono ?_; rintro e w3 ⟨rfl, hb⟩; have q3B : Below w.heap.size w w3 := qB hb; have q3z := hb.size; (try simp at q3z); have q3t : w.heap.size ≤ w3.heap.size := (by omega); have q3s0 : w1.heap.size < w3.heap.size := (by omega); obtain ⟨q3n0_0, q3n0_1, q3n0_2⟩ := kN q3s0; obtain ⟨q3c0_0, q3c0_1, q3f0⟩ := kC2 hb w1.heap.size; simp [go_sem, *] at q3c0_0 q3c0_1 q3f0; have q3o := belO q3B; have hbS := hb; have hbS3 := hb; clear hb)
    refine hK.out _ _ ?_ (fun hHeld => ?_)
    ·exact sbT
    clear hK K
    (try simp only [Act.put, putS])
    refine wpAnyH_ready (rs := [7]) (by kernel_rfl) (by simp) ?_
    refine ord_run (i := 7) (preB 8 4) rfl (by kernel_rfl) (by rfl) (fun K hK => ?_) AllReadyH.nil
    go_simp
    go_wp2_with (go_at_call 37; refine (wadd_any q (mr q r) HQ.out (by have := HM.out; unfold WIn; omega) _).mono ?_; rintro e w4 ⟨rfl, hb⟩; rw [HF.out]; have q4B : Below w.heap.size w w4 := qB hb; have q4z := hb.size; (try simp at q4z); have q4t : w.heap.size ≤ w4.heap.size := (by omega); have q4s0 : w1.heap.size < w4.heap.size := (by omega); obtain ⟨q4n0_0, q4n0_1, q4n0_2⟩ := kN q4s0; obtain ⟨q4c0_0, q4c0_1, q4f0⟩ := kC2 hb w1.heap.size; simp [go_sem, *] at q4c0_0 q4c0_1 q4f0; have q4o := belO q4B; have hbS := hb; have hbS4 := hb; clear hb)
    refine hK.out _ _ ?_ (fun hHeld => ?_)
    ·exact sbT
    clear hK K
    (try simp only [Act.put, putS])
    refine oS (i := 8) (preB 9 3) rfl hHeld ?_
    (try simp only [Act.put, putS])
    refine oS (i := 9) (preB 10 2) rfl hHeld ?_
    (try simp only [Act.put, putS])
    refine oS (i := 10) (preB 11 1) rfl hHeld ?_
    (try simp only [Act.put, putS])
    refine wpAnyH_ready (rs := [11]) (by kernel_rfl) (by simp) ?_
    refine ord_run (i := 11) (preB 12 0) rfl (by kernel_rfl) (by rfl) (fun K hK => ?_) AllReadyH.nil
    go_simp
    refine hK.out _ _ ?_ (fun hHeld => ?_)
    ·exact sbT
    clear hK K
    (try simp only [Act.put, putS])
    refine wpAnyH_done (by kernel_rfl) ?_ _
    go_wp2_with fail
    refine (HI.out _).mono ?_
    rintro e w5 ⟨rfl, hb⟩
    rw [HB0.out]
    have q5B : Below w.heap.size w w5 := qB hb
    have q5z := hb.size
    try simp at q5z
    have q5t : w.heap.size ≤ w5.heap.size := (by omega)
    obtain ⟨q5s0, q5n0_0, q5n0_1, q5n0_2⟩ := kB w5.heap.size w1.heap.size
    obtain ⟨q5c0_0, q5c0_1, q5f0⟩ := kC2 hb w1.heap.size
    simp [go_sem, *] at q5c0_0 q5c0_1 q5f0
    have q5o := belO q5B
    clear hb q1o q1f0 q1c0_1 q1c0_0 q1s0 q1z q1B
    go_wp2_with fail
    refine bodyPost_ret (by simp [results, Tryz.results109, go_sem, *] <;> rfl) rfl ⟨?_, ?_⟩
    ·rw [HE1.out, HIV.out]
    (repeat (first | (with_reducible first | exact Below.refl _ _ | assumption | refine Below.drew ?_) | ((with_reducible first | refine Below.alloc ?_ ?_ _ | refine Below.setCell ?_ ?_ _); rotate_left; (first | omega | (simp <;> omega)))))
   refine ord_run (i := 1) #[false, true, true, true, true, false, false, false, false, false, false, false] rfl (by kernel_rfl) (by rfl) (fun K hK => ?_) ?_
   ·go_simp
    refine hK.out _ _ ?_ (fun hHeld => ?_)
    ·exact sbT
    clear hK K
    (try simp only [Act.put, putS])
    refine wpAnyH_ready (rs := [0, 5]) (by kernel_rfl) (by simp) ?_
    refine ord_run (i := 0) (preB 5 7) rfl (by kernel_rfl) (by rfl) (fun K hK => ?_) ?_
    ·go_simp
     refine hK.out _ _ ?_ (fun hHeld => ?_)
     ·exact sbT
     clear hK K
     (try simp only [Act.put, putS])
     refine wpAnyH_ready (rs := [5]) (by kernel_rfl) (by simp) ?_
     refine ord_run (i := 5) (preB 6 6) rfl (by kernel_rfl) (by rfl) (fun K hK => ?_) AllReadyH.nil
     go_simp
     go_wp2_with (go_at_call 141; refine (more_any q r HQ.out r0 r1 _).mono ?_; rintro e w2 ⟨rfl, hb⟩; have q2B : Below w.heap.size w w2 := qB hb; have q2z := hb.size; (try simp at q2z); have q2t : w.heap.size ≤ w2.heap.size := (by omega); have q2s0 : w1.heap.size < w2.heap.size := (by omega); obtain ⟨q2n0_0, q2n0_1, q2n0_2⟩ := kN q2s0; obtain ⟨q2c0_0, q2c0_1, q2f0⟩ := kC2 hb w1.heap.size; simp [go_sem, *] at q2c0_0 q2c0_1 q2f0; have q2o := belO q2B; have hbS := hb; have hbS2 := hb; clear hb)
     refine hK.out _ _ ?_ (fun hHeld => ?_)
     ·exact sbT
     clear hK K
     (try simp only [Act.put, putS])
     refine wpAnyH_ready (rs := [6]) (by kernel_rfl) (by simp) ?_
     refine ord_run (i := 6) (preB 7 5) rfl (by kernel_rfl) (by rfl) (fun K hK => ?_) AllReadyH.nil
     go_simp
     go_wp2_with (go_at_call 140; refine (wof_any (mr q r) (by have := HM.out; omega) (by have := HM.out; omega) _).mono ?_; rintro e w3 ⟨rfl, hb⟩; have q3B : Below w.heap.size w w3 := qB hb; have q3z := hb.size; (try simp at q3z); have q3t : w.heap.size ≤ w3.heap.size := (by omega); have q3s0 : w1.heap.size < w3.heap.size := (by omega); obtain ⟨q3n0_0, q3n0_1, q3n0_2⟩ := kN q3s0; obtain ⟨q3c0_0, q3c0_1, q3f0⟩ := kC2 hb w1.heap.size; simp [go_sem, *] at q3c0_0 q3c0_1 q3f0; have q3o := belO q3B; have hbS := hb; have hbS3 := hb; clear hb)
     refine hK.out _ _ ?_ (fun hHeld => ?_)
     ·exact sbT
     clear hK K
     (try simp only [Act.put, putS])
     refine wpAnyH_ready (rs := [7]) (by kernel_rfl) (by simp) ?_
     refine ord_run (i := 7) (preB 8 4) rfl (by kernel_rfl) (by rfl) (fun K hK => ?_) AllReadyH.nil
     go_simp
     go_wp2_with (go_at_call 37; refine (wadd_any q (mr q r) HQ.out (by have := HM.out; unfold WIn; omega) _).mono ?_; rintro e w4 ⟨rfl, hb⟩; rw [HF.out]; have q4B : Below w.heap.size w w4 := qB hb; have q4z := hb.size; (try simp at q4z); have q4t : w.heap.size ≤ w4.heap.size := (by omega); have q4s0 : w1.heap.size < w4.heap.size := (by omega); obtain ⟨q4n0_0, q4n0_1, q4n0_2⟩ := kN q4s0; obtain ⟨q4c0_0, q4c0_1, q4f0⟩ := kC2 hb w1.heap.size; simp [go_sem, *] at q4c0_0 q4c0_1 q4f0; have q4o := belO q4B; have hbS := hb; have hbS4 := hb; clear hb)
     refine hK.out _ _ ?_ (fun hHeld => ?_)
     ·exact sbT
     clear hK K
     (try simp only [Act.put, putS])
     refine oS (i := 8) (preB 9 3) rfl hHeld ?_
     (try simp only [Act.put, putS])
     refine oS (i := 9) (preB 10 2) rfl hHeld ?_
     (try simp only [Act.put, putS])
     refine oS (i := 10) (preB 11 1) rfl hHeld ?_
     (try simp only [Act.put, putS])
     refine wpAnyH_ready (rs := [11]) (by kernel_rfl) (by simp) ?_
     refine ord_run (i := 11) (preB 12 0) rfl (by kernel_rfl) (by rfl) (fun K hK => ?_) AllReadyH.nil
     go_simp
     refine hK.out _ _ ?_ (fun hHeld => ?_)
     ·exact sbT
     clear hK K
     (try simp only [Act.put, putS])
     refine wpAnyH_done (by kernel_rfl) ?_ _
     go_wp2_with fail
     refine (HI.out _).mono ?_
     rintro e w5 ⟨rfl, hb⟩
     rw [HB0.out]
     have q5B : Below w.heap.size w w5 := qB hb
     have q5z := hb.size
     try simp at q5z
     have q5t : w.heap.size ≤ w5.heap.size := (by omega)
     obtain ⟨q5s0, q5n0_0, q5n0_1, q5n0_2⟩ := kB w5.heap.size w1.heap.size
     obtain ⟨q5c0_0, q5c0_1, q5f0⟩ := kC2 hb w1.heap.size
     simp [go_sem, *] at q5c0_0 q5c0_1 q5f0
     have q5o := belO q5B
     clear hb q1o q1f0 q1c0_1 q1c0_0 q1s0 q1z q1B
     go_wp2_with fail
     refine bodyPost_ret (by simp [results, Tryz.results109, go_sem, *] <;> rfl) rfl ⟨?_, ?_⟩
     ·rw [HE1.out, HIV.out]
     (repeat (first | (with_reducible first | exact Below.refl _ _ | assumption | refine Below.drew ?_) | ((with_reducible first | refine Below.alloc ?_ ?_ _ | refine Below.setCell ?_ ?_ _); rotate_left; (first | omega | (simp <;> omega)))))
    refine ord_run (i := 5) #[false, true, true, true, true, true, false, false, false, false, false, false] rfl (by kernel_rfl) (by rfl) (fun K hK => ?_) ?_
    ·go_simp
     go_wp2_with (go_at_call 141; refine (more_any q r HQ.out r0 r1 _).mono ?_; rintro e w2 ⟨rfl, hb⟩; have q2B : Below w.heap.size w w2 := qB hb; have q2z := hb.size; (try simp at q2z); have q2t : w.heap.size ≤ w2.heap.size := (by omega); have q2s0 : w1.heap.size < w2.heap.size := (by omega); obtain ⟨q2n0_0, q2n0_1, q2n0_2⟩ := kN q2s0; obtain ⟨q2c0_0, q2c0_1, q2f0⟩ := kC2 hb w1.heap.size; simp [go_sem, *] at q2c0_0 q2c0_1 q2f0; have q2o := belO q2B; have hbS := hb; have hbS2 := hb; clear hb)
     refine hK.out _ _ ?_ (fun hHeld => ?_)
     ·exact sbT
     clear hK K
     (try simp only [Act.put, putS])
     refine wpAnyH_ready (rs := [0, 6]) (by kernel_rfl) (by simp) ?_
     refine ord_run (i := 0) (preB 6 6) rfl (by kernel_rfl) (by rfl) (fun K hK => ?_) ?_
     ·go_simp
      refine hK.out _ _ ?_ (fun hHeld => ?_)
      ·exact sbT
      clear hK K
      (try simp only [Act.put, putS])
      refine wpAnyH_ready (rs := [6]) (by kernel_rfl) (by simp) ?_
      refine ord_run (i := 6) (preB 7 5) rfl (by kernel_rfl) (by rfl) (fun K hK => ?_) AllReadyH.nil
      go_simp
      go_wp2_with (go_at_call 140; refine (wof_any (mr q r) (by have := HM.out; omega) (by have := HM.out; omega) _).mono ?_; rintro e w3 ⟨rfl, hb⟩; have q3B : Below w.heap.size w w3 := qB hb; have q3z := hb.size; (try simp at q3z); have q3t : w.heap.size ≤ w3.heap.size := (by omega); have q3s0 : w1.heap.size < w3.heap.size := (by omega); obtain ⟨q3n0_0, q3n0_1, q3n0_2⟩ := kN q3s0; obtain ⟨q3c0_0, q3c0_1, q3f0⟩ := kC2 hb w1.heap.size; simp [go_sem, *] at q3c0_0 q3c0_1 q3f0; have q3o := belO q3B; have hbS := hb; have hbS3 := hb; clear hb)
      refine hK.out _ _ ?_ (fun hHeld => ?_)
      ·exact sbT
      clear hK K
      (try simp only [Act.put, putS])
      refine wpAnyH_ready (rs := [7]) (by kernel_rfl) (by simp) ?_
      refine ord_run (i := 7) (preB 8 4) rfl (by kernel_rfl) (by rfl) (fun K hK => ?_) AllReadyH.nil
      go_simp
      go_wp2_with (go_at_call 37; refine (wadd_any q (mr q r) HQ.out (by have := HM.out; unfold WIn; omega) _).mono ?_; rintro e w4 ⟨rfl, hb⟩; rw [HF.out]; have q4B : Below w.heap.size w w4 := qB hb; have q4z := hb.size; (try simp at q4z); have q4t : w.heap.size ≤ w4.heap.size := (by omega); have q4s0 : w1.heap.size < w4.heap.size := (by omega); obtain ⟨q4n0_0, q4n0_1, q4n0_2⟩ := kN q4s0; obtain ⟨q4c0_0, q4c0_1, q4f0⟩ := kC2 hb w1.heap.size; simp [go_sem, *] at q4c0_0 q4c0_1 q4f0; have q4o := belO q4B; have hbS := hb; have hbS4 := hb; clear hb)
      refine hK.out _ _ ?_ (fun hHeld => ?_)
      ·exact sbT
      clear hK K
      (try simp only [Act.put, putS])
      refine oS (i := 8) (preB 9 3) rfl hHeld ?_
      (try simp only [Act.put, putS])
      refine oS (i := 9) (preB 10 2) rfl hHeld ?_
      (try simp only [Act.put, putS])
      refine oS (i := 10) (preB 11 1) rfl hHeld ?_
      (try simp only [Act.put, putS])
      refine wpAnyH_ready (rs := [11]) (by kernel_rfl) (by simp) ?_
      refine ord_run (i := 11) (preB 12 0) rfl (by kernel_rfl) (by rfl) (fun K hK => ?_) AllReadyH.nil
      go_simp
      refine hK.out _ _ ?_ (fun hHeld => ?_)
      ·exact sbT
      clear hK K
      (try simp only [Act.put, putS])
      refine wpAnyH_done (by kernel_rfl) ?_ _
      go_wp2_with fail
      refine (HI.out _).mono ?_
      rintro e w5 ⟨rfl, hb⟩
      rw [HB0.out]
      have q5B : Below w.heap.size w w5 := qB hb
      have q5z := hb.size
      try simp at q5z
      have q5t : w.heap.size ≤ w5.heap.size := (by omega)
      obtain ⟨q5s0, q5n0_0, q5n0_1, q5n0_2⟩ := kB w5.heap.size w1.heap.size
      obtain ⟨q5c0_0, q5c0_1, q5f0⟩ := kC2 hb w1.heap.size
      simp [go_sem, *] at q5c0_0 q5c0_1 q5f0
      have q5o := belO q5B
      clear hb q1o q1f0 q1c0_1 q1c0_0 q1s0 q1z q1B
      go_wp2_with fail
      refine bodyPost_ret (by simp [results, Tryz.results109, go_sem, *] <;> rfl) rfl ⟨?_, ?_⟩
      ·rw [HE1.out, HIV.out]
      (repeat (first | (with_reducible first | exact Below.refl _ _ | assumption | refine Below.drew ?_) | ((with_reducible first | refine Below.alloc ?_ ?_ _ | refine Below.setCell ?_ ?_ _); rotate_left; (first | omega | (simp <;> omega)))))
     refine ord_run (i := 6) #[false, true, true, true, true, true, true, false, false, false, false, false] rfl (by kernel_rfl) (by rfl) (fun K hK => ?_) ?_
     ·go_simp
      go_wp2_with (go_at_call 140; refine (wof_any (mr q r) (by have := HM.out; omega) (by have := HM.out; omega) _).mono ?_; rintro e w3 ⟨rfl, hb⟩; have q3B : Below w.heap.size w w3 := qB hb; have q3z := hb.size; (try simp at q3z); have q3t : w.heap.size ≤ w3.heap.size := (by omega); have q3s0 : w1.heap.size < w3.heap.size := (by omega); obtain ⟨q3n0_0, q3n0_1, q3n0_2⟩ := kN q3s0; obtain ⟨q3c0_0, q3c0_1, q3f0⟩ := kC2 hb w1.heap.size; simp [go_sem, *] at q3c0_0 q3c0_1 q3f0; have q3o := belO q3B; have hbS := hb; have hbS3 := hb; clear hb)
      refine hK.out _ _ ?_ (fun hHeld => ?_)
      ·exact sbT
      clear hK K
      (try simp only [Act.put, putS])
      refine wpAnyH_ready (rs := [0]) (by kernel_rfl) (by simp) ?_
      refine ord_run (i := 0) (preB 7 5) rfl (by kernel_rfl) (by rfl) (fun K hK => ?_) AllReadyH.nil
      go_simp
      refine hK.out _ _ ?_ (fun hHeld => ?_)
      ·exact sbT
      clear hK K
      (try simp only [Act.put, putS])
      refine wpAnyH_ready (rs := [7]) (by kernel_rfl) (by simp) ?_
      refine ord_run (i := 7) (preB 8 4) rfl (by kernel_rfl) (by rfl) (fun K hK => ?_) AllReadyH.nil
      go_simp
      go_wp2_with (go_at_call 37; refine (wadd_any q (mr q r) HQ.out (by have := HM.out; unfold WIn; omega) _).mono ?_; rintro e w4 ⟨rfl, hb⟩; rw [HF.out]; have q4B : Below w.heap.size w w4 := qB hb; have q4z := hb.size; (try simp at q4z); have q4t : w.heap.size ≤ w4.heap.size := (by omega); have q4s0 : w1.heap.size < w4.heap.size := (by omega); obtain ⟨q4n0_0, q4n0_1, q4n0_2⟩ := kN q4s0; obtain ⟨q4c0_0, q4c0_1, q4f0⟩ := kC2 hb w1.heap.size; simp [go_sem, *] at q4c0_0 q4c0_1 q4f0; have q4o := belO q4B; have hbS := hb; have hbS4 := hb; clear hb)
      refine hK.out _ _ ?_ (fun hHeld => ?_)
      ·exact sbT
      clear hK K
      (try simp only [Act.put, putS])
      refine oS (i := 8) (preB 9 3) rfl hHeld ?_
      (try simp only [Act.put, putS])
      refine oS (i := 9) (preB 10 2) rfl hHeld ?_
      (try simp only [Act.put, putS])
      refine oS (i := 10) (preB 11 1) rfl hHeld ?_
      (try simp only [Act.put, putS])
      refine wpAnyH_ready (rs := [11]) (by kernel_rfl) (by simp) ?_
      refine ord_run (i := 11) (preB 12 0) rfl (by kernel_rfl) (by rfl) (fun K hK => ?_) AllReadyH.nil
      go_simp
      refine hK.out _ _ ?_ (fun hHeld => ?_)
      ·exact sbT
      clear hK K
      (try simp only [Act.put, putS])
      refine wpAnyH_done (by kernel_rfl) ?_ _
      go_wp2_with fail
      refine (HI.out _).mono ?_
      rintro e w5 ⟨rfl, hb⟩
      rw [HB0.out]
      have q5B : Below w.heap.size w w5 := qB hb
      have q5z := hb.size
      try simp at q5z
      have q5t : w.heap.size ≤ w5.heap.size := (by omega)
      obtain ⟨q5s0, q5n0_0, q5n0_1, q5n0_2⟩ := kB w5.heap.size w1.heap.size
      obtain ⟨q5c0_0, q5c0_1, q5f0⟩ := kC2 hb w1.heap.size
      simp [go_sem, *] at q5c0_0 q5c0_1 q5f0
      have q5o := belO q5B
      clear hb q1o q1f0 q1c0_1 q1c0_0 q1s0 q1z q1B
      go_wp2_with fail
      refine bodyPost_ret (by simp [results, Tryz.results109, go_sem, *] <;> rfl) rfl ⟨?_, ?_⟩
      ·rw [HE1.out, HIV.out]
      (repeat (first | (with_reducible first | exact Below.refl _ _ | assumption | refine Below.drew ?_) | ((with_reducible first | refine Below.alloc ?_ ?_ _ | refine Below.setCell ?_ ?_ _); rotate_left; (first | omega | (simp <;> omega)))))
     exact AllReadyH.nil
    exact AllReadyH.nil
   exact AllReadyH.nil
  ·subst hr0
   have hq0 : y = q := by have := HE.out; rw [mr_zero] at this; omega
   subst hq0
   have HB0 := hide hb0
   clear hb0
   go_enter Tryz.func109, Tryz.ntmps109
   go_wp2_with fail
   refine (rvalid6 _).mono ?_
   rintro e w0 ⟨rfl, rfl⟩
   go_wp2_with fail
   refine (HD.out _).mono ?_
   rintro e w1 ⟨rfl, hb⟩
   have q1B : Below w.heap.size w w1 := qB hb
   have q1z := hb.size
   try simp at q1z
   have q1t : w.heap.size ≤ w1.heap.size := (by omega)
   obtain ⟨q1s0, q1n0_0, q1n0_1, q1n0_2⟩ := kB w1.heap.size w.heap.size
   obtain ⟨q1c0_0, q1c0_1, q1f0⟩ := kC2 hb w.heap.size
   simp [go_sem, *] at q1c0_0 q1c0_1 q1f0
   have q1o := belO q1B
   clear hb
   go_wp2_with fail
   refine (HI.out _).mono ?_
   rintro e w5 ⟨rfl, hb⟩
   rw [HB0.out]
   have q5B : Below w.heap.size w w5 := qB hb
   have q5z := hb.size
   try simp at q5z
   have q5t : w.heap.size ≤ w5.heap.size := (by omega)
   obtain ⟨q5s0, q5n0_0, q5n0_1, q5n0_2⟩ := kB w5.heap.size w1.heap.size
   obtain ⟨q5c0_0, q5c0_1, q5f0⟩ := kC2 hb w1.heap.size
   simp [go_sem, *] at q5c0_0 q5c0_1 q5f0
   have q5o := belO q5B
   clear hb q1o q1f0 q1c0_1 q1c0_0 q1s0 q1z q1B
   go_wp2_with fail
   refine bodyPost_ret (by simp [results, Tryz.results109, go_sem, *] <;> rfl) rfl ⟨?_, ?_⟩
   ·rw [HE1.out, HIV.out]
   (repeat (first | (with_reducible first | exact Below.refl _ _ | assumption | refine Below.drew ?_) | ((with_reducible first | refine Below.alloc ?_ ?_ _ | refine Below.setCell ?_ ?_ _); rotate_left; (first | omega | (simp <;> omega)))))
/-- What Amount answers: the amount, some rest, an error. -/
def raE (x : Int) : Int := if -1000000000000 ≤ rnd x ∧ rnd x ≤ 1000000000000 then 0 else 6
def raV (x : Int) : Int := if -1000000000000 ≤ rnd x ∧ rnd x ≤ 1000000000000 then rnd x else 0
def AmRet (x : Int) (w : World) (e : Ending) (w' : World) : Prop := ∃ h l, e = .returned (.tuple #[.int .i64 (raV x), .agg #[.int .i64 h, .int .u64 l], .int .i64 (raE x)]) ∧ Below w.heap.size w w'
theorem am_no {x : Int} (h : ¬ (-1000000000000 ≤ rnd x ∧ rnd x ≤ 1000000000000)) : raE x = 6 ∧ raV x = 0 := ⟨if_neg h, if_neg h⟩
theorem am_yes {x : Int} (h : -1000000000000 ≤ rnd x ∧ rnd x ≤ 1000000000000) : raE x = 0 ∧ raV x = rnd x := ⟨if_pos h, if_pos h⟩
theorem amRet_of {x n E : Int} {h l : Int} {w w' : World} {e : Ending} (hx : raE x = E ∧ raV x = n) (he : e = .returned (.tuple #[.int .i64 n, .agg #[.int .i64 h, .int .u64 l], .int .i64 E])) (hb : Below w.heap.size w w') : AmRet x w e w' := by
 obtain ⟨rfl, rfl⟩ := hx
 exact ⟨h, l, he, hb⟩
def AmCut (w : World) (v9 v10 : Value) (wx : World) : Prop :=
 ∃ g a b, v9 = .pointer (some ⟨g, 0, none⟩) ∧ (∃ c, v10 = .int .i64 c) ∧ Below w.heap.size w wx ∧ w.heap.size + 1 < wx.heap.size ∧
  (wx.cell? ⟨g, 0, none⟩ = some (.int .i64 a) ∧ wx.cell? ⟨g, 1, none⟩ = some (.int .u64 b)) ∧ (g < wx.heap.size ∧ ¬ g = w.heap.size + 1) ∧
  (wx.cell? ⟨w.heap.size + 1, 0, none⟩ = some (.int .i64 0) ∧ wx.cell? ⟨w.heap.size + 1, 1, none⟩ = some (.int .u64 0) ∧ ∀ o, wx.frozen? ⟨w.heap.size + 1, o, none⟩ = false)
set_option maxHeartbeats 4000000 in
theorem amount_any (x : Int) (hx : WIn x) (w : World) : Calls Tryz.prog 69 #[.agg #[.int .i64 (hiW x), .int .u64 (loW x)], .int .i64 6] w (AmRet x w) := by
 have HD := hide (rdivide_any x hx)
 obtain ⟨n, hn⟩ : ∃ n, n = iV (rnd x) := ⟨_, rfl⟩
 obtain ⟨E, hE⟩ : ∃ E, E = dvE x := ⟨_, rfl⟩
 rw [← hn, ← hE] at HD
 by_cases hb : iB (rnd x) = true
 ·have he : E = 0 := by rw [hE]; exact if_pos hb
  have hy : n = rnd x := by rw [hn]; exact if_pos (of_decide_eq_true hb)
  have hnb : -9223372036854775808 ≤ n ∧ n ≤ 9223372036854775807 := by rw [hy]; exact of_decide_eq_true hb
  subst he
  by_cases hg : -1000000000000 ≤ n ∧ n ≤ 1000000000000
  ·have HG := hide (decide_eq_true hg)
   have HV := hide (show raE x = 0 ∧ raV x = n from by have := am_yes (x := x) (by rw [← hy]; exact hg); rw [hy]; exact this)
   have HX := hide hx
   have n1 := hnb.1
   have n2 := hnb.2
   clear hn hE hy hb hg hnb hx
   go_enter Tryz.func69, Tryz.ntmps69
   go_wp2_with fail
   refine (HD.out _).mono ?_
   rintro e w1 ⟨rfl, hb⟩
   have q1B : Below w.heap.size w w1 := qB hb
   have q1z := hb.size
   try simp at q1z
   have q1t : w.heap.size ≤ w1.heap.size := (by omega)
   obtain ⟨q1s0, q1n0_0, q1n0_1, q1n0_2⟩ := kB w1.heap.size w.heap.size
   obtain ⟨q1c0_0, q1c0_1, q1f0⟩ := kC2 hb w.heap.size
   simp [go_sem, *] at q1c0_0 q1c0_1 q1f0
   obtain ⟨q1s1, q1n1_0, q1n1_1, q1n1_2⟩ := kB w1.heap.size (w.heap.size + 1)
   obtain ⟨q1c1_0, q1c1_1, q1f1⟩ := kC2 hb (w.heap.size + 1)
   simp [go_sem, *] at q1c1_0 q1c1_1 q1f1
   have q1o := belO q1B
   clear hb
   go_wp2_with fail
   refine (ramt_any n _).mono ?_
   rintro e w0 ⟨rfl, rfl⟩
   rw [HG.out]
   go_upto_region 6 with fail
   go_cut [9, 10] (fun v9 v10 wx => AmCut w v9 v10 wx)
   case first =>
    refine ord_start (SB (w1.heap.size) [] _) 10 (preB 0 10) (by kernel_rfl) (by kernel_rfl) (by kernel_rfl) SB.refl.drew (fun hHeld => ?_)
    refine oS (i := 0) (preB 1 9) rfl hHeld ?_
    (try simp only [Act.put, putS])
    refine oS (i := 1) (preB 2 8) rfl hHeld ?_
    (try simp only [Act.put, putS])
    refine wpAnyH_ready (rs := [2, 7]) (by kernel_rfl) (by simp) ?_
    refine ord_run (i := 2) (preB 3 7) rfl (by kernel_rfl) (by rfl) (fun K hK => ?_) ?_
    ·go_simp
     go_wp2_with (go_at_call 111; refine (wmul_any n 1603080000000 n1 n2 (by decide) (by decide) _).mono ?_; rintro e w2 ⟨rfl, hb⟩; (first | (have q2B : Below w.heap.size w w2 := qB hb; have q2z := hb.size; (try simp at q2z); have q2t : w.heap.size ≤ w2.heap.size := (by omega); have q2s0 : w.heap.size + 1 < w2.heap.size := (by omega); obtain ⟨q2n0_0, q2n0_1, q2n0_2⟩ := kN q2s0; obtain ⟨q2c0_0, q2c0_1, q2f0⟩ := kC2 hb (w.heap.size + 1); simp [go_sem, *] at q2c0_0 q2c0_1 q2f0; have q2s1 : w1.heap.size < w2.heap.size := (by omega); obtain ⟨q2n1_0, q2n1_1, q2n1_2⟩ := kN q2s1; obtain ⟨q2c1_0, q2c1_1, q2f1⟩ := kC2 hb w1.heap.size; simp [go_sem, *] at q2c1_0 q2c1_1 q2f1; have q2o := belO q2B; have hbS := hb; have hbS2 := hb; clear hb) | (have q2B : Below w.heap.size w w2 := qB hb; have q2z := hb.size; (try simp at q2z); have q2t : w.heap.size ≤ w2.heap.size := (by omega); have q2s0 : w.heap.size + 1 < w2.heap.size := (by omega); obtain ⟨q2n0_0, q2n0_1, q2n0_2⟩ := kN q2s0; obtain ⟨q2c0_0, q2c0_1, q2f0⟩ := kC2 hb (w.heap.size + 1); simp [go_sem, *] at q2c0_0 q2c0_1 q2f0; have q2o := belO q2B; have hbS := hb; have hbS2 := hb; clear hb)))
     refine hK.out _ _ ?_ (fun hHeld => ?_)
     ·exact sbT
     clear hK K
     (try simp only [Act.put, putS])
     refine wpAnyH_ready (rs := [3, 7]) (by kernel_rfl) (by simp) ?_
     refine ord_run (i := 3) (preB 4 6) rfl (by kernel_rfl) (by rfl) (fun K hK => ?_) ?_
     ·go_simp
      go_wp2_with (go_at_call 24; refine (wsub_any x (n * 1603080000000) HX.out (mul_win n1 n2 (by decide) (by decide)) _).mono ?_; rintro e w3 ⟨rfl, hb⟩; (first | (have q3B : Below w.heap.size w w3 := qB hb; have q3z := hb.size; (try simp at q3z); have q3t : w.heap.size ≤ w3.heap.size := (by omega); have q3s0 : w.heap.size + 1 < w3.heap.size := (by omega); obtain ⟨q3n0_0, q3n0_1, q3n0_2⟩ := kN q3s0; obtain ⟨q3c0_0, q3c0_1, q3f0⟩ := kC2 hb (w.heap.size + 1); simp [go_sem, *] at q3c0_0 q3c0_1 q3f0; have q3s1 : w1.heap.size < w3.heap.size := (by omega); obtain ⟨q3n1_0, q3n1_1, q3n1_2⟩ := kN q3s1; obtain ⟨q3c1_0, q3c1_1, q3f1⟩ := kC2 hb w1.heap.size; simp [go_sem, *] at q3c1_0 q3c1_1 q3f1; have q3o := belO q3B; have hbS := hb; have hbS3 := hb; clear hb) | (have q3B : Below w.heap.size w w3 := qB hb; have q3z := hb.size; (try simp at q3z); have q3t : w.heap.size ≤ w3.heap.size := (by omega); have q3s0 : w.heap.size + 1 < w3.heap.size := (by omega); obtain ⟨q3n0_0, q3n0_1, q3n0_2⟩ := kN q3s0; obtain ⟨q3c0_0, q3c0_1, q3f0⟩ := kC2 hb (w.heap.size + 1); simp [go_sem, *] at q3c0_0 q3c0_1 q3f0; have q3s1 : w2.heap.size < w3.heap.size := (by omega); obtain ⟨q3n1_0, q3n1_1, q3n1_2⟩ := kN q3s1; obtain ⟨q3c1_0, q3c1_1, q3f1⟩ := kC2 hb w2.heap.size; simp [go_sem, *] at q3c1_0 q3c1_1 q3f1; have q3o := belO q3B; have hbS := hb; have hbS3 := hb; clear hb) | (have q3B : Below w.heap.size w w3 := qB hb; have q3z := hb.size; (try simp at q3z); have q3t : w.heap.size ≤ w3.heap.size := (by omega); have q3s0 : w.heap.size + 1 < w3.heap.size := (by omega); obtain ⟨q3n0_0, q3n0_1, q3n0_2⟩ := kN q3s0; obtain ⟨q3c0_0, q3c0_1, q3f0⟩ := kC2 hb (w.heap.size + 1); simp [go_sem, *] at q3c0_0 q3c0_1 q3f0; have q3o := belO q3B; have hbS := hb; have hbS3 := hb; clear hb)))
      refine hK.out _ _ ?_ (fun hHeld => ?_)
      ·exact sbT
      clear hK K
      (try simp only [Act.put, putS])
      refine oS (i := 4) (preB 5 5) rfl hHeld ?_
      (try simp only [Act.put, putS])
      refine oS (i := 5) (preB 6 4) rfl hHeld ?_
      (try simp only [Act.put, putS])
      refine oS (i := 6) (preB 7 3) rfl hHeld ?_
      (try simp only [Act.put, putS])
      refine wpAnyH_ready (rs := [7]) (by kernel_rfl) (by simp) ?_
      refine ord_run (i := 7) (preB 8 2) rfl (by kernel_rfl) (by rfl) (fun K hK => ?_) AllReadyH.nil
      go_simp
      refine hK.out _ _ ?_ (fun hHeld => ?_)
      ·exact sbT
      clear hK K
      (try simp only [Act.put, putS])
      refine wpAnyH_ready (rs := [8]) (by kernel_rfl) (by simp) ?_
      refine ord_run (i := 8) (preB 9 1) rfl (by kernel_rfl) (by rfl) (fun K hK => ?_) AllReadyH.nil
      go_simp
      refine hK.out _ _ ?_ (fun hHeld => ?_)
      ·exact sbT
      clear hK K
      (try simp only [Act.put, putS])
      refine oS (i := 9) (preB 10 0) rfl hHeld ?_
      (try simp only [Act.put, putS])
      refine wpAnyH_done (by kernel_rfl) ?_ _
      go_wp2_with fail; go_meet; exact ⟨_, hiW (fitR (x - n * 1603080000000)), loW (fitR (x - n * 1603080000000)), rfl, ⟨_, rfl⟩, belT, (by simp; omega), ⟨(by simp [go_sem, *]), (by simp [go_sem, *])⟩, ⟨(by first | omega | (simp <;> omega)), (by first | omega | (simp <;> omega))⟩, ⟨(by simp [go_sem, *]), (by simp [go_sem, *]), (by simp [go_sem, *])⟩⟩
     refine ord_run (i := 7) #[true, true, true, false, false, false, false, true, false, false] rfl (by kernel_rfl) (by rfl) (fun K hK => ?_) ?_
     ·go_simp
      refine hK.out _ _ ?_ (fun hHeld => ?_)
      ·exact sbT
      clear hK K
      (try simp only [Act.put, putS])
      refine wpAnyH_ready (rs := [3]) (by kernel_rfl) (by simp) ?_
      refine ord_run (i := 3) #[true, true, true, true, false, false, false, true, false, false] rfl (by kernel_rfl) (by rfl) (fun K hK => ?_) AllReadyH.nil
      go_simp
      go_wp2_with (go_at_call 24; refine (wsub_any x (n * 1603080000000) HX.out (mul_win n1 n2 (by decide) (by decide)) _).mono ?_; rintro e w3 ⟨rfl, hb⟩; (first | (have q3B : Below w.heap.size w w3 := qB hb; have q3z := hb.size; (try simp at q3z); have q3t : w.heap.size ≤ w3.heap.size := (by omega); have q3s0 : w.heap.size + 1 < w3.heap.size := (by omega); obtain ⟨q3n0_0, q3n0_1, q3n0_2⟩ := kN q3s0; obtain ⟨q3c0_0, q3c0_1, q3f0⟩ := kC2 hb (w.heap.size + 1); simp [go_sem, *] at q3c0_0 q3c0_1 q3f0; have q3s1 : w1.heap.size < w3.heap.size := (by omega); obtain ⟨q3n1_0, q3n1_1, q3n1_2⟩ := kN q3s1; obtain ⟨q3c1_0, q3c1_1, q3f1⟩ := kC2 hb w1.heap.size; simp [go_sem, *] at q3c1_0 q3c1_1 q3f1; have q3o := belO q3B; have hbS := hb; have hbS3 := hb; clear hb) | (have q3B : Below w.heap.size w w3 := qB hb; have q3z := hb.size; (try simp at q3z); have q3t : w.heap.size ≤ w3.heap.size := (by omega); have q3s0 : w.heap.size + 1 < w3.heap.size := (by omega); obtain ⟨q3n0_0, q3n0_1, q3n0_2⟩ := kN q3s0; obtain ⟨q3c0_0, q3c0_1, q3f0⟩ := kC2 hb (w.heap.size + 1); simp [go_sem, *] at q3c0_0 q3c0_1 q3f0; have q3s1 : w2.heap.size < w3.heap.size := (by omega); obtain ⟨q3n1_0, q3n1_1, q3n1_2⟩ := kN q3s1; obtain ⟨q3c1_0, q3c1_1, q3f1⟩ := kC2 hb w2.heap.size; simp [go_sem, *] at q3c1_0 q3c1_1 q3f1; have q3o := belO q3B; have hbS := hb; have hbS3 := hb; clear hb) | (have q3B : Below w.heap.size w w3 := qB hb; have q3z := hb.size; (try simp at q3z); have q3t : w.heap.size ≤ w3.heap.size := (by omega); have q3s0 : w.heap.size + 1 < w3.heap.size := (by omega); obtain ⟨q3n0_0, q3n0_1, q3n0_2⟩ := kN q3s0; obtain ⟨q3c0_0, q3c0_1, q3f0⟩ := kC2 hb (w.heap.size + 1); simp [go_sem, *] at q3c0_0 q3c0_1 q3f0; have q3o := belO q3B; have hbS := hb; have hbS3 := hb; clear hb)))
      refine hK.out _ _ ?_ (fun hHeld => ?_)
      ·exact sbT
      clear hK K
      (try simp only [Act.put, putS])
      refine oS (i := 4) #[true, true, true, true, true, false, false, true, false, false] rfl hHeld ?_
      (try simp only [Act.put, putS])
      refine oS (i := 5) #[true, true, true, true, true, true, false, true, false, false] rfl hHeld ?_
      (try simp only [Act.put, putS])
      refine oS (i := 6) (preB 8 2) rfl hHeld ?_
      (try simp only [Act.put, putS])
      refine wpAnyH_ready (rs := [8]) (by kernel_rfl) (by simp) ?_
      refine ord_run (i := 8) (preB 9 1) rfl (by kernel_rfl) (by rfl) (fun K hK => ?_) AllReadyH.nil
      go_simp
      refine hK.out _ _ ?_ (fun hHeld => ?_)
      ·exact sbT
      clear hK K
      (try simp only [Act.put, putS])
      refine oS (i := 9) (preB 10 0) rfl hHeld ?_
      (try simp only [Act.put, putS])
      refine wpAnyH_done (by kernel_rfl) ?_ _
      go_wp2_with fail; go_meet; exact ⟨_, hiW (fitR (x - n * 1603080000000)), loW (fitR (x - n * 1603080000000)), rfl, ⟨_, rfl⟩, belT, (by simp; omega), ⟨(by simp [go_sem, *]), (by simp [go_sem, *])⟩, ⟨(by first | omega | (simp <;> omega)), (by first | omega | (simp <;> omega))⟩, ⟨(by simp [go_sem, *]), (by simp [go_sem, *]), (by simp [go_sem, *])⟩⟩
     exact AllReadyH.nil
    refine ord_run (i := 7) #[true, true, false, false, false, false, false, true, false, false] rfl (by kernel_rfl) (by rfl) (fun K hK => ?_) ?_
    ·go_simp
     refine hK.out _ _ ?_ (fun hHeld => ?_)
     ·exact sbT
     clear hK K
     (try simp only [Act.put, putS])
     refine wpAnyH_ready (rs := [2]) (by kernel_rfl) (by simp) ?_
     refine ord_run (i := 2) #[true, true, true, false, false, false, false, true, false, false] rfl (by kernel_rfl) (by rfl) (fun K hK => ?_) AllReadyH.nil
     go_simp
     go_wp2_with (go_at_call 111; refine (wmul_any n 1603080000000 n1 n2 (by decide) (by decide) _).mono ?_; rintro e w2 ⟨rfl, hb⟩; (first | (have q2B : Below w.heap.size w w2 := qB hb; have q2z := hb.size; (try simp at q2z); have q2t : w.heap.size ≤ w2.heap.size := (by omega); have q2s0 : w.heap.size + 1 < w2.heap.size := (by omega); obtain ⟨q2n0_0, q2n0_1, q2n0_2⟩ := kN q2s0; obtain ⟨q2c0_0, q2c0_1, q2f0⟩ := kC2 hb (w.heap.size + 1); simp [go_sem, *] at q2c0_0 q2c0_1 q2f0; have q2s1 : w1.heap.size < w2.heap.size := (by omega); obtain ⟨q2n1_0, q2n1_1, q2n1_2⟩ := kN q2s1; obtain ⟨q2c1_0, q2c1_1, q2f1⟩ := kC2 hb w1.heap.size; simp [go_sem, *] at q2c1_0 q2c1_1 q2f1; have q2o := belO q2B; have hbS := hb; have hbS2 := hb; clear hb) | (have q2B : Below w.heap.size w w2 := qB hb; have q2z := hb.size; (try simp at q2z); have q2t : w.heap.size ≤ w2.heap.size := (by omega); have q2s0 : w.heap.size + 1 < w2.heap.size := (by omega); obtain ⟨q2n0_0, q2n0_1, q2n0_2⟩ := kN q2s0; obtain ⟨q2c0_0, q2c0_1, q2f0⟩ := kC2 hb (w.heap.size + 1); simp [go_sem, *] at q2c0_0 q2c0_1 q2f0; have q2o := belO q2B; have hbS := hb; have hbS2 := hb; clear hb)))
     refine hK.out _ _ ?_ (fun hHeld => ?_)
     ·exact sbT
     clear hK K
     (try simp only [Act.put, putS])
     refine wpAnyH_ready (rs := [3]) (by kernel_rfl) (by simp) ?_
     refine ord_run (i := 3) #[true, true, true, true, false, false, false, true, false, false] rfl (by kernel_rfl) (by rfl) (fun K hK => ?_) AllReadyH.nil
     go_simp
     go_wp2_with (go_at_call 24; refine (wsub_any x (n * 1603080000000) HX.out (mul_win n1 n2 (by decide) (by decide)) _).mono ?_; rintro e w3 ⟨rfl, hb⟩; (first | (have q3B : Below w.heap.size w w3 := qB hb; have q3z := hb.size; (try simp at q3z); have q3t : w.heap.size ≤ w3.heap.size := (by omega); have q3s0 : w.heap.size + 1 < w3.heap.size := (by omega); obtain ⟨q3n0_0, q3n0_1, q3n0_2⟩ := kN q3s0; obtain ⟨q3c0_0, q3c0_1, q3f0⟩ := kC2 hb (w.heap.size + 1); simp [go_sem, *] at q3c0_0 q3c0_1 q3f0; have q3s1 : w1.heap.size < w3.heap.size := (by omega); obtain ⟨q3n1_0, q3n1_1, q3n1_2⟩ := kN q3s1; obtain ⟨q3c1_0, q3c1_1, q3f1⟩ := kC2 hb w1.heap.size; simp [go_sem, *] at q3c1_0 q3c1_1 q3f1; have q3o := belO q3B; have hbS := hb; have hbS3 := hb; clear hb) | (have q3B : Below w.heap.size w w3 := qB hb; have q3z := hb.size; (try simp at q3z); have q3t : w.heap.size ≤ w3.heap.size := (by omega); have q3s0 : w.heap.size + 1 < w3.heap.size := (by omega); obtain ⟨q3n0_0, q3n0_1, q3n0_2⟩ := kN q3s0; obtain ⟨q3c0_0, q3c0_1, q3f0⟩ := kC2 hb (w.heap.size + 1); simp [go_sem, *] at q3c0_0 q3c0_1 q3f0; have q3s1 : w2.heap.size < w3.heap.size := (by omega); obtain ⟨q3n1_0, q3n1_1, q3n1_2⟩ := kN q3s1; obtain ⟨q3c1_0, q3c1_1, q3f1⟩ := kC2 hb w2.heap.size; simp [go_sem, *] at q3c1_0 q3c1_1 q3f1; have q3o := belO q3B; have hbS := hb; have hbS3 := hb; clear hb) | (have q3B : Below w.heap.size w w3 := qB hb; have q3z := hb.size; (try simp at q3z); have q3t : w.heap.size ≤ w3.heap.size := (by omega); have q3s0 : w.heap.size + 1 < w3.heap.size := (by omega); obtain ⟨q3n0_0, q3n0_1, q3n0_2⟩ := kN q3s0; obtain ⟨q3c0_0, q3c0_1, q3f0⟩ := kC2 hb (w.heap.size + 1); simp [go_sem, *] at q3c0_0 q3c0_1 q3f0; have q3o := belO q3B; have hbS := hb; have hbS3 := hb; clear hb)))
     refine hK.out _ _ ?_ (fun hHeld => ?_)
     ·exact sbT
     clear hK K
     (try simp only [Act.put, putS])
     refine oS (i := 4) #[true, true, true, true, true, false, false, true, false, false] rfl hHeld ?_
     (try simp only [Act.put, putS])
     refine oS (i := 5) #[true, true, true, true, true, true, false, true, false, false] rfl hHeld ?_
     (try simp only [Act.put, putS])
     refine oS (i := 6) (preB 8 2) rfl hHeld ?_
     (try simp only [Act.put, putS])
     refine wpAnyH_ready (rs := [8]) (by kernel_rfl) (by simp) ?_
     refine ord_run (i := 8) (preB 9 1) rfl (by kernel_rfl) (by rfl) (fun K hK => ?_) AllReadyH.nil
     go_simp
     refine hK.out _ _ ?_ (fun hHeld => ?_)
     ·exact sbT
     clear hK K
     (try simp only [Act.put, putS])
     refine oS (i := 9) (preB 10 0) rfl hHeld ?_
     (try simp only [Act.put, putS])
     refine wpAnyH_done (by kernel_rfl) ?_ _
     go_wp2_with fail; go_meet; exact ⟨_, hiW (fitR (x - n * 1603080000000)), loW (fitR (x - n * 1603080000000)), rfl, ⟨_, rfl⟩, belT, (by simp; omega), ⟨(by simp [go_sem, *]), (by simp [go_sem, *])⟩, ⟨(by first | omega | (simp <;> omega)), (by first | omega | (simp <;> omega))⟩, ⟨(by simp [go_sem, *]), (by simp [go_sem, *]), (by simp [go_sem, *])⟩⟩
    exact AllReadyH.nil
   case rest =>
    obtain ⟨g, a, b, rfl, ⟨c, rfl⟩, hB, hz, ⟨cg0, cg1⟩, ⟨hg, hgn⟩, ⟨cr0, cr1, crf⟩⟩ := hcut
    go_wp2_with fail
    refine wp_region_seq (SB (wc.heap.size) [w.heap.size + 1] _) [true, true, true, false, true] (by kernel_rfl) (by kernel_rfl) rfl (by kernel_rfl) (fun _ _ d _ _ h => by cases d <;> exact h) SB.refl.drew (fun hHeld => ?_)
    refine seq_take ?_ (by rfl) (fun wx hSx => ?_) ?_
    rotate_left
    ·(unfold SB at hSx; go_simp; (try with_reducible rfl))
    (try simp only [Act.put, putS])
    refine seq_take ?_ (by rfl) (fun wx hSx => ?_) ?_
    rotate_left
    ·(unfold SB at hSx; go_simp; (try with_reducible rfl))
    (try simp only [Act.put, putS])
    refine seq_take ?_ (by rfl) (fun wx hSx => ?_) ?_
    rotate_left
    ·(unfold SB at hSx; go_simp; (try with_reducible rfl))
    (try simp only [Act.put, putS])
    refine seq_run (by rfl) (fun K hK => ?_)
    go_simp
    refine hK.out _ _ ?_ (fun hHeld => ?_)
    ·exact sbT
    clear hK K
    (try simp only [Act.put, putS])
    refine seq_take ?_ (by rfl) (fun wx hSx => ?_) ?_
    rotate_left
    ·(unfold SB at hSx; go_simp; (try with_reducible rfl))
    (try simp only [Act.put, putS])
    refine seq_end ?_
    go_wp2_with fail
    refine bodyPost_ret (by simp [results, Tryz.results69, go_sem, *] <;> rfl) rfl ?_
    refine amRet_of HV.out (by with_reducible rfl) ?_
    (repeat (first | (with_reducible first | exact Below.refl _ _ | assumption | refine Below.drew ?_) | ((with_reducible first | refine Below.alloc ?_ ?_ _ | refine Below.setCell ?_ ?_ _); rotate_left; (first | omega | (simp <;> omega)))))
  ·have HG := hide (decide_eq_false hg)
   have HV := hide (am_no (x := x) (by rw [← hy]; exact hg))
   clear hn hE hy hb hg hnb hx
   go_enter Tryz.func69, Tryz.ntmps69
   go_wp2_with fail
   refine (HD.out _).mono ?_
   rintro e w1 ⟨rfl, hb⟩
   have q1B : Below w.heap.size w w1 := qB hb
   have q1z := hb.size
   try simp at q1z
   have q1t : w.heap.size ≤ w1.heap.size := (by omega)
   obtain ⟨q1s0, q1n0_0, q1n0_1, q1n0_2⟩ := kB w1.heap.size w.heap.size
   obtain ⟨q1c0_0, q1c0_1, q1f0⟩ := kC2 hb w.heap.size
   simp [go_sem, *] at q1c0_0 q1c0_1 q1f0
   obtain ⟨q1s1, q1n1_0, q1n1_1, q1n1_2⟩ := kB w1.heap.size (w.heap.size + 1)
   obtain ⟨q1c1_0, q1c1_1, q1f1⟩ := kC2 hb (w.heap.size + 1)
   simp [go_sem, *] at q1c1_0 q1c1_1 q1f1
   have q1o := belO q1B
   clear hb
   go_wp2_with fail
   refine (ramt_any n _).mono ?_
   rintro e w0 ⟨rfl, rfl⟩
   rw [HG.out]
   go_wp2_with fail
   refine bodyPost_ret (by simp [results, Tryz.results69, go_sem, *] <;> rfl) rfl ?_
   refine amRet_of HV.out (by with_reducible rfl) ?_
   (repeat (first | (with_reducible first | exact Below.refl _ _ | assumption | refine Below.drew ?_) | ((with_reducible first | refine Below.alloc ?_ ?_ _ | refine Below.setCell ?_ ?_ _); rotate_left; (first | omega | (simp <;> omega)))))
 ·have he : E = 6 := by rw [hE]; exact if_neg hb
  have HV := hide (am_no (x := x) (fun h => hb (decide_eq_true (by omega))))
  subst he
  clear hn hE hb hx
  go_enter Tryz.func69, Tryz.ntmps69
  go_wp2_with fail
  refine (HD.out _).mono ?_
  rintro e w1 ⟨rfl, hb⟩
  have q1B : Below w.heap.size w w1 := qB hb
  have q1z := hb.size
  try simp at q1z
  have q1t : w.heap.size ≤ w1.heap.size := (by omega)
  obtain ⟨q1s0, q1n0_0, q1n0_1, q1n0_2⟩ := kB w1.heap.size w.heap.size
  obtain ⟨q1c0_0, q1c0_1, q1f0⟩ := kC2 hb w.heap.size
  simp [go_sem, *] at q1c0_0 q1c0_1 q1f0
  obtain ⟨q1s1, q1n1_0, q1n1_1, q1n1_2⟩ := kB w1.heap.size (w.heap.size + 1)
  obtain ⟨q1c1_0, q1c1_1, q1f1⟩ := kC2 hb (w.heap.size + 1)
  simp [go_sem, *] at q1c1_0 q1c1_1 q1f1
  have q1o := belO q1B
  clear hb
  go_wp2_with fail
  refine bodyPost_ret (by simp [results, Tryz.results69, go_sem, *] <;> rfl) rfl ?_
  refine amRet_of HV.out (by with_reducible rfl) ?_
  (repeat (first | (with_reducible first | exact Below.refl _ _ | assumption | refine Below.drew ?_) | ((with_reducible first | refine Below.alloc ?_ ?_ _ | refine Below.setCell ?_ ?_ _); rotate_left; (first | omega | (simp <;> omega)))))
end Go.Proofs.YtdjlaiilngechaaGreatDoor
