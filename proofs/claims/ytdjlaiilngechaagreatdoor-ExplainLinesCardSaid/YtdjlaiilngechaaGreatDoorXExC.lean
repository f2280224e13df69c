/- Texts laid together: ExC. -/
import Derived.Test.YtdjlaiilngechaaGreatDoorXEyp
import Derived.Test.YtdjlaiilngechaaGreatDoorXWc
import Derived.Test.YtdjlaiilngechaaGreatDoorXRc
import Derived.Test.YtdjlaiilngechaaGreatDoorXK0
namespace Go.Proofs.YtdjlaiilngechaaGreatDoor
set_option maxRecDepth 4000
set_option linter.unusedSimpArgs false
set_option linter.unusedVariables false
open Go.RowKit
theorem wof_any (n : Int) (h1 : -9223372036854775808 ≤ n) (h2 : n ≤ 9223372036854775807) (w : World) :
  Calls Tryz.prog 140 #[.int .i64 n] w fun e w' => e = .returned (.agg #[.int .i64 (hiW n), .int .u64 (loW n)]) ∧ Below w.heap.size w w' := by
 have h3 : n / 9223372036854775808 = hiW n := by unfold hiW; omega
 go_enter Tryz.func140, Tryz.ntmps140
 go_wp2_with fail
 refine bodyPost_ret (by simp [results, Tryz.results140, go_sem, *] <;> rfl) rfl ⟨?_, ?_⟩
 ·first | rfl | (rw [← h3]; rfl)
 (repeat (first | (with_reducible first | exact Below.refl _ _ | assumption | refine Below.drew ?_) | ((with_reducible first | refine Below.alloc ?_ ?_ _ | refine Below.setCell ?_ ?_ _); rotate_left; (first | omega | (simp <;> omega)))))
def iV (x : Int) : Int := if -9223372036854775808 ≤ x ∧ x ≤ 9223372036854775807 then x else 0
def iB (x : Int) : Bool := decide (-9223372036854775808 ≤ x ∧ x ≤ 9223372036854775807)
theorem wint_yes (x : Int) (h1 : -9223372036854775808 ≤ x) (h2 : x ≤ 9223372036854775807) (w : World) :
  Calls Tryz.prog 142 #[.agg #[.int .i64 (hiW x), .int .u64 (loW x)]] w fun e w' => e = .returned (.tuple #[.int .i64 x, .bool true]) ∧ Below w.heap.size w w' := by
 have h3 : IntKind.i64.wrap (loW x) = x := by rw [IntKind.wrap_i64]; unfold loW; omega
 go_enter Tryz.func142, Tryz.ntmps142
 go_wp2_with fail
 refine ord_start (SB (w.heap.size + 1) [] _) 4 #[false, false, false, false] (by kernel_rfl) (by kernel_rfl) (by kernel_rfl) SB.refl.drew (fun hHeld => ?_)
 refine oS (i := 0) #[true, false, false, false] rfl hHeld ?_
 (try simp only [Act.put, putS])
 refine oS (i := 2) #[true, false, true, false] rfl hHeld ?_
 (try simp only [Act.put, putS])
 refine wpAnyH_ready (rs := [1]) (by kernel_rfl) (by simp) ?_
 refine ord_run (i := 1) #[true, true, true, false] rfl (by kernel_rfl) (by rfl) (fun K hK => ?_) AllReadyH.nil
 go_simp
 go_wp2_with (go_at_call 140; refine (wof_any x h1 h2 _).mono ?_; rintro e w1 ⟨rfl, hb⟩; have q1B : Below w.heap.size w w1 := qB hb; have q1z := hb.size; (try simp at q1z); have q1t : w.heap.size ≤ w1.heap.size := (by omega); have q1s0 : w.heap.size < w1.heap.size := (by omega); obtain ⟨q1n0_0, q1n0_1, q1n0_2⟩ := kN q1s0; obtain ⟨q1c0_0, q1c0_1, q1f0⟩ := kC2 hb w.heap.size; simp [go_sem, *] at q1c0_0 q1c0_1 q1f0; have q1o := belO q1B; have hbS := hb; have hbS1 := hb; clear hb)
 refine hK.out _ _ ?_ (fun hHeld => ?_)
 ·exact sbT
 clear hK K
 (try simp only [Act.put, putS])
 refine oS (i := 3) #[true, true, true, true] rfl hHeld ?_
 (try simp only [Act.put, putS])
 refine wpAnyH_done (by kernel_rfl) ?_ _
 go_wp2_with fail
 refine bodyPost_ret (by simp [results, Tryz.results142, go_sem, *] <;> rfl) rfl ⟨?_, ?_⟩
 ·rfl
 (repeat (first | (with_reducible first | exact Below.refl _ _ | assumption | refine Below.drew ?_) | ((with_reducible first | refine Below.alloc ?_ ?_ _ | refine Below.setCell ?_ ?_ _); rotate_left; (first | omega | (simp <;> omega)))))
theorem wint_no (x : Int) (hx : WIn x) (h : ¬ (-9223372036854775808 ≤ x ∧ x ≤ 9223372036854775807)) (w : World) :
  Calls Tryz.prog 142 #[.agg #[.int .i64 (hiW x), .int .u64 (loW x)]] w fun e w' => e = .returned (.tuple #[.int .i64 0, .bool false]) ∧ Below w.heap.size w w' := by
 obtain ⟨y, hy⟩ : ∃ y, y = IntKind.i64.wrap (loW x) := ⟨_, rfl⟩
 have h3 := hy.symm
 have hyb : -9223372036854775808 ≤ y ∧ y ≤ 9223372036854775807 := by rw [hy, IntKind.wrap_i64]; omega
 have HN := hide (show hiW y = hiW x → ¬ loW y = loW x from by rw [hy, IntKind.wrap_i64]; unfold WIn at hx; unfold hiW loW; omega)
 obtain ⟨y1, y2⟩ := hyb
 clear hy hx h
 go_enter Tryz.func142, Tryz.ntmps142
 go_wp2_with fail
 refine ord_start (SB (w.heap.size + 1) [] _) 4 #[false, false, false, false] (by kernel_rfl) (by kernel_rfl) (by kernel_rfl) SB.refl.drew (fun hHeld => ?_)
 refine oS (i := 0) #[true, false, false, false] rfl hHeld ?_
 (try simp only [Act.put, putS])
 refine oS (i := 2) #[true, false, true, false] rfl hHeld ?_
 (try simp only [Act.put, putS])
 refine wpAnyH_ready (rs := [1]) (by kernel_rfl) (by simp) ?_
 refine ord_run (i := 1) #[true, true, true, false] rfl (by kernel_rfl) (by rfl) (fun K hK => ?_) AllReadyH.nil
 go_simp
 go_wp2_with (go_at_call 140; refine (wof_any y y1 y2 _).mono ?_; rintro e w1 ⟨rfl, hb⟩; have q1B : Below w.heap.size w w1 := qB hb; have q1z := hb.size; (try simp at q1z); have q1t : w.heap.size ≤ w1.heap.size := (by omega); have q1s0 : w.heap.size < w1.heap.size := (by omega); obtain ⟨q1n0_0, q1n0_1, q1n0_2⟩ := kN q1s0; obtain ⟨q1c0_0, q1c0_1, q1f0⟩ := kC2 hb w.heap.size; simp [go_sem, *] at q1c0_0 q1c0_1 q1f0; have q1o := belO q1B; have hbS := hb; have hbS1 := hb; clear hb)
 refine hK.out _ _ ?_ (fun hHeld => ?_)
 ·exact sbT
 clear hK K
 (try simp only [Act.put, putS])
 refine oT (i := 3) #[true, true, true, true] (.bool true) rfl hHeld (fun wx hSx => ?_) ?_
 ·(unfold SB at hSx; go_simp; exact HN.out)
 (try simp only [Act.put, putS])
 refine wpAnyH_done (by kernel_rfl) ?_ _
 go_wp2_with fail
 refine bodyPost_ret (by simp [results, Tryz.results142, go_sem, *] <;> rfl) rfl ⟨?_, ?_⟩
 ·rfl
 (repeat (first | (with_reducible first | exact Below.refl _ _ | assumption | refine Below.drew ?_) | ((with_reducible first | refine Below.alloc ?_ ?_ _ | refine Below.setCell ?_ ?_ _); rotate_left; (first | omega | (simp <;> omega)))))
theorem wint_any (x : Int) (hx : WIn x) (w : World) :
  Calls Tryz.prog 142 #[.agg #[.int .i64 (hiW x), .int .u64 (loW x)]] w fun e w' => e = .returned (.tuple #[.int .i64 (iV x), .bool (iB x)]) ∧ Below w.heap.size w w' := by
 unfold iV iB
 by_cases h : -9223372036854775808 ≤ x ∧ x ≤ 9223372036854775807
 ·rw [if_pos h, decide_eq_true h]
  exact wint_yes x h.1 h.2 w
 ·rw [if_neg h, decide_eq_false h]
  exact wint_no x hx h w
/-! ### wide.Div by the grains of a minor unit -/
def DivCut (q : Int) (w : World) (v9 v10 : Value) (wx : World) : Prop :=
 ∃ g, v9 = .pointer (some ⟨g, 0, none⟩) ∧ v10 = .int .i64 0 ∧ Below w.heap.size w wx ∧ w.heap.size + 1 < wx.heap.size ∧
  (wx.cell? ⟨g, 0, none⟩ = some (.int .i64 (hiW q)) ∧ wx.cell? ⟨g, 1, none⟩ = some (.int .u64 (loW q))) ∧ g < wx.heap.size ∧
  (wx.cell? ⟨w.heap.size + 1, 0, none⟩ = some (.int .i64 0) ∧ wx.cell? ⟨w.heap.size + 1, 1, none⟩ = some (.int .u64 0) ∧ ∀ o, wx.frozen? ⟨w.heap.size + 1, o, none⟩ = false)
theorem quo_in {m : Int} (h : MIn m) : MIn (m / 1603080000000) := by unfold MIn at *; omega
theorem quo_win {x : Int} (h : WIn x) : WIn (x / 1603080000000) := by unfold WIn at *; omega
set_option maxHeartbeats 4000000 in
theorem div_pos (x : Int) (hx : WIn x) (h0 : 0 ≤ x) (w : World) :
  Calls Tryz.prog 139 #[.agg #[.int .i64 (hiW x), .int .u64 (loW x)], .int .i64 1603080000000] w fun e w' => e = .returned (.tuple #[.agg #[.int .i64 (hiW (x / 1603080000000)), .int .u64 (loW (x / 1603080000000))], .int .i64 (x % 1603080000000), .int .i64 0]) ∧ Below w.heap.size w w' := by
 have HA := hide (absI_pos h0)
 have HM := hide (show MIn x from by unfold WIn at hx; unfold MIn; omega)
 have HQ := hide (quo_in HM.out)
 have HR := hide (show fitR (sgn false (x / 1603080000000)) = x / 1603080000000 ∧ fitE (sgn false (x / 1603080000000)) = 0 from by rw [sgn_f]; exact ⟨fitR_of (quo_win hx), fitE_of (quo_win hx)⟩)
 have h1 : 0 ≤ hiW x := by unfold hiW; omega
 have h2 : IntKind.i64.wrap (x % 1603080000000) = x % 1603080000000 := by rw [IntKind.wrap_i64]; omega
 go_enter Tryz.func139, Tryz.ntmps139
 go_wp2_with fail
 refine (absolute_any x hx _).mono ?_
 rintro e w1 ⟨rfl, hb⟩
 rw [HA.out]
 have q1B : Below w.heap.size w w1 := qB hb
 have q1z := hb.size
 try simp at q1z
 have q1t : w.heap.size ≤ w1.heap.size := (by omega)
 obtain ⟨q1s0, q1n0_0, q1n0_1, q1n0_2⟩ := kB w1.heap.size w.heap.size
 obtain ⟨q1c0_0, q1c0_1, q1f0⟩ := kC2 hb w.heap.size
 simp [go_sem, *] at q1c0_0 q1c0_1 q1f0
 obtain ⟨q1s1, q1n1_0, q1n1_1, q1n1_2⟩ := kB w1.heap.size (w.heap.size + 1)
 obtain ⟨q1c1_0, q1c1_1, q1f1⟩ := kC2 hb (w.heap.size + 1)
 simp [go_sem, *] at q1c1_0 q1c1_1 q1f1
 have q1o := belO q1B
 clear hb
 go_wp2_with fail
 refine (divide_any _ HM.out _).mono ?_
 rintro e w2 ⟨rfl, hb⟩
 have q2B : Below w.heap.size w w2 := qB hb
 have q2z := hb.size
 try simp at q2z
 have q2t : w.heap.size ≤ w2.heap.size := (by omega)
 obtain ⟨q2s0, q2n0_0, q2n0_1, q2n0_2⟩ := kB w2.heap.size w.heap.size
 obtain ⟨q2c0_0, q2c0_1, q2f0⟩ := kC2 hb w.heap.size
 simp [go_sem, *] at q2c0_0 q2c0_1 q2f0
 obtain ⟨q2s1, q2n1_0, q2n1_1, q2n1_2⟩ := kB w2.heap.size (w.heap.size + 1)
 obtain ⟨q2c1_0, q2c1_1, q2f1⟩ := kC2 hb (w.heap.size + 1)
 simp [go_sem, *] at q2c1_0 q2c1_1 q2f1
 have q2o := belO q2B
 clear hb q1o q1f1 q1c1_1 q1c1_0 q1s1 q1f0 q1c0_1 q1c0_0 q1s0 q1z q1B
 go_upto_region 7 with fail
 go_cut [9, 10] (fun v9 v10 wx => DivCut (x / 1603080000000) w v9 v10 wx)
 case first =>
  refine ord_start (SB (w2.heap.size + 1) [] _) 16 (preB 0 16) (by kernel_rfl) (by kernel_rfl) (by kernel_rfl) SB.refl.drew (fun hHeld => ?_)
  refine oS (i := 0) (preB 1 15) rfl hHeld ?_
  (try simp only [Act.put, putS])
  refine oS (i := 1) (preB 2 14) rfl hHeld ?_
  (try simp only [Act.put, putS])
  refine oS (i := 2) (preB 3 13) rfl hHeld ?_
  (try simp only [Act.put, putS])
  refine oS (i := 3) (preB 4 12) rfl hHeld ?_
  (try simp only [Act.put, putS])
  refine oS (i := 4) (preB 5 11) rfl hHeld ?_
  (try simp only [Act.put, putS])
  refine ord_skip (i := 5) (preB 6 10) rfl (by kernel_rfl) (by kernel_rfl) (by kernel_rfl) (by kernel_rfl) (fun _ _ _ h => h) hHeld (by rfl) ?_
  (try simp only [Act.put, putS])
  refine ord_skip (i := 6) (preB 7 9) rfl (by kernel_rfl) (by kernel_rfl) (by kernel_rfl) (by kernel_rfl) (fun _ _ _ h => h) hHeld (by rfl) ?_
  (try simp only [Act.put, putS])
  refine ord_skip (i := 7) (preB 8 8) rfl (by kernel_rfl) (by kernel_rfl) (by kernel_rfl) (by kernel_rfl) (fun _ _ _ h => h) hHeld (by rfl) ?_
  (try simp only [Act.put, putS])
  refine oS (i := 8) (preB 9 7) rfl hHeld ?_
  (try simp only [Act.put, putS])
  refine wpAnyH_ready (rs := [9, 13]) (by kernel_rfl) (by simp) ?_
  refine ord_run (i := 9) (preB 10 6) rfl (by kernel_rfl) (by rfl) (fun K hK => ?_) ?_
  ·go_simp
   go_wp2_with (go_at_call 161; refine (signed_any (x / 1603080000000) false HQ.out _).mono ?_; rintro e w4 ⟨rfl, hb⟩; rw [HR.out.1, HR.out.2]; (first | (have q4B : Below w.heap.size w w4 := qB hb; have q4z := hb.size; (try simp at q4z); have q4t : w.heap.size ≤ w4.heap.size := (by omega); have q4s0 : w.heap.size + 1 < w4.heap.size := (by omega); obtain ⟨q4n0_0, q4n0_1, q4n0_2⟩ := kN q4s0; obtain ⟨q4c0_0, q4c0_1, q4f0⟩ := kC2 hb (w.heap.size + 1); simp [go_sem, *] at q4c0_0 q4c0_1 q4f0; have q4s1 : w2.heap.size + 1 < w4.heap.size := (by omega); obtain ⟨q4n1_0, q4n1_1, q4n1_2⟩ := kN q4s1; obtain ⟨q4c1_0, q4c1_1, q4f1⟩ := kC2 hb (w2.heap.size + 1); simp [go_sem, *] at q4c1_0 q4c1_1 q4f1; have q4o := belO q4B; have hbS := hb; have hbS4 := hb; clear hb) | (have q4B : Below w.heap.size w w4 := qB hb; have q4z := hb.size; (try simp at q4z); have q4t : w.heap.size ≤ w4.heap.size := (by omega); have q4s0 : w.heap.size + 1 < w4.heap.size := (by omega); obtain ⟨q4n0_0, q4n0_1, q4n0_2⟩ := kN q4s0; obtain ⟨q4c0_0, q4c0_1, q4f0⟩ := kC2 hb (w.heap.size + 1); simp [go_sem, *] at q4c0_0 q4c0_1 q4f0; have q4o := belO q4B; have hbS := hb; have hbS4 := hb; clear hb)))
   refine hK.out _ _ ?_ (fun hHeld => ?_)
   ·exact sbT
   clear hK K
   (try simp only [Act.put, putS])
   refine oS (i := 10) (preB 11 5) rfl hHeld ?_
   (try simp only [Act.put, putS])
   refine oS (i := 11) (preB 12 4) rfl hHeld ?_
   (try simp only [Act.put, putS])
   refine oS (i := 12) (preB 13 3) rfl hHeld ?_
   (try simp only [Act.put, putS])
   refine wpAnyH_ready (rs := [13]) (by kernel_rfl) (by simp) ?_
   refine ord_run (i := 13) (preB 14 2) rfl (by kernel_rfl) (by rfl) (fun K hK => ?_) AllReadyH.nil
   go_simp
   refine hK.out _ _ ?_ (fun hHeld => ?_)
   ·exact sbT
   clear hK K
   (try simp only [Act.put, putS])
   refine wpAnyH_ready (rs := [14]) (by kernel_rfl) (by simp) ?_
   refine ord_run (i := 14) (preB 15 1) rfl (by kernel_rfl) (by rfl) (fun K hK => ?_) AllReadyH.nil
   go_simp
   refine hK.out _ _ ?_ (fun hHeld => ?_)
   ·exact sbT
   clear hK K
   (try simp only [Act.put, putS])
   refine oS (i := 15) (preB 16 0) rfl hHeld ?_
   (try simp only [Act.put, putS])
   refine wpAnyH_done (by kernel_rfl) ?_ _
   go_wp2_with fail; go_meet; exact ⟨_, rfl, rfl, belT, (by simp; omega), ⟨(by simp [go_sem, *]), (by simp [go_sem, *])⟩, (by first | omega | (simp <;> omega)), ⟨(by simp [go_sem, *]), (by simp [go_sem, *]), (by simp [go_sem, *])⟩⟩
  refine ord_run (i := 13) #[true, true, true, true, true, true, true, true, true, false, false, false, false, true, false, false] rfl (by kernel_rfl) (by rfl) (fun K hK => ?_) ?_
  ·go_simp
   refine hK.out _ _ ?_ (fun hHeld => ?_)
   ·exact sbT
   clear hK K
   (try simp only [Act.put, putS])
   refine wpAnyH_ready (rs := [9]) (by kernel_rfl) (by simp) ?_
   refine ord_run (i := 9) #[true, true, true, true, true, true, true, true, true, true, false, false, false, true, false, false] rfl (by kernel_rfl) (by rfl) (fun K hK => ?_) AllReadyH.nil
   go_simp
   go_wp2_with (go_at_call 161; refine (signed_any (x / 1603080000000) false HQ.out _).mono ?_; rintro e w4 ⟨rfl, hb⟩; rw [HR.out.1, HR.out.2]; (first | (have q4B : Below w.heap.size w w4 := qB hb; have q4z := hb.size; (try simp at q4z); have q4t : w.heap.size ≤ w4.heap.size := (by omega); have q4s0 : w.heap.size + 1 < w4.heap.size := (by omega); obtain ⟨q4n0_0, q4n0_1, q4n0_2⟩ := kN q4s0; obtain ⟨q4c0_0, q4c0_1, q4f0⟩ := kC2 hb (w.heap.size + 1); simp [go_sem, *] at q4c0_0 q4c0_1 q4f0; have q4s1 : w2.heap.size + 1 < w4.heap.size := (by omega); obtain ⟨q4n1_0, q4n1_1, q4n1_2⟩ := kN q4s1; obtain ⟨q4c1_0, q4c1_1, q4f1⟩ := kC2 hb (w2.heap.size + 1); simp [go_sem, *] at q4c1_0 q4c1_1 q4f1; have q4o := belO q4B; have hbS := hb; have hbS4 := hb; clear hb) | (have q4B : Below w.heap.size w w4 := qB hb; have q4z := hb.size; (try simp at q4z); have q4t : w.heap.size ≤ w4.heap.size := (by omega); have q4s0 : w.heap.size + 1 < w4.heap.size := (by omega); obtain ⟨q4n0_0, q4n0_1, q4n0_2⟩ := kN q4s0; obtain ⟨q4c0_0, q4c0_1, q4f0⟩ := kC2 hb (w.heap.size + 1); simp [go_sem, *] at q4c0_0 q4c0_1 q4f0; have q4o := belO q4B; have hbS := hb; have hbS4 := hb; clear hb)))
   refine hK.out _ _ ?_ (fun hHeld => ?_)
   ·exact sbT
   clear hK K
   (try simp only [Act.put, putS])
   refine oS (i := 10) #[true, true, true, true, true, true, true, true, true, true, true, false, false, true, false, false] rfl hHeld ?_
   (try simp only [Act.put, putS])
   refine oS (i := 11) #[true, true, true, true, true, true, true, true, true, true, true, true, false, true, false, false] rfl hHeld ?_
   (try simp only [Act.put, putS])
   refine oS (i := 12) (preB 14 2) rfl hHeld ?_
   (try simp only [Act.put, putS])
   refine wpAnyH_ready (rs := [14]) (by kernel_rfl) (by simp) ?_
   refine ord_run (i := 14) (preB 15 1) rfl (by kernel_rfl) (by rfl) (fun K hK => ?_) AllReadyH.nil
   go_simp
   refine hK.out _ _ ?_ (fun hHeld => ?_)
   ·exact sbT
   clear hK K
   (try simp only [Act.put, putS])
   refine oS (i := 15) (preB 16 0) rfl hHeld ?_
   (try simp only [Act.put, putS])
   refine wpAnyH_done (by kernel_rfl) ?_ _
   go_wp2_with fail; go_meet; exact ⟨_, rfl, rfl, belT, (by simp; omega), ⟨(by simp [go_sem, *]), (by simp [go_sem, *])⟩, (by first | omega | (simp <;> omega)), ⟨(by simp [go_sem, *]), (by simp [go_sem, *]), (by simp [go_sem, *])⟩⟩
  exact AllReadyH.nil
 case rest =>
  obtain ⟨g, rfl, rfl, hB, hz, ⟨cg0, cg1⟩, hg, ⟨cr0, cr1, crf⟩⟩ := hcut
  go_wp2_with fail
  refine bodyPost_ret (by simp [results, Tryz.results139, go_sem, *] <;> rfl) rfl ⟨?_, ?_⟩
  ·rfl
  (repeat (first | (with_reducible first | exact Below.refl _ _ | assumption | refine Below.drew ?_) | ((with_reducible first | refine Below.alloc ?_ ?_ _ | refine Below.setCell ?_ ?_ _); rotate_left; (first | omega | (simp <;> omega)))))
set_option maxHeartbeats 4000000 in
theorem div_neg0 (x : Int) (hx : WIn x) (h0 : x < 0) (h00 : x % 1603080000000 = 0) (w : World) :
  Calls Tryz.prog 139 #[.agg #[.int .i64 (hiW x), .int .u64 (loW x)], .int .i64 1603080000000] w fun e w' => e = .returned (.tuple #[.agg #[.int .i64 (hiW (x / 1603080000000)), .int .u64 (loW (x / 1603080000000))], .int .i64 (x % 1603080000000), .int .i64 0]) ∧ Below w.heap.size w w' := by
 have HA := hide (absI_neg h0)
 have HM := hide (show MIn (-x) from by unfold WIn at hx; unfold MIn; omega)
 have HQ := hide (quo_in HM.out)
 have HR := hide (show fitR (sgn true (-x / 1603080000000)) = x / 1603080000000 ∧ fitE (sgn true (-x / 1603080000000)) = 0 from by rw [sgn_t, show -(-x / 1603080000000) = x / 1603080000000 by omega]; exact ⟨fitR_of (quo_win hx), fitE_of (quo_win hx)⟩)
 have h1 : hiW x < 0 := by unfold hiW; omega
 have HZ := hide (show hiW (-x / 1603080000000) = 0 → ¬ loW (-x / 1603080000000) = 0 from by unfold WIn at hx; unfold hiW loW; omega)
 have h2 : (-x) % 1603080000000 = 0 := by omega
 have h3 := h00
 go_enter Tryz.func139, Tryz.ntmps139
 go_wp2_with fail
 refine (absolute_any x hx _).mono ?_
 rintro e w1 ⟨rfl, hb⟩
 rw [HA.out]
 have q1B : Below w.heap.size w w1 := qB hb
 have q1z := hb.size
 try simp at q1z
 have q1t : w.heap.size ≤ w1.heap.size := (by omega)
 obtain ⟨q1s0, q1n0_0, q1n0_1, q1n0_2⟩ := kB w1.heap.size w.heap.size
 obtain ⟨q1c0_0, q1c0_1, q1f0⟩ := kC2 hb w.heap.size
 simp [go_sem, *] at q1c0_0 q1c0_1 q1f0
 obtain ⟨q1s1, q1n1_0, q1n1_1, q1n1_2⟩ := kB w1.heap.size (w.heap.size + 1)
 obtain ⟨q1c1_0, q1c1_1, q1f1⟩ := kC2 hb (w.heap.size + 1)
 simp [go_sem, *] at q1c1_0 q1c1_1 q1f1
 have q1o := belO q1B
 clear hb
 go_wp2_with fail
 refine (divide_any _ HM.out _).mono ?_
 rintro e w2 ⟨rfl, hb⟩
 rw [h2]
 have q2B : Below w.heap.size w w2 := qB hb
 have q2z := hb.size
 try simp at q2z
 have q2t : w.heap.size ≤ w2.heap.size := (by omega)
 obtain ⟨q2s0, q2n0_0, q2n0_1, q2n0_2⟩ := kB w2.heap.size w.heap.size
 obtain ⟨q2c0_0, q2c0_1, q2f0⟩ := kC2 hb w.heap.size
 simp [go_sem, *] at q2c0_0 q2c0_1 q2f0
 obtain ⟨q2s1, q2n1_0, q2n1_1, q2n1_2⟩ := kB w2.heap.size (w.heap.size + 1)
 obtain ⟨q2c1_0, q2c1_1, q2f1⟩ := kC2 hb (w.heap.size + 1)
 simp [go_sem, *] at q2c1_0 q2c1_1 q2f1
 have q2o := belO q2B
 clear hb q1o q1f1 q1c1_1 q1c1_0 q1s1 q1f0 q1c0_1 q1c0_0 q1s0 q1z q1B
 go_upto_region 7 with fail
 go_cut [9, 10] (fun v9 v10 wx => DivCut (x / 1603080000000) w v9 v10 wx)
 case first =>
  refine ord_start (SB (w2.heap.size + 1) [] _) 16 (preB 0 16) (by kernel_rfl) (by kernel_rfl) (by kernel_rfl) SB.refl.drew (fun hHeld => ?_)
  refine oS (i := 0) (preB 1 15) rfl hHeld ?_
  (try simp only [Act.put, putS])
  refine oS (i := 1) (preB 2 14) rfl hHeld ?_
  (try simp only [Act.put, putS])
  refine oS (i := 2) (preB 3 13) rfl hHeld ?_
  (try simp only [Act.put, putS])
  refine oS (i := 3) (preB 4 12) rfl hHeld ?_
  (try simp only [Act.put, putS])
  refine oS (i := 4) (preB 5 11) rfl hHeld ?_
  (try simp only [Act.put, putS])
  refine oS (i := 5) (preB 6 10) rfl hHeld ?_
  (try simp only [Act.put, putS])
  refine oS (i := 6) (preB 7 9) rfl hHeld ?_
  (try simp only [Act.put, putS])
  refine oT (i := 7) (preB 8 8) (.bool true) rfl hHeld (fun wx hSx => ?_) ?_
  ·(unfold SB at hSx; go_simp; exact HZ.out)
  (try simp only [Act.put, putS])
  refine oS (i := 8) (preB 9 7) rfl hHeld ?_
  (try simp only [Act.put, putS])
  refine wpAnyH_ready (rs := [9, 13]) (by kernel_rfl) (by simp) ?_
  refine ord_run (i := 9) (preB 10 6) rfl (by kernel_rfl) (by rfl) (fun K hK => ?_) ?_
  ·go_simp
   go_wp2_with (go_at_call 161; refine (signed_any (-x / 1603080000000) true HQ.out _).mono ?_; rintro e w4 ⟨rfl, hb⟩; rw [HR.out.1, HR.out.2]; (first | (have q4B : Below w.heap.size w w4 := qB hb; have q4z := hb.size; (try simp at q4z); have q4t : w.heap.size ≤ w4.heap.size := (by omega); have q4s0 : w.heap.size + 1 < w4.heap.size := (by omega); obtain ⟨q4n0_0, q4n0_1, q4n0_2⟩ := kN q4s0; obtain ⟨q4c0_0, q4c0_1, q4f0⟩ := kC2 hb (w.heap.size + 1); simp [go_sem, *] at q4c0_0 q4c0_1 q4f0; have q4s1 : w2.heap.size + 1 < w4.heap.size := (by omega); obtain ⟨q4n1_0, q4n1_1, q4n1_2⟩ := kN q4s1; obtain ⟨q4c1_0, q4c1_1, q4f1⟩ := kC2 hb (w2.heap.size + 1); simp [go_sem, *] at q4c1_0 q4c1_1 q4f1; have q4o := belO q4B; have hbS := hb; have hbS4 := hb; clear hb) | (have q4B : Below w.heap.size w w4 := qB hb; have q4z := hb.size; (try simp at q4z); have q4t : w.heap.size ≤ w4.heap.size := (by omega); have q4s0 : w.heap.size + 1 < w4.heap.size := (by omega); obtain ⟨q4n0_0, q4n0_1, q4n0_2⟩ := kN q4s0; obtain ⟨q4c0_0, q4c0_1, q4f0⟩ := kC2 hb (w.heap.size + 1); simp [go_sem, *] at q4c0_0 q4c0_1 q4f0; have q4o := belO q4B; have hbS := hb; have hbS4 := hb; clear hb)))
   refine hK.out _ _ ?_ (fun hHeld => ?_)
   ·exact sbT
   clear hK K
   (try simp only [Act.put, putS])
   refine oS (i := 10) (preB 11 5) rfl hHeld ?_
   (try simp only [Act.put, putS])
   refine oS (i := 11) (preB 12 4) rfl hHeld ?_
   (try simp only [Act.put, putS])
   refine oS (i := 12) (preB 13 3) rfl hHeld ?_
   (try simp only [Act.put, putS])
   refine wpAnyH_ready (rs := [13]) (by kernel_rfl) (by simp) ?_
   refine ord_run (i := 13) (preB 14 2) rfl (by kernel_rfl) (by rfl) (fun K hK => ?_) AllReadyH.nil
   go_simp
   refine hK.out _ _ ?_ (fun hHeld => ?_)
   ·exact sbT
   clear hK K
   (try simp only [Act.put, putS])
   refine wpAnyH_ready (rs := [14]) (by kernel_rfl) (by simp) ?_
   refine ord_run (i := 14) (preB 15 1) rfl (by kernel_rfl) (by rfl) (fun K hK => ?_) AllReadyH.nil
   go_simp
   refine hK.out _ _ ?_ (fun hHeld => ?_)
   ·exact sbT
   clear hK K
   (try simp only [Act.put, putS])
   refine oS (i := 15) (preB 16 0) rfl hHeld ?_
   (try simp only [Act.put, putS])
   refine wpAnyH_done (by kernel_rfl) ?_ _
   go_wp2_with fail; go_meet; exact ⟨_, rfl, rfl, belT, (by simp; omega), ⟨(by simp [go_sem, *]), (by simp [go_sem, *])⟩, (by first | omega | (simp <;> omega)), ⟨(by simp [go_sem, *]), (by simp [go_sem, *]), (by simp [go_sem, *])⟩⟩
  refine ord_run (i := 13) #[true, true, true, true, true, true, true, true, true, false, false, false, false, true, false, false] rfl (by kernel_rfl) (by rfl) (fun K hK => ?_) ?_
  ·go_simp
   refine hK.out _ _ ?_ (fun hHeld => ?_)
   ·exact sbT
   clear hK K
   (try simp only [Act.put, putS])
   refine wpAnyH_ready (rs := [9]) (by kernel_rfl) (by simp) ?_
   refine ord_run (i := 9) #[true, true, true, true, true, true, true, true, true, true, false, false, false, true, false, false] rfl (by kernel_rfl) (by rfl) (fun K hK => ?_) AllReadyH.nil
   go_simp
   go_wp2_with (go_at_call 161; refine (signed_any (-x / 1603080000000) true HQ.out _).mono ?_; rintro e w4 ⟨rfl, hb⟩; rw [HR.out.1, HR.out.2]; (first | (have q4B : Below w.heap.size w w4 := qB hb; have q4z := hb.size; (try simp at q4z); have q4t : w.heap.size ≤ w4.heap.size := (by omega); have q4s0 : w.heap.size + 1 < w4.heap.size := (by omega); obtain ⟨q4n0_0, q4n0_1, q4n0_2⟩ := kN q4s0; obtain ⟨q4c0_0, q4c0_1, q4f0⟩ := kC2 hb (w.heap.size + 1); simp [go_sem, *] at q4c0_0 q4c0_1 q4f0; have q4s1 : w2.heap.size + 1 < w4.heap.size := (by omega); obtain ⟨q4n1_0, q4n1_1, q4n1_2⟩ := kN q4s1; obtain ⟨q4c1_0, q4c1_1, q4f1⟩ := kC2 hb (w2.heap.size + 1); simp [go_sem, *] at q4c1_0 q4c1_1 q4f1; have q4o := belO q4B; have hbS := hb; have hbS4 := hb; clear hb) | (have q4B : Below w.heap.size w w4 := qB hb; have q4z := hb.size; (try simp at q4z); have q4t : w.heap.size ≤ w4.heap.size := (by omega); have q4s0 : w.heap.size + 1 < w4.heap.size := (by omega); obtain ⟨q4n0_0, q4n0_1, q4n0_2⟩ := kN q4s0; obtain ⟨q4c0_0, q4c0_1, q4f0⟩ := kC2 hb (w.heap.size + 1); simp [go_sem, *] at q4c0_0 q4c0_1 q4f0; have q4o := belO q4B; have hbS := hb; have hbS4 := hb; clear hb)))
   refine hK.out _ _ ?_ (fun hHeld => ?_)
   ·exact sbT
   clear hK K
   (try simp only [Act.put, putS])
   refine oS (i := 10) #[true, true, true, true, true, true, true, true, true, true, true, false, false, true, false, false] rfl hHeld ?_
   (try simp only [Act.put, putS])
   refine oS (i := 11) #[true, true, true, true, true, true, true, true, true, true, true, true, false, true, false, false] rfl hHeld ?_
   (try simp only [Act.put, putS])
   refine oS (i := 12) (preB 14 2) rfl hHeld ?_
   (try simp only [Act.put, putS])
   refine wpAnyH_ready (rs := [14]) (by kernel_rfl) (by simp) ?_
   refine ord_run (i := 14) (preB 15 1) rfl (by kernel_rfl) (by rfl) (fun K hK => ?_) AllReadyH.nil
   go_simp
   refine hK.out _ _ ?_ (fun hHeld => ?_)
   ·exact sbT
   clear hK K
   (try simp only [Act.put, putS])
   refine oS (i := 15) (preB 16 0) rfl hHeld ?_
   (try simp only [Act.put, putS])
   refine wpAnyH_done (by kernel_rfl) ?_ _
   go_wp2_with fail; go_meet; exact ⟨_, rfl, rfl, belT, (by simp; omega), ⟨(by simp [go_sem, *]), (by simp [go_sem, *])⟩, (by first | omega | (simp <;> omega)), ⟨(by simp [go_sem, *]), (by simp [go_sem, *]), (by simp [go_sem, *])⟩⟩
  exact AllReadyH.nil
 case rest =>
  obtain ⟨g, rfl, rfl, hB, hz, ⟨cg0, cg1⟩, hg, ⟨cr0, cr1, crf⟩⟩ := hcut
  go_wp2_with fail
  refine bodyPost_ret (by simp [results, Tryz.results139, go_sem, *] <;> rfl) rfl ⟨?_, ?_⟩
  ·first | rfl | rw [h3]
  (repeat (first | (with_reducible first | exact Below.refl _ _ | assumption | refine Below.drew ?_) | ((with_reducible first | refine Below.alloc ?_ ?_ _ | refine Below.setCell ?_ ?_ _); rotate_left; (first | omega | (simp <;> omega)))))
set_option maxHeartbeats 4000000 in
theorem div_neg1 (x : Int) (hx : WIn x) (h0 : x < 0) (h00 : ¬ x % 1603080000000 = 0) (w : World) :
  Calls Tryz.prog 139 #[.agg #[.int .i64 (hiW x), .int .u64 (loW x)], .int .i64 1603080000000] w fun e w' => e = .returned (.tuple #[.agg #[.int .i64 (hiW (x / 1603080000000)), .int .u64 (loW (x / 1603080000000))], .int .i64 (x % 1603080000000), .int .i64 0]) ∧ Below w.heap.size w w' := by
 have HA := hide (absI_neg h0)
 have HM := hide (show MIn (-x) from by unfold WIn at hx; unfold MIn; omega)
 have HQ0 := hide (quo_in HM.out)
 have HMM := hide (show mod128 (-x / 1603080000000 * 1 + 1) = -(x / 1603080000000) from by unfold WIn at hx; unfold mod128; omega)
 have HQ := hide (show MIn (-(x / 1603080000000)) from by unfold WIn at hx; unfold MIn; omega)
 have HR := hide (show fitR (sgn true (-(x / 1603080000000))) = x / 1603080000000 ∧ fitE (sgn true (-(x / 1603080000000))) = 0 from by rw [sgn_t, Int.neg_neg]; exact ⟨fitR_of (quo_win hx), fitE_of (quo_win hx)⟩)
 have h1 : hiW x < 0 := by unfold hiW; omega
 have HZ := hide (show hiW (-(x / 1603080000000)) = 0 → ¬ loW (-(x / 1603080000000)) = 0 from by unfold WIn at hx; unfold hiW loW; omega)
 obtain ⟨r, hr⟩ : ∃ r, r = (-x) % 1603080000000 := ⟨_, rfl⟩
 have r0 : 0 < r := by omega
 have r1 : r < 1603080000000 := by omega
 have h3 : IntKind.u64.wrap (1603080000000 - r) = 1603080000000 - r := by rw [wrapU]; omega
 have h4 : IntKind.i64.wrap (1603080000000 - r) = 1603080000000 - r := by rw [IntKind.wrap_i64]; omega
 have H5 := hide (show x % 1603080000000 = 1603080000000 - r by omega)
 go_enter Tryz.func139, Tryz.ntmps139
 go_wp2_with fail
 refine (absolute_any x hx _).mono ?_
 rintro e w1 ⟨rfl, hb⟩
 rw [HA.out]
 have q1B : Below w.heap.size w w1 := qB hb
 have q1z := hb.size
 try simp at q1z
 have q1t : w.heap.size ≤ w1.heap.size := (by omega)
 obtain ⟨q1s0, q1n0_0, q1n0_1, q1n0_2⟩ := kB w1.heap.size w.heap.size
 obtain ⟨q1c0_0, q1c0_1, q1f0⟩ := kC2 hb w.heap.size
 simp [go_sem, *] at q1c0_0 q1c0_1 q1f0
 obtain ⟨q1s1, q1n1_0, q1n1_1, q1n1_2⟩ := kB w1.heap.size (w.heap.size + 1)
 obtain ⟨q1c1_0, q1c1_1, q1f1⟩ := kC2 hb (w.heap.size + 1)
 simp [go_sem, *] at q1c1_0 q1c1_1 q1f1
 have q1o := belO q1B
 clear hb
 go_wp2_with fail
 refine (divide_any _ HM.out _).mono ?_
 rintro e w2 ⟨rfl, hb⟩
 rw [← hr]
 clear hr
 have q2B : Below w.heap.size w w2 := qB hb
 have q2z := hb.size
 try simp at q2z
 have q2t : w.heap.size ≤ w2.heap.size := (by omega)
 obtain ⟨q2s0, q2n0_0, q2n0_1, q2n0_2⟩ := kB w2.heap.size w.heap.size
 obtain ⟨q2c0_0, q2c0_1, q2f0⟩ := kC2 hb w.heap.size
 simp [go_sem, *] at q2c0_0 q2c0_1 q2f0
 obtain ⟨q2s1, q2n1_0, q2n1_1, q2n1_2⟩ := kB w2.heap.size (w.heap.size + 1)
 obtain ⟨q2c1_0, q2c1_1, q2f1⟩ := kC2 hb (w.heap.size + 1)
 simp [go_sem, *] at q2c1_0 q2c1_1 q2f1
 have q2o := belO q2B
 clear hb q1o q1f1 q1c1_1 q1c1_0 q1s1 q1f0 q1c0_1 q1c0_0 q1s0 q1z q1B
 go_wp2_with fail
 refine (times_any _ 1 1 HQ0.out (by decide) (by decide) (by decide) (by decide) _).mono ?_
 rintro e w3 ⟨rfl, hb⟩
 rw [HMM.out]
 have q3B : Below w.heap.size w w3 := qB hb
 have q3z := hb.size
 try simp at q3z
 have q3t : w.heap.size ≤ w3.heap.size := (by omega)
 obtain ⟨q3s0, q3n0_0, q3n0_1, q3n0_2⟩ := kB w3.heap.size w.heap.size
 obtain ⟨q3c0_0, q3c0_1, q3f0⟩ := kC2 hb w.heap.size
 simp [go_sem, *] at q3c0_0 q3c0_1 q3f0
 obtain ⟨q3s1, q3n1_0, q3n1_1, q3n1_2⟩ := kB w3.heap.size (w.heap.size + 1)
 obtain ⟨q3c1_0, q3c1_1, q3f1⟩ := kC2 hb (w.heap.size + 1)
 simp [go_sem, *] at q3c1_0 q3c1_1 q3f1
 obtain ⟨q3s2, q3n2_0, q3n2_1, q3n2_2⟩ := kB w3.heap.size w2.heap.size
 obtain ⟨q3c2_0, q3c2_1, q3f2⟩ := kC2 hb w2.heap.size
 simp [go_sem, *] at q3c2_0 q3c2_1 q3f2
 have q3o := belO q3B
 clear hb q2o q2f1 q2c1_1 q2c1_0 q2s1 q2f0 q2c0_1 q2c0_0 q2s0 q2z q2B
 go_upto_region 7 with fail
 go_cut [9, 10] (fun v9 v10 wx => DivCut (x / 1603080000000) w v9 v10 wx)
 case first =>
  refine ord_start (SB (w3.heap.size) [] _) 16 (preB 0 16) (by kernel_rfl) (by kernel_rfl) (by kernel_rfl) SB.refl.drew (fun hHeld => ?_)
  refine oS (i := 0) (preB 1 15) rfl hHeld ?_
  (try simp only [Act.put, putS])
  refine oS (i := 1) (preB 2 14) rfl hHeld ?_
  (try simp only [Act.put, putS])
  refine oS (i := 2) (preB 3 13) rfl hHeld ?_
  (try simp only [Act.put, putS])
  refine oS (i := 3) (preB 4 12) rfl hHeld ?_
  (try simp only [Act.put, putS])
  refine oS (i := 4) (preB 5 11) rfl hHeld ?_
  (try simp only [Act.put, putS])
  refine oS (i := 5) (preB 6 10) rfl hHeld ?_
  (try simp only [Act.put, putS])
  refine oS (i := 6) (preB 7 9) rfl hHeld ?_
  (try simp only [Act.put, putS])
  refine oT (i := 7) (preB 8 8) (.bool true) rfl hHeld (fun wx hSx => ?_) ?_
  ·(unfold SB at hSx; go_simp; exact HZ.out)
  (try simp only [Act.put, putS])
  refine oS (i := 8) (preB 9 7) rfl hHeld ?_
  (try simp only [Act.put, putS])
  refine wpAnyH_ready (rs := [9, 13]) (by kernel_rfl) (by simp) ?_
  refine ord_run (i := 9) (preB 10 6) rfl (by kernel_rfl) (by rfl) (fun K hK => ?_) ?_
  ·go_simp
   go_wp2_with (go_at_call 161; refine (signed_any (-(x / 1603080000000)) true HQ.out _).mono ?_; rintro e w4 ⟨rfl, hb⟩; rw [HR.out.1, HR.out.2]; (first | (have q4B : Below w.heap.size w w4 := qB hb; have q4z := hb.size; (try simp at q4z); have q4t : w.heap.size ≤ w4.heap.size := (by omega); have q4s0 : w.heap.size + 1 < w4.heap.size := (by omega); obtain ⟨q4n0_0, q4n0_1, q4n0_2⟩ := kN q4s0; obtain ⟨q4c0_0, q4c0_1, q4f0⟩ := kC2 hb (w.heap.size + 1); simp [go_sem, *] at q4c0_0 q4c0_1 q4f0; have q4s1 : w3.heap.size < w4.heap.size := (by omega); obtain ⟨q4n1_0, q4n1_1, q4n1_2⟩ := kN q4s1; obtain ⟨q4c1_0, q4c1_1, q4f1⟩ := kC2 hb w3.heap.size; simp [go_sem, *] at q4c1_0 q4c1_1 q4f1; have q4o := belO q4B; have hbS := hb; have hbS4 := hb; clear hb) | (have q4B : Below w.heap.size w w4 := qB hb; have q4z := hb.size; (try simp at q4z); have q4t : w.heap.size ≤ w4.heap.size := (by omega); have q4s0 : w.heap.size + 1 < w4.heap.size := (by omega); obtain ⟨q4n0_0, q4n0_1, q4n0_2⟩ := kN q4s0; obtain ⟨q4c0_0, q4c0_1, q4f0⟩ := kC2 hb (w.heap.size + 1); simp [go_sem, *] at q4c0_0 q4c0_1 q4f0; have q4o := belO q4B; have hbS := hb; have hbS4 := hb; clear hb)))
   refine hK.out _ _ ?_ (fun hHeld => ?_)
   ·exact sbT
   clear hK K
   (try simp only [Act.put, putS])
   refine oS (i := 10) (preB 11 5) rfl hHeld ?_
   (try simp only [Act.put, putS])
   refine oS (i := 11) (preB 12 4) rfl hHeld ?_
   (try simp only [Act.put, putS])
   refine oS (i := 12) (preB 13 3) rfl hHeld ?_
   (try simp only [Act.put, putS])
   refine wpAnyH_ready (rs := [13]) (by kernel_rfl) (by simp) ?_
   refine ord_run (i := 13) (preB 14 2) rfl (by kernel_rfl) (by rfl) (fun K hK => ?_) AllReadyH.nil
   go_simp
   refine hK.out _ _ ?_ (fun hHeld => ?_)
   ·exact sbT
   clear hK K
   (try simp only [Act.put, putS])
   refine wpAnyH_ready (rs := [14]) (by kernel_rfl) (by simp) ?_
   refine ord_run (i := 14) (preB 15 1) rfl (by kernel_rfl) (by rfl) (fun K hK => ?_) AllReadyH.nil
   go_simp
   refine hK.out _ _ ?_ (fun hHeld => ?_)
   ·exact sbT
   clear hK K
   (try simp only [Act.put, putS])
   refine oS (i := 15) (preB 16 0) rfl hHeld ?_
   (try simp only [Act.put, putS])
   refine wpAnyH_done (by kernel_rfl) ?_ _
   go_wp2_with fail; go_meet; exact ⟨_, rfl, rfl, belT, (by simp; omega), ⟨(by simp [go_sem, *]), (by simp [go_sem, *])⟩, (by first | omega | (simp <;> omega)), ⟨(by simp [go_sem, *]), (by simp [go_sem, *]), (by simp [go_sem, *])⟩⟩
  refine ord_run (i := 13) #[true, true, true, true, true, true, true, true, true, false, false, false, false, true, false, false] rfl (by kernel_rfl) (by rfl) (fun K hK => ?_) ?_
  ·go_simp
   refine hK.out _ _ ?_ (fun hHeld => ?_)
   ·exact sbT
   clear hK K
   (try simp only [Act.put, putS])
   refine wpAnyH_ready (rs := [9]) (by kernel_rfl) (by simp) ?_
   refine ord_run (i := 9) #[true, true, true, true, true, true, true, true, true, true, false, false, false, true, false, false] rfl (by kernel_rfl) (by rfl) (fun K hK => ?_) AllReadyH.nil
   go_simp
   go_wp2_with (go_at_call 161; refine (signed_any (-(x / 1603080000000)) true HQ.out _).mono ?_; rintro e w4 ⟨rfl, hb⟩; rw [HR.out.1, HR.out.2]; (first | (have q4B : Below w.heap.size w w4 := qB hb; have q4z := hb.size; (try simp at q4z); have q4t : w.heap.size ≤ w4.heap.size := (by omega); have q4s0 : w.heap.size + 1 < w4.heap.size := (by omega); obtain ⟨q4n0_0, q4n0_1, q4n0_2⟩ := kN q4s0; obtain ⟨q4c0_0, q4c0_1, q4f0⟩ := kC2 hb (w.heap.size + 1); simp [go_sem, *] at q4c0_0 q4c0_1 q4f0; have q4s1 : w3.heap.size < w4.heap.size := (by omega); obtain ⟨q4n1_0, q4n1_1, q4n1_2⟩ := kN q4s1; obtain ⟨q4c1_0, q4c1_1, q4f1⟩ := kC2 hb w3.heap.size; simp [go_sem, *] at q4c1_0 q4c1_1 q4f1; have q4o := belO q4B; have hbS := hb; have hbS4 := hb; clear hb) | (have q4B : Below w.heap.size w w4 := qB hb; have q4z := hb.size; (try simp at q4z); have q4t : w.heap.size ≤ w4.heap.size := (by omega); have q4s0 : w.heap.size + 1 < w4.heap.size := (by omega); obtain ⟨q4n0_0, q4n0_1, q4n0_2⟩ := kN q4s0; obtain ⟨q4c0_0, q4c0_1, q4f0⟩ := kC2 hb (w.heap.size + 1); simp [go_sem, *] at q4c0_0 q4c0_1 q4f0; have q4o := belO q4B; have hbS := hb; have hbS4 := hb; clear hb)))
   refine hK.out _ _ ?_ (fun hHeld => ?_)
   ·exact sbT
   clear hK K
   (try simp only [Act.put, putS])
   refine oS (i := 10) #[true, true, true, true, true, true, true, true, true, true, true, false, false, true, false, false] rfl hHeld ?_
   (try simp only [Act.put, putS])
   refine oS (i := 11) #[true, true, true, true, true, true, true, true, true, true, true, true, false, true, false, false] rfl hHeld ?_
   (try simp only [Act.put, putS])
   refine oS (i := 12) (preB 14 2) rfl hHeld ?_
   (try simp only [Act.put, putS])
   refine wpAnyH_ready (rs := [14]) (by kernel_rfl) (by simp) ?_
   refine ord_run (i := 14) (preB 15 1) rfl (by kernel_rfl) (by rfl) (fun K hK => ?_) AllReadyH.nil
   go_simp
   refine hK.out _ _ ?_ (fun hHeld => ?_)
   ·exact sbT
   clear hK K
   (try simp only [Act.put, putS])
   refine oS (i := 15) (preB 16 0) rfl hHeld ?_
   (try simp only [Act.put, putS])
   refine wpAnyH_done (by kernel_rfl) ?_ _
   go_wp2_with fail; go_meet; exact ⟨_, rfl, rfl, belT, (by simp; omega), ⟨(by simp [go_sem, *]), (by simp [go_sem, *])⟩, (by first | omega | (simp <;> omega)), ⟨(by simp [go_sem, *]), (by simp [go_sem, *]), (by simp [go_sem, *])⟩⟩
  exact AllReadyH.nil
 case rest =>
  obtain ⟨g, rfl, rfl, hB, hz, ⟨cg0, cg1⟩, hg, ⟨cr0, cr1, crf⟩⟩ := hcut
  go_wp2_with fail
  refine bodyPost_ret (by simp [results, Tryz.results139, go_sem, *] <;> rfl) rfl ⟨?_, ?_⟩
  ·rw [H5.out]
  (repeat (first | (with_reducible first | exact Below.refl _ _ | assumption | refine Below.drew ?_) | ((with_reducible first | refine Below.alloc ?_ ?_ _ | refine Below.setCell ?_ ?_ _); rotate_left; (first | omega | (simp <;> omega)))))
/-- wide.Div by the grains of a minor unit. -/
theorem div_any (x : Int) (hx : WIn x) (w : World) :
  Calls Tryz.prog 139 #[.agg #[.int .i64 (hiW x), .int .u64 (loW x)], .int .i64 1603080000000] w fun e w' => e = .returned (.tuple #[.agg #[.int .i64 (hiW (x / 1603080000000)), .int .u64 (loW (x / 1603080000000))], .int .i64 (x % 1603080000000), .int .i64 0]) ∧ Below w.heap.size w w' := by
 by_cases h : x < 0
 ·by_cases h2 : x % 1603080000000 = 0
  ·exact div_neg0 x hx h h2 w
  ·exact div_neg1 x hx h h2 w
 ·exact div_pos x hx (by omega) w
end Go.Proofs.YtdjlaiilngechaaGreatDoor
