/- Texts laid together: TpJ. -/
import Derived.Test.YtpghciiifnjimaaGreatDoorXTpG
import Derived.Test.YtpghciiifnjimaaGreatDoorXK0
namespace Go.Proofs.YtpghciiifnjimaaGreatDoor
set_option maxRecDepth 4000
set_option linter.unusedSimpArgs false
set_option linter.unusedVariables false
open Go.RowKit
def RtOK (ck : Nat → Tr) : Prop := ∀ (w : World) (X : Array Value), ElT (Old w) w 5 ck X → Calls Tryz.prog 304 #[.agg X] w (SomB w)
set_option maxRecDepth 8000 in
set_option maxHeartbeats 40000000 in
theorem rt_expr (ck : Nat → Tr) (hw : KnOK 5 ck) (hE : ∀ n c, ck 3 = .row n (tbl 5).length c → ∀ k, k < n → RtOK (c k)) : RtOK ck := by
 intro w X hX
 obtain ⟨n3, c3, hc3, hk3, A3, cap3, C3, e3, _, hA3⟩ := rd_row (e := 5) (hX.rd 3 (by decide)) (hw 3 (by decide))
 obtain ⟨z0, _, e0, i0⟩ := rd_int (hX.rd 0 (by decide)) (hw 0 (by decide))
 obtain ⟨z1, _, e1, i1⟩ := rd_int (hX.rd 1 (by decide)) (hw 1 (by decide))
 obtain ⟨s2, _, e2, _⟩ := rd_str (hX.rd 2 (by decide)) (hw 2 (by decide))
 have hXs : X.size = 4 := hX.size
 have g0 : X[0]? = some (.int .i64 z0) := at_eq hXs (by decide) e0
 have g1 : X[1]? = some (.int .i64 z1) := at_eq hXs (by decide) e1
 have g2 : X[2]? = some (.string s2) := at_eq hXs (by decide) e2
 have g3 : X[3]? = some (.slice A3 n3 cap3) := at_eq hXs (by decide) e3
 have HE := hide (fun k hk => hE n3 c3 hc3 k hk)
 have HA := hide hA3
 have HK := hide hk3
 have hn : n3 ≤ 140737488351232 := by have := hk3.room; simp only [tby] at this; omega
 obtain ⟨a, ha⟩ : ∃ a, a = opnE z0 := ⟨_, rfl⟩
 obtain ⟨m, hmo⟩ : ∃ a, a = mosE z0 := ⟨_, rfl⟩
 have HO := hide (fun (W : World) => by have t := wopn_any z0 W; rw [← ha] at t; exact t)
 have HM := hide (fun (W : World) => by have t := wmos_any z0 W; rw [← hmo] at t; exact t)
 clear e0 e1 e2 e3 hA3 hk3 hc3 hE hX hw ha hmo hXs
 by_cases h1 : (n3 : Int) = a
 ·have d1 : ((n3 : Int) != a) = false := by simp [h1]
  clear h1
  by_cases h2 : z1 < 0
  ·have d2 : decide (z1 < 0) = true := decide_eq_true h2
   clear h2
   go_enter Tryz.func304, Tryz.ntmps304
   go_wp2_with fail
   refine ord_start (SB (w.heap.size + 1) [] _) 30 (preB 0 30) (by kernel_rfl) (by kernel_rfl) (by kernel_rfl) SB.refl.drew (fun hHeld => ?_)
   refine oS (i := 0) (preB 1 29) rfl hHeld ?_
   (try simp only [Act.put, putS])
   refine oS (i := 1) (preB 2 28) rfl hHeld ?_
   (try simp only [Act.put, putS])
   refine oS (i := 2) (preB 3 27) rfl hHeld ?_
   (try simp only [Act.put, putS])
   refine oS (i := 3) (preB 4 26) rfl hHeld ?_
   (try simp only [Act.put, putS])
   refine oS (i := 4) (preB 5 25) rfl hHeld ?_
   (try simp only [Act.put, putS])
   refine wpAnyH_ready (rs := [5]) (by kernel_rfl) (by simp) ?_
   refine ord_run (i := 5) (preB 6 24) rfl (by kernel_rfl) (by rfl) (fun K hK => ?_) AllReadyH.nil
   go_simp
   go_wp2_with (go_at_call 325; refine (HO.out _).mono ?_; rintro e w1 ⟨rfl, rfl⟩)
   refine hK.out _ _ ?_ (fun hHeld => ?_)
   ·exact sbT
   clear hK K
   (try simp only [Act.put, putS])
   refine oS (i := 6) (preB 7 23) rfl hHeld ?_
   (try simp only [Act.put, putS])
   refine oS (i := 7) (preB 8 22) rfl hHeld ?_
   (try simp only [Act.put, putS])
   refine oS (i := 8) (preB 9 21) rfl hHeld ?_
   (try simp only [Act.put, putS])
   refine oS (i := 9) (preB 10 20) rfl hHeld ?_
   (try simp only [Act.put, putS])
   refine oS (i := 10) (preB 11 19) rfl hHeld ?_
   (try simp only [Act.put, putS])
   refine oS (i := 11) (preB 12 18) rfl hHeld ?_
   (try simp only [Act.put, putS])
   refine oS (i := 12) (preB 13 17) rfl hHeld ?_
   (try simp only [Act.put, putS])
   refine ord_skip (i := 13) (preB 14 16) rfl (by kernel_rfl) (by kernel_rfl) (by kernel_rfl) (by kernel_rfl) (fun _ _ _ h => h) hHeld (by rfl) ?_
   (try simp only [Act.put, putS])
   refine ord_skip (i := 14) (preB 15 15) rfl (by kernel_rfl) (by kernel_rfl) (by kernel_rfl) (by kernel_rfl) (fun _ _ _ h => h) hHeld (by rfl) ?_
   (try simp only [Act.put, putS])
   refine ord_skip (i := 15) (preB 16 14) rfl (by kernel_rfl) (by kernel_rfl) (by kernel_rfl) (by kernel_rfl) (fun _ _ _ h => h) hHeld (by rfl) ?_
   (try simp only [Act.put, putS])
   refine ord_skip (i := 16) (preB 17 13) rfl (by kernel_rfl) (by kernel_rfl) (by kernel_rfl) (by kernel_rfl) (fun _ _ _ h => h) hHeld (by rfl) ?_
   (try simp only [Act.put, putS])
   refine ord_skip (i := 17) (preB 18 12) rfl (by kernel_rfl) (by kernel_rfl) (by kernel_rfl) (by kernel_rfl) (fun _ _ _ h => h) hHeld (by rfl) ?_
   (try simp only [Act.put, putS])
   refine ord_skip (i := 18) (preB 19 11) rfl (by kernel_rfl) (by kernel_rfl) (by kernel_rfl) (by kernel_rfl) (fun _ _ _ h => h) hHeld (by rfl) ?_
   (try simp only [Act.put, putS])
   refine oS (i := 19) (preB 20 10) rfl hHeld ?_
   (try simp only [Act.put, putS])
   refine oS (i := 20) (preB 21 9) rfl hHeld ?_
   (try simp only [Act.put, putS])
   refine ord_skip (i := 21) (preB 22 8) rfl (by kernel_rfl) (by kernel_rfl) (by kernel_rfl) (by kernel_rfl) (fun _ _ _ h => h) hHeld (by rfl) ?_
   (try simp only [Act.put, putS])
   refine ord_skip (i := 22) (preB 23 7) rfl (by kernel_rfl) (by kernel_rfl) (by kernel_rfl) (by kernel_rfl) (fun _ _ _ h => h) hHeld (by rfl) ?_
   (try simp only [Act.put, putS])
   refine ord_skip (i := 23) (preB 24 6) rfl (by kernel_rfl) (by kernel_rfl) (by kernel_rfl) (by kernel_rfl) (fun _ _ _ h => h) hHeld (by rfl) ?_
   (try simp only [Act.put, putS])
   refine ord_skip (i := 24) (preB 25 5) rfl (by kernel_rfl) (by kernel_rfl) (by kernel_rfl) (by kernel_rfl) (fun _ _ _ h => h) hHeld (by rfl) ?_
   (try simp only [Act.put, putS])
   refine ord_skip (i := 25) (preB 26 4) rfl (by kernel_rfl) (by kernel_rfl) (by kernel_rfl) (by kernel_rfl) (fun _ _ _ h => h) hHeld (by rfl) ?_
   (try simp only [Act.put, putS])
   refine ord_skip (i := 26) (preB 27 3) rfl (by kernel_rfl) (by kernel_rfl) (by kernel_rfl) (by kernel_rfl) (fun _ _ _ h => h) hHeld (by rfl) ?_
   (try simp only [Act.put, putS])
   refine ord_skip (i := 27) (preB 28 2) rfl (by kernel_rfl) (by kernel_rfl) (by kernel_rfl) (by kernel_rfl) (fun _ _ _ h => h) hHeld (by rfl) ?_
   (try simp only [Act.put, putS])
   refine ord_skip (i := 28) (preB 29 1) rfl (by kernel_rfl) (by kernel_rfl) (by kernel_rfl) (by kernel_rfl) (fun _ _ _ h => h) hHeld (by rfl) ?_
   (try simp only [Act.put, putS])
   refine oS (i := 29) (preB 30 0) rfl hHeld ?_
   (try simp only [Act.put, putS])
   refine wpAnyH_done (by kernel_rfl) ?_ _
   go_wp2_with fail
   go_ret
   exact ⟨⟨_, rfl⟩, by (repeat (first | (with_reducible first | exact Below.refl _ _ | assumption | refine Below.drew ?_) | ((with_reducible first | refine Below.alloc ?_ ?_ _ | refine Below.setCell ?_ ?_ _); rotate_left; (first | omega | (simp <;> omega)))))⟩
  have d2 : decide (z1 < 0) = false := decide_eq_false h2
  clear h2
  by_cases h3 : m < z1
  ·have d3 : decide (m < z1) = true := decide_eq_true h3
   clear h3
   go_enter Tryz.func304, Tryz.ntmps304
   go_wp2_with fail
   refine ord_start (SB (w.heap.size + 1) [] _) 30 (preB 0 30) (by kernel_rfl) (by kernel_rfl) (by kernel_rfl) SB.refl.drew (fun hHeld => ?_)
   refine oS (i := 0) (preB 1 29) rfl hHeld ?_
   (try simp only [Act.put, putS])
   refine oS (i := 1) (preB 2 28) rfl hHeld ?_
   (try simp only [Act.put, putS])
   refine oS (i := 2) (preB 3 27) rfl hHeld ?_
   (try simp only [Act.put, putS])
   refine oS (i := 3) (preB 4 26) rfl hHeld ?_
   (try simp only [Act.put, putS])
   refine oS (i := 4) (preB 5 25) rfl hHeld ?_
   (try simp only [Act.put, putS])
   refine wpAnyH_ready (rs := [5]) (by kernel_rfl) (by simp) ?_
   refine ord_run (i := 5) (preB 6 24) rfl (by kernel_rfl) (by rfl) (fun K hK => ?_) AllReadyH.nil
   go_simp
   go_wp2_with (go_at_call 325; refine (HO.out _).mono ?_; rintro e w1 ⟨rfl, rfl⟩)
   refine hK.out _ _ ?_ (fun hHeld => ?_)
   ·exact sbT
   clear hK K
   (try simp only [Act.put, putS])
   refine oS (i := 6) (preB 7 23) rfl hHeld ?_
   (try simp only [Act.put, putS])
   refine oS (i := 7) (preB 8 22) rfl hHeld ?_
   (try simp only [Act.put, putS])
   refine oS (i := 8) (preB 9 21) rfl hHeld ?_
   (try simp only [Act.put, putS])
   refine oS (i := 9) (preB 10 20) rfl hHeld ?_
   (try simp only [Act.put, putS])
   refine oS (i := 10) (preB 11 19) rfl hHeld ?_
   (try simp only [Act.put, putS])
   refine oS (i := 11) (preB 12 18) rfl hHeld ?_
   (try simp only [Act.put, putS])
   refine oS (i := 12) (preB 13 17) rfl hHeld ?_
   (try simp only [Act.put, putS])
   refine oS (i := 13) (preB 14 16) rfl hHeld ?_
   (try simp only [Act.put, putS])
   refine oS (i := 14) (preB 15 15) rfl hHeld ?_
   (try simp only [Act.put, putS])
   refine oS (i := 15) (preB 16 14) rfl hHeld ?_
   (try simp only [Act.put, putS])
   refine oS (i := 16) (preB 17 13) rfl hHeld ?_
   (try simp only [Act.put, putS])
   refine wpAnyH_ready (rs := [17]) (by kernel_rfl) (by simp) ?_
   refine ord_run (i := 17) (preB 18 12) rfl (by kernel_rfl) (by rfl) (fun K hK => ?_) AllReadyH.nil
   go_simp
   go_wp2_with (go_at_call 326; refine (HM.out _).mono ?_; rintro e w1 ⟨rfl, rfl⟩)
   refine hK.out _ _ ?_ (fun hHeld => ?_)
   ·exact sbT
   clear hK K
   (try simp only [Act.put, putS])
   refine oS (i := 18) (preB 19 11) rfl hHeld ?_
   (try simp only [Act.put, putS])
   refine oS (i := 19) (preB 20 10) rfl hHeld ?_
   (try simp only [Act.put, putS])
   refine oS (i := 20) (preB 21 9) rfl hHeld ?_
   (try simp only [Act.put, putS])
   refine ord_skip (i := 21) (preB 22 8) rfl (by kernel_rfl) (by kernel_rfl) (by kernel_rfl) (by kernel_rfl) (fun _ _ _ h => h) hHeld (by rfl) ?_
   (try simp only [Act.put, putS])
   refine ord_skip (i := 22) (preB 23 7) rfl (by kernel_rfl) (by kernel_rfl) (by kernel_rfl) (by kernel_rfl) (fun _ _ _ h => h) hHeld (by rfl) ?_
   (try simp only [Act.put, putS])
   refine ord_skip (i := 23) (preB 24 6) rfl (by kernel_rfl) (by kernel_rfl) (by kernel_rfl) (by kernel_rfl) (fun _ _ _ h => h) hHeld (by rfl) ?_
   (try simp only [Act.put, putS])
   refine ord_skip (i := 24) (preB 25 5) rfl (by kernel_rfl) (by kernel_rfl) (by kernel_rfl) (by kernel_rfl) (fun _ _ _ h => h) hHeld (by rfl) ?_
   (try simp only [Act.put, putS])
   refine ord_skip (i := 25) (preB 26 4) rfl (by kernel_rfl) (by kernel_rfl) (by kernel_rfl) (by kernel_rfl) (fun _ _ _ h => h) hHeld (by rfl) ?_
   (try simp only [Act.put, putS])
   refine ord_skip (i := 26) (preB 27 3) rfl (by kernel_rfl) (by kernel_rfl) (by kernel_rfl) (by kernel_rfl) (fun _ _ _ h => h) hHeld (by rfl) ?_
   (try simp only [Act.put, putS])
   refine ord_skip (i := 27) (preB 28 2) rfl (by kernel_rfl) (by kernel_rfl) (by kernel_rfl) (by kernel_rfl) (fun _ _ _ h => h) hHeld (by rfl) ?_
   (try simp only [Act.put, putS])
   refine ord_skip (i := 28) (preB 29 1) rfl (by kernel_rfl) (by kernel_rfl) (by kernel_rfl) (by kernel_rfl) (fun _ _ _ h => h) hHeld (by rfl) ?_
   (try simp only [Act.put, putS])
   refine oS (i := 29) (preB 30 0) rfl hHeld ?_
   (try simp only [Act.put, putS])
   refine wpAnyH_done (by kernel_rfl) ?_ _
   go_wp2_with fail
   go_ret
   exact ⟨⟨_, rfl⟩, by (repeat (first | (with_reducible first | exact Below.refl _ _ | assumption | refine Below.drew ?_) | ((with_reducible first | refine Below.alloc ?_ ?_ _ | refine Below.setCell ?_ ?_ _); rotate_left; (first | omega | (simp <;> omega)))))⟩
  have d3 : decide (m < z1) = false := decide_eq_false h3
  clear h3
  by_cases h4 : z0 = 4
  ·have d4 : (z0 != 4) = false := by simp [h4]
   clear h4
   go_enter Tryz.func304, Tryz.ntmps304
   go_wp2_with fail
   refine ord_start (SB (w.heap.size + 1) [] _) 30 (preB 0 30) (by kernel_rfl) (by kernel_rfl) (by kernel_rfl) SB.refl.drew (fun hHeld => ?_)
   refine oS (i := 0) (preB 1 29) rfl hHeld ?_
   (try simp only [Act.put, putS])
   refine oS (i := 1) (preB 2 28) rfl hHeld ?_
   (try simp only [Act.put, putS])
   refine oS (i := 2) (preB 3 27) rfl hHeld ?_
   (try simp only [Act.put, putS])
   refine oS (i := 3) (preB 4 26) rfl hHeld ?_
   (try simp only [Act.put, putS])
   refine oS (i := 4) (preB 5 25) rfl hHeld ?_
   (try simp only [Act.put, putS])
   refine wpAnyH_ready (rs := [5]) (by kernel_rfl) (by simp) ?_
   refine ord_run (i := 5) (preB 6 24) rfl (by kernel_rfl) (by rfl) (fun K hK => ?_) AllReadyH.nil
   go_simp
   go_wp2_with (go_at_call 325; refine (HO.out _).mono ?_; rintro e w1 ⟨rfl, rfl⟩)
   refine hK.out _ _ ?_ (fun hHeld => ?_)
   ·exact sbT
   clear hK K
   (try simp only [Act.put, putS])
   refine oS (i := 6) (preB 7 23) rfl hHeld ?_
   (try simp only [Act.put, putS])
   refine oS (i := 7) (preB 8 22) rfl hHeld ?_
   (try simp only [Act.put, putS])
   refine oS (i := 8) (preB 9 21) rfl hHeld ?_
   (try simp only [Act.put, putS])
   refine oS (i := 9) (preB 10 20) rfl hHeld ?_
   (try simp only [Act.put, putS])
   refine oS (i := 10) (preB 11 19) rfl hHeld ?_
   (try simp only [Act.put, putS])
   refine oS (i := 11) (preB 12 18) rfl hHeld ?_
   (try simp only [Act.put, putS])
   refine oS (i := 12) (preB 13 17) rfl hHeld ?_
   (try simp only [Act.put, putS])
   refine oS (i := 13) (preB 14 16) rfl hHeld ?_
   (try simp only [Act.put, putS])
   refine oS (i := 14) (preB 15 15) rfl hHeld ?_
   (try simp only [Act.put, putS])
   refine oS (i := 15) (preB 16 14) rfl hHeld ?_
   (try simp only [Act.put, putS])
   refine oS (i := 16) (preB 17 13) rfl hHeld ?_
   (try simp only [Act.put, putS])
   refine wpAnyH_ready (rs := [17]) (by kernel_rfl) (by simp) ?_
   refine ord_run (i := 17) (preB 18 12) rfl (by kernel_rfl) (by rfl) (fun K hK => ?_) AllReadyH.nil
   go_simp
   go_wp2_with (go_at_call 326; refine (HM.out _).mono ?_; rintro e w1 ⟨rfl, rfl⟩)
   refine hK.out _ _ ?_ (fun hHeld => ?_)
   ·exact sbT
   clear hK K
   (try simp only [Act.put, putS])
   refine oS (i := 18) (preB 19 11) rfl hHeld ?_
   (try simp only [Act.put, putS])
   refine oS (i := 19) (preB 20 10) rfl hHeld ?_
   (try simp only [Act.put, putS])
   refine oS (i := 20) (preB 21 9) rfl hHeld ?_
   (try simp only [Act.put, putS])
   refine oS (i := 21) (preB 22 8) rfl hHeld ?_
   (try simp only [Act.put, putS])
   refine oS (i := 22) (preB 23 7) rfl hHeld ?_
   (try simp only [Act.put, putS])
   refine oS (i := 23) (preB 24 6) rfl hHeld ?_
   (try simp only [Act.put, putS])
   refine oS (i := 24) (preB 25 5) rfl hHeld ?_
   (try simp only [Act.put, putS])
   refine ord_skip (i := 25) (preB 26 4) rfl (by kernel_rfl) (by kernel_rfl) (by kernel_rfl) (by kernel_rfl) (fun _ _ _ h => h) hHeld (by rfl) ?_
   (try simp only [Act.put, putS])
   refine ord_skip (i := 26) (preB 27 3) rfl (by kernel_rfl) (by kernel_rfl) (by kernel_rfl) (by kernel_rfl) (fun _ _ _ h => h) hHeld (by rfl) ?_
   (try simp only [Act.put, putS])
   refine ord_skip (i := 27) (preB 28 2) rfl (by kernel_rfl) (by kernel_rfl) (by kernel_rfl) (by kernel_rfl) (fun _ _ _ h => h) hHeld (by rfl) ?_
   (try simp only [Act.put, putS])
   refine oS (i := 28) (preB 29 1) rfl hHeld ?_
   (try simp only [Act.put, putS])
   refine oS (i := 29) (preB 30 0) rfl hHeld ?_
   (try simp only [Act.put, putS])
   refine wpAnyH_done (by kernel_rfl) ?_ _
   go_wp2_with fail
   go_loopw [3] (fun v wr => KB n3 (w.alloc (.cells X 226)) v wr) (fun v _ => n3 - (intOf v).toNat)
   case atStart => exact ⟨0, by omega, rfl, by (repeat (first | (with_reducible first | exact Below.refl _ _ | assumption | refine Below.drew ?_) | ((with_reducible first | refine Below.alloc ?_ ?_ _ | refine Below.setCell ?_ ?_ _); rotate_left; (first | omega | (simp <;> omega)))))⟩
   case round =>
    obtain ⟨k, hkn, rfl, hb⟩ := hrel
    have H0 := hide hb
    have q1B : Below w.heap.size w wr := qB hb
    have q1z := hb.size
    try simp at q1z
    have q1t : w.heap.size ≤ wr.heap.size := (by omega)
    obtain ⟨q1s0, q1n0_0, q1n0_1, q1n0_2⟩ := kB wr.heap.size w.heap.size
    have q1c0_3 := cel hb w.heap.size 3
    simp [go_sem, *] at q1c0_3
    have q1f0 := fun o => fro hb w.heap.size o
    simp [go_sem, *] at q1f0
    have q1o := belO q1B
    clear hb
    by_cases hlt : k < n3
    ·have hm : (k : Int) < n3 := by omega
     have hk0 : (0 : Int) ≤ k := by omega
     have HLT := hide hlt
     have QB := hide q1B
     obtain ⟨b, off, rfl, hbl, hc⟩ := (HA.out.below q1B).cells (by decide) hlt
     have HC := hide (show ∀ j v, (elA 5 C3 k)[j]? = some v → wr.cell? ⟨b, off + k * 4 + j, none⟩ = some v from hc)
     have HX := hide ((HA.out.below q1B).el HK.out hlt)
     have HS := hide (ex_size (elA_size 5 C3 k))
     clear hc hlt
     go_wp2_with (with_reducible refine wpList_load_midA rfl 226 (.tmp 44) rfl b (off + k * 4) rfl (elA 5 C3 k) _ HC.out Tryz.underlying226 rfl HS.out ?_)
     refine (HE.out k HLT.out _ _ HX.out).mono ?_
     rintro r w5 ⟨⟨b5, rfl⟩, hb⟩
     cases b5 with
     | false =>
      go_wp2_with fail
      go_ret
      exact ⟨⟨_, rfl⟩, QB.out.trans (hb.mono QB.out.size)⟩
     | true =>
      go_wp2_with fail
      go_roundw
      case rel => exact ⟨k + 1, HLT.out, by go_num, H0.out.trans (hb.mono H0.out.size)⟩
      case measure => have := HLT.out; simp [intOf]; omega
    ·obtain rfl : k = n3 := by omega
     clear hlt hkn
     go_wp2_with fail
     go_ret
     exact ⟨⟨_, rfl⟩, q1B⟩
  have d4 : (z0 != 4) = true := by simp [h4]
  clear h4
  rcases Bool.eq_false_or_eq_true s2.toList.isEmpty with q | q
  ·
   go_enter Tryz.func304, Tryz.ntmps304
   go_wp2_with fail
   refine ord_start (SB (w.heap.size + 1) [] _) 30 (preB 0 30) (by kernel_rfl) (by kernel_rfl) (by kernel_rfl) SB.refl.drew (fun hHeld => ?_)
   refine oS (i := 0) (preB 1 29) rfl hHeld ?_
   (try simp only [Act.put, putS])
   refine oS (i := 1) (preB 2 28) rfl hHeld ?_
   (try simp only [Act.put, putS])
   refine oS (i := 2) (preB 3 27) rfl hHeld ?_
   (try simp only [Act.put, putS])
   refine oS (i := 3) (preB 4 26) rfl hHeld ?_
   (try simp only [Act.put, putS])
   refine oS (i := 4) (preB 5 25) rfl hHeld ?_
   (try simp only [Act.put, putS])
   refine wpAnyH_ready (rs := [5]) (by kernel_rfl) (by simp) ?_
   refine ord_run (i := 5) (preB 6 24) rfl (by kernel_rfl) (by rfl) (fun K hK => ?_) AllReadyH.nil
   go_simp
   go_wp2_with (go_at_call 325; refine (HO.out _).mono ?_; rintro e w1 ⟨rfl, rfl⟩)
   refine hK.out _ _ ?_ (fun hHeld => ?_)
   ·exact sbT
   clear hK K
   (try simp only [Act.put, putS])
   refine oS (i := 6) (preB 7 23) rfl hHeld ?_
   (try simp only [Act.put, putS])
   refine oS (i := 7) (preB 8 22) rfl hHeld ?_
   (try simp only [Act.put, putS])
   refine oS (i := 8) (preB 9 21) rfl hHeld ?_
   (try simp only [Act.put, putS])
   refine oS (i := 9) (preB 10 20) rfl hHeld ?_
   (try simp only [Act.put, putS])
   refine oS (i := 10) (preB 11 19) rfl hHeld ?_
   (try simp only [Act.put, putS])
   refine oS (i := 11) (preB 12 18) rfl hHeld ?_
   (try simp only [Act.put, putS])
   refine oS (i := 12) (preB 13 17) rfl hHeld ?_
   (try simp only [Act.put, putS])
   refine oS (i := 13) (preB 14 16) rfl hHeld ?_
   (try simp only [Act.put, putS])
   refine oS (i := 14) (preB 15 15) rfl hHeld ?_
   (try simp only [Act.put, putS])
   refine oS (i := 15) (preB 16 14) rfl hHeld ?_
   (try simp only [Act.put, putS])
   refine oS (i := 16) (preB 17 13) rfl hHeld ?_
   (try simp only [Act.put, putS])
   refine wpAnyH_ready (rs := [17]) (by kernel_rfl) (by simp) ?_
   refine ord_run (i := 17) (preB 18 12) rfl (by kernel_rfl) (by rfl) (fun K hK => ?_) AllReadyH.nil
   go_simp
   go_wp2_with (go_at_call 326; refine (HM.out _).mono ?_; rintro e w1 ⟨rfl, rfl⟩)
   refine hK.out _ _ ?_ (fun hHeld => ?_)
   ·exact sbT
   clear hK K
   (try simp only [Act.put, putS])
   refine oS (i := 18) (preB 19 11) rfl hHeld ?_
   (try simp only [Act.put, putS])
   refine oS (i := 19) (preB 20 10) rfl hHeld ?_
   (try simp only [Act.put, putS])
   refine oS (i := 20) (preB 21 9) rfl hHeld ?_
   (try simp only [Act.put, putS])
   refine oS (i := 21) (preB 22 8) rfl hHeld ?_
   (try simp only [Act.put, putS])
   refine oS (i := 22) (preB 23 7) rfl hHeld ?_
   (try simp only [Act.put, putS])
   refine oS (i := 23) (preB 24 6) rfl hHeld ?_
   (try simp only [Act.put, putS])
   refine oS (i := 24) (preB 25 5) rfl hHeld ?_
   (try simp only [Act.put, putS])
   refine oS (i := 25) (preB 26 4) rfl hHeld ?_
   (try simp only [Act.put, putS])
   refine oS (i := 26) (preB 27 3) rfl hHeld ?_
   (try simp only [Act.put, putS])
   refine oS (i := 27) (preB 28 2) rfl hHeld ?_
   (try simp only [Act.put, putS])
   refine oS (i := 28) (preB 29 1) rfl hHeld ?_
   (try simp only [Act.put, putS])
   refine oS (i := 29) (preB 30 0) rfl hHeld ?_
   (try simp only [Act.put, putS])
   refine wpAnyH_done (by kernel_rfl) ?_ _
   go_wp2_with fail
   go_loopw [3] (fun v wr => KB n3 (w.alloc (.cells X 226)) v wr) (fun v _ => n3 - (intOf v).toNat)
   case atStart => exact ⟨0, by omega, rfl, by (repeat (first | (with_reducible first | exact Below.refl _ _ | assumption | refine Below.drew ?_) | ((with_reducible first | refine Below.alloc ?_ ?_ _ | refine Below.setCell ?_ ?_ _); rotate_left; (first | omega | (simp <;> omega)))))⟩
   case round =>
    obtain ⟨k, hkn, rfl, hb⟩ := hrel
    have H0 := hide hb
    have q1B : Below w.heap.size w wr := qB hb
    have q1z := hb.size
    try simp at q1z
    have q1t : w.heap.size ≤ wr.heap.size := (by omega)
    obtain ⟨q1s0, q1n0_0, q1n0_1, q1n0_2⟩ := kB wr.heap.size w.heap.size
    have q1c0_3 := cel hb w.heap.size 3
    simp [go_sem, *] at q1c0_3
    have q1f0 := fun o => fro hb w.heap.size o
    simp [go_sem, *] at q1f0
    have q1o := belO q1B
    clear hb
    by_cases hlt : k < n3
    ·have hm : (k : Int) < n3 := by omega
     have hk0 : (0 : Int) ≤ k := by omega
     have HLT := hide hlt
     have QB := hide q1B
     obtain ⟨b, off, rfl, hbl, hc⟩ := (HA.out.below q1B).cells (by decide) hlt
     have HC := hide (show ∀ j v, (elA 5 C3 k)[j]? = some v → wr.cell? ⟨b, off + k * 4 + j, none⟩ = some v from hc)
     have HX := hide ((HA.out.below q1B).el HK.out hlt)
     have HS := hide (ex_size (elA_size 5 C3 k))
     clear hc hlt
     go_wp2_with (with_reducible refine wpList_load_midA rfl 226 (.tmp 44) rfl b (off + k * 4) rfl (elA 5 C3 k) _ HC.out Tryz.underlying226 rfl HS.out ?_)
     refine (HE.out k HLT.out _ _ HX.out).mono ?_
     rintro r w5 ⟨⟨b5, rfl⟩, hb⟩
     cases b5 with
     | false =>
      go_wp2_with fail
      go_ret
      exact ⟨⟨_, rfl⟩, QB.out.trans (hb.mono QB.out.size)⟩
     | true =>
      go_wp2_with fail
      go_roundw
      case rel => exact ⟨k + 1, HLT.out, by go_num, H0.out.trans (hb.mono H0.out.size)⟩
      case measure => have := HLT.out; simp [intOf]; omega
    ·obtain rfl : k = n3 := by omega
     clear hlt hkn
     go_wp2_with fail
     go_ret
     exact ⟨⟨_, rfl⟩, q1B⟩
  ·
   go_enter Tryz.func304, Tryz.ntmps304
   go_wp2_with fail
   refine ord_start (SB (w.heap.size + 1) [] _) 30 (preB 0 30) (by kernel_rfl) (by kernel_rfl) (by kernel_rfl) SB.refl.drew (fun hHeld => ?_)
   refine oS (i := 0) (preB 1 29) rfl hHeld ?_
   (try simp only [Act.put, putS])
   refine oS (i := 1) (preB 2 28) rfl hHeld ?_
   (try simp only [Act.put, putS])
   refine oS (i := 2) (preB 3 27) rfl hHeld ?_
   (try simp only [Act.put, putS])
   refine oS (i := 3) (preB 4 26) rfl hHeld ?_
   (try simp only [Act.put, putS])
   refine oS (i := 4) (preB 5 25) rfl hHeld ?_
   (try simp only [Act.put, putS])
   refine wpAnyH_ready (rs := [5]) (by kernel_rfl) (by simp) ?_
   refine ord_run (i := 5) (preB 6 24) rfl (by kernel_rfl) (by rfl) (fun K hK => ?_) AllReadyH.nil
   go_simp
   go_wp2_with (go_at_call 325; refine (HO.out _).mono ?_; rintro e w1 ⟨rfl, rfl⟩)
   refine hK.out _ _ ?_ (fun hHeld => ?_)
   ·exact sbT
   clear hK K
   (try simp only [Act.put, putS])
   refine oS (i := 6) (preB 7 23) rfl hHeld ?_
   (try simp only [Act.put, putS])
   refine oS (i := 7) (preB 8 22) rfl hHeld ?_
   (try simp only [Act.put, putS])
   refine oS (i := 8) (preB 9 21) rfl hHeld ?_
   (try simp only [Act.put, putS])
   refine oS (i := 9) (preB 10 20) rfl hHeld ?_
   (try simp only [Act.put, putS])
   refine oS (i := 10) (preB 11 19) rfl hHeld ?_
   (try simp only [Act.put, putS])
   refine oS (i := 11) (preB 12 18) rfl hHeld ?_
   (try simp only [Act.put, putS])
   refine oS (i := 12) (preB 13 17) rfl hHeld ?_
   (try simp only [Act.put, putS])
   refine oS (i := 13) (preB 14 16) rfl hHeld ?_
   (try simp only [Act.put, putS])
   refine oS (i := 14) (preB 15 15) rfl hHeld ?_
   (try simp only [Act.put, putS])
   refine oS (i := 15) (preB 16 14) rfl hHeld ?_
   (try simp only [Act.put, putS])
   refine oS (i := 16) (preB 17 13) rfl hHeld ?_
   (try simp only [Act.put, putS])
   refine wpAnyH_ready (rs := [17]) (by kernel_rfl) (by simp) ?_
   refine ord_run (i := 17) (preB 18 12) rfl (by kernel_rfl) (by rfl) (fun K hK => ?_) AllReadyH.nil
   go_simp
   go_wp2_with (go_at_call 326; refine (HM.out _).mono ?_; rintro e w1 ⟨rfl, rfl⟩)
   refine hK.out _ _ ?_ (fun hHeld => ?_)
   ·exact sbT
   clear hK K
   (try simp only [Act.put, putS])
   refine oS (i := 18) (preB 19 11) rfl hHeld ?_
   (try simp only [Act.put, putS])
   refine oS (i := 19) (preB 20 10) rfl hHeld ?_
   (try simp only [Act.put, putS])
   refine oS (i := 20) (preB 21 9) rfl hHeld ?_
   (try simp only [Act.put, putS])
   refine oS (i := 21) (preB 22 8) rfl hHeld ?_
   (try simp only [Act.put, putS])
   refine oS (i := 22) (preB 23 7) rfl hHeld ?_
   (try simp only [Act.put, putS])
   refine oS (i := 23) (preB 24 6) rfl hHeld ?_
   (try simp only [Act.put, putS])
   refine oS (i := 24) (preB 25 5) rfl hHeld ?_
   (try simp only [Act.put, putS])
   refine oS (i := 25) (preB 26 4) rfl hHeld ?_
   (try simp only [Act.put, putS])
   refine oS (i := 26) (preB 27 3) rfl hHeld ?_
   (try simp only [Act.put, putS])
   refine oS (i := 27) (preB 28 2) rfl hHeld ?_
   (try simp only [Act.put, putS])
   refine oS (i := 28) (preB 29 1) rfl hHeld ?_
   (try simp only [Act.put, putS])
   refine oS (i := 29) (preB 30 0) rfl hHeld ?_
   (try simp only [Act.put, putS])
   refine wpAnyH_done (by kernel_rfl) ?_ _
   go_wp2_with fail
   go_ret
   exact ⟨⟨_, rfl⟩, by (repeat (first | (with_reducible first | exact Below.refl _ _ | assumption | refine Below.drew ?_) | ((with_reducible first | refine Below.alloc ?_ ?_ _ | refine Below.setCell ?_ ?_ _); rotate_left; (first | omega | (simp <;> omega)))))⟩
 ·have d1 : ((n3 : Int) != a) = true := by simpa using h1
  go_enter Tryz.func304, Tryz.ntmps304
  go_wp2_with fail
  refine ord_start (SB (w.heap.size + 1) [] _) 30 (preB 0 30) (by kernel_rfl) (by kernel_rfl) (by kernel_rfl) SB.refl.drew (fun hHeld => ?_)
  refine oS (i := 0) (preB 1 29) rfl hHeld ?_
  (try simp only [Act.put, putS])
  refine oS (i := 1) (preB 2 28) rfl hHeld ?_
  (try simp only [Act.put, putS])
  refine oS (i := 2) (preB 3 27) rfl hHeld ?_
  (try simp only [Act.put, putS])
  refine oS (i := 3) (preB 4 26) rfl hHeld ?_
  (try simp only [Act.put, putS])
  refine oS (i := 4) (preB 5 25) rfl hHeld ?_
  (try simp only [Act.put, putS])
  refine wpAnyH_ready (rs := [5]) (by kernel_rfl) (by simp) ?_
  refine ord_run (i := 5) (preB 6 24) rfl (by kernel_rfl) (by rfl) (fun K hK => ?_) AllReadyH.nil
  go_simp
  go_wp2_with (go_at_call 325; refine (HO.out _).mono ?_; rintro e w1 ⟨rfl, rfl⟩)
  refine hK.out _ _ ?_ (fun hHeld => ?_)
  ·exact sbT
  clear hK K
  (try simp only [Act.put, putS])
  refine oS (i := 6) (preB 7 23) rfl hHeld ?_
  (try simp only [Act.put, putS])
  refine oS (i := 7) (preB 8 22) rfl hHeld ?_
  (try simp only [Act.put, putS])
  refine ord_skip (i := 8) (preB 9 21) rfl (by kernel_rfl) (by kernel_rfl) (by kernel_rfl) (by kernel_rfl) (fun _ _ _ h => h) hHeld (by rfl) ?_
  (try simp only [Act.put, putS])
  refine ord_skip (i := 9) (preB 10 20) rfl (by kernel_rfl) (by kernel_rfl) (by kernel_rfl) (by kernel_rfl) (fun _ _ _ h => h) hHeld (by rfl) ?_
  (try simp only [Act.put, putS])
  refine ord_skip (i := 10) (preB 11 19) rfl (by kernel_rfl) (by kernel_rfl) (by kernel_rfl) (by kernel_rfl) (fun _ _ _ h => h) hHeld (by rfl) ?_
  (try simp only [Act.put, putS])
  refine oS (i := 11) (preB 12 18) rfl hHeld ?_
  (try simp only [Act.put, putS])
  refine oS (i := 12) (preB 13 17) rfl hHeld ?_
  (try simp only [Act.put, putS])
  refine ord_skip (i := 13) (preB 14 16) rfl (by kernel_rfl) (by kernel_rfl) (by kernel_rfl) (by kernel_rfl) (fun _ _ _ h => h) hHeld (by rfl) ?_
  (try simp only [Act.put, putS])
  refine ord_skip (i := 14) (preB 15 15) rfl (by kernel_rfl) (by kernel_rfl) (by kernel_rfl) (by kernel_rfl) (fun _ _ _ h => h) hHeld (by rfl) ?_
  (try simp only [Act.put, putS])
  refine ord_skip (i := 15) (preB 16 14) rfl (by kernel_rfl) (by kernel_rfl) (by kernel_rfl) (by kernel_rfl) (fun _ _ _ h => h) hHeld (by rfl) ?_
  (try simp only [Act.put, putS])
  refine ord_skip (i := 16) (preB 17 13) rfl (by kernel_rfl) (by kernel_rfl) (by kernel_rfl) (by kernel_rfl) (fun _ _ _ h => h) hHeld (by rfl) ?_
  (try simp only [Act.put, putS])
  refine ord_skip (i := 17) (preB 18 12) rfl (by kernel_rfl) (by kernel_rfl) (by kernel_rfl) (by kernel_rfl) (fun _ _ _ h => h) hHeld (by rfl) ?_
  (try simp only [Act.put, putS])
  refine ord_skip (i := 18) (preB 19 11) rfl (by kernel_rfl) (by kernel_rfl) (by kernel_rfl) (by kernel_rfl) (fun _ _ _ h => h) hHeld (by rfl) ?_
  (try simp only [Act.put, putS])
  refine oS (i := 19) (preB 20 10) rfl hHeld ?_
  (try simp only [Act.put, putS])
  refine oS (i := 20) (preB 21 9) rfl hHeld ?_
  (try simp only [Act.put, putS])
  refine ord_skip (i := 21) (preB 22 8) rfl (by kernel_rfl) (by kernel_rfl) (by kernel_rfl) (by kernel_rfl) (fun _ _ _ h => h) hHeld (by rfl) ?_
  (try simp only [Act.put, putS])
  refine ord_skip (i := 22) (preB 23 7) rfl (by kernel_rfl) (by kernel_rfl) (by kernel_rfl) (by kernel_rfl) (fun _ _ _ h => h) hHeld (by rfl) ?_
  (try simp only [Act.put, putS])
  refine ord_skip (i := 23) (preB 24 6) rfl (by kernel_rfl) (by kernel_rfl) (by kernel_rfl) (by kernel_rfl) (fun _ _ _ h => h) hHeld (by rfl) ?_
  (try simp only [Act.put, putS])
  refine ord_skip (i := 24) (preB 25 5) rfl (by kernel_rfl) (by kernel_rfl) (by kernel_rfl) (by kernel_rfl) (fun _ _ _ h => h) hHeld (by rfl) ?_
  (try simp only [Act.put, putS])
  refine ord_skip (i := 25) (preB 26 4) rfl (by kernel_rfl) (by kernel_rfl) (by kernel_rfl) (by kernel_rfl) (fun _ _ _ h => h) hHeld (by rfl) ?_
  (try simp only [Act.put, putS])
  refine ord_skip (i := 26) (preB 27 3) rfl (by kernel_rfl) (by kernel_rfl) (by kernel_rfl) (by kernel_rfl) (fun _ _ _ h => h) hHeld (by rfl) ?_
  (try simp only [Act.put, putS])
  refine ord_skip (i := 27) (preB 28 2) rfl (by kernel_rfl) (by kernel_rfl) (by kernel_rfl) (by kernel_rfl) (fun _ _ _ h => h) hHeld (by rfl) ?_
  (try simp only [Act.put, putS])
  refine ord_skip (i := 28) (preB 29 1) rfl (by kernel_rfl) (by kernel_rfl) (by kernel_rfl) (by kernel_rfl) (fun _ _ _ h => h) hHeld (by rfl) ?_
  (try simp only [Act.put, putS])
  refine oS (i := 29) (preB 30 0) rfl hHeld ?_
  (try simp only [Act.put, putS])
  refine wpAnyH_done (by kernel_rfl) ?_ _
  go_wp2_with fail
  go_ret
  exact ⟨⟨_, rfl⟩, by (repeat (first | (with_reducible first | exact Below.refl _ _ | assumption | refine Below.drew ?_) | ((with_reducible first | refine Below.alloc ?_ ?_ _ | refine Below.setCell ?_ ?_ _); rotate_left; (first | omega | (simp <;> omega)))))⟩
theorem wright_any {ck : Nat → Tr} (kn : KnOK 5 ck) (w : World) (X : Array Value) (hX : ElT (Old w) w 5 ck X) : Calls Tryz.prog 304 #[.agg X] w (SomB w) := treeE rt_expr kn w X hX
end Go.Proofs.YtpghciiifnjimaaGreatDoor
