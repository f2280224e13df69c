/- Texts laid together: Ezc. -/
import Derived.Test.YtdjlaiilngechaaGreatDoorXEza
import Derived.Test.YtdjlaiilngechaaGreatDoorXK0
namespace Go.Proofs.YtdjlaiilngechaaGreatDoor
set_option maxRecDepth 4000
set_option linter.unusedSimpArgs false
set_option linter.unusedVariables false
open Go.RowKit
set_option maxRecDepth 8000 in
set_option maxHeartbeats 8000000 in
theorem pgr_any {ck : Nat → Tr} (kn : KnOK 8 ck) (w : World) (X : Array Value) (hX : ElT (Old w) w 8 ck X) :
  Calls Tryz.prog 26 #[.agg X] w (GrR ((ck 7).n ≤ 20 ∧ (ck 12).n ≤ 20) w) := by
 obtain ⟨s0, _, e0, _⟩ := rd_str (hX.rd 0 (by decide)) (kn 0 (by decide))
 obtain ⟨s1, _, e1, _⟩ := rd_str (hX.rd 1 (by decide)) (kn 1 (by decide))
 obtain ⟨s2, _, e2, _⟩ := rd_str (hX.rd 2 (by decide)) (kn 2 (by decide))
 obtain ⟨n7, c7, q7, hk7, A7, cap7, C7, e7, _, hA7⟩ := rd_row (e := 4) (hX.rd 7 (by decide)) (kn 7 (by decide))
 obtain ⟨n12, c12, q12, hk12, A12, cap12, C12, e12, _, hA12⟩ := rd_row (e := 4) (hX.rd 12 (by decide)) (kn 12 (by decide))
 obtain ⟨n17, c17, q17, hk17, A17, cap17, C17, e17, _, hA17⟩ := rd_row (e := 6) (hX.rd 17 (by decide)) (kn 17 (by decide))
 obtain ⟨n18, c18, q18, hk18, A18, cap18, C18, e18, _, hA18⟩ := rd_row (e := 7) (hX.rd 18 (by decide)) (kn 18 (by decide))
 have hXs : X.size = 19 := hX.size
 have g0 : X[0]? = some (.string s0) := at_eq hXs (by decide) e0
 have g1 : X[1]? = some (.string s1) := at_eq hXs (by decide) e1
 have g2 : X[2]? = some (.string s2) := at_eq hXs (by decide) e2
 have g7 : X[7]? = some (.slice A7 n7 cap7) := at_eq hXs (by decide) e7
 have g12 : X[12]? = some (.slice A12 n12 cap12) := at_eq hXs (by decide) e12
 have g17 : X[17]? = some (.slice A17 n17 cap17) := at_eq hXs (by decide) e17
 have g18 : X[18]? = some (.slice A18 n18 cap18) := at_eq hXs (by decide) e18
 have HK17 := hide hk17
 have HA17 := hide hA17
 have hn17 : n17 ≤ 140737488351232 := by have := hk17.room; simp only [tby] at this; omega
 have HK18 := hide hk18
 have HA18 := hide hA18
 have hn18 : n18 ≤ 140737488351232 := by have := hk18.room; simp only [tby] at this; omega
 have HN7 := hide (show (ck 7).n = n7 from by rw [q7]; rfl)
 have HN12 := hide (show (ck 12).n = n12 from by rw [q12]; rfl)
 clear e0 e1 e2 e7 e12 e17 e18 hk7 hk12 hk17 hk18 hA7 hA12 hA17 hA18 hX hXs q7 q12 q17 q18
 by_cases h0 : (100 : Int) < s0.size
 ·go_enter Tryz.func26, Tryz.ntmps26
  go_wp2_with fail
  go_ret
  exact ⟨true, rfl, nofun, by (repeat (first | (with_reducible first | exact Below.refl _ _ | assumption | refine Below.drew ?_) | ((with_reducible first | refine Below.alloc ?_ ?_ _ | refine Below.setCell ?_ ?_ _); rotate_left; (first | omega | (simp <;> omega)))))⟩
 by_cases h1 : (100 : Int) < s1.size
 ·go_enter Tryz.func26, Tryz.ntmps26
  go_wp2_with fail
  go_ret
  exact ⟨true, rfl, nofun, by (repeat (first | (with_reducible first | exact Below.refl _ _ | assumption | refine Below.drew ?_) | ((with_reducible first | refine Below.alloc ?_ ?_ _ | refine Below.setCell ?_ ?_ _); rotate_left; (first | omega | (simp <;> omega)))))⟩
 by_cases h2 : (100 : Int) < s2.size
 ·go_enter Tryz.func26, Tryz.ntmps26
  go_wp2_with fail
  go_ret
  exact ⟨true, rfl, nofun, by (repeat (first | (with_reducible first | exact Below.refl _ _ | assumption | refine Below.drew ?_) | ((with_reducible first | refine Below.alloc ?_ ?_ _ | refine Below.setCell ?_ ?_ _); rotate_left; (first | omega | (simp <;> omega)))))⟩
 by_cases h3 : (20 : Int) < n7
 ·go_enter Tryz.func26, Tryz.ntmps26
  go_wp2_with fail
  go_ret
  exact ⟨true, rfl, nofun, by (repeat (first | (with_reducible first | exact Below.refl _ _ | assumption | refine Below.drew ?_) | ((with_reducible first | refine Below.alloc ?_ ?_ _ | refine Below.setCell ?_ ?_ _); rotate_left; (first | omega | (simp <;> omega)))))⟩
 by_cases h4 : (20 : Int) < n12
 ·go_enter Tryz.func26, Tryz.ntmps26
  go_wp2_with fail
  go_ret
  exact ⟨true, rfl, nofun, by (repeat (first | (with_reducible first | exact Below.refl _ _ | assumption | refine Below.drew ?_) | ((with_reducible first | refine Below.alloc ?_ ?_ _ | refine Below.setCell ?_ ?_ _); rotate_left; (first | omega | (simp <;> omega)))))⟩
 by_cases h5 : (10 : Int) < n17
 ·go_enter Tryz.func26, Tryz.ntmps26
  go_wp2_with fail
  go_ret
  exact ⟨true, rfl, nofun, by (repeat (first | (with_reducible first | exact Below.refl _ _ | assumption | refine Below.drew ?_) | ((with_reducible first | refine Below.alloc ?_ ?_ _ | refine Below.setCell ?_ ?_ _); rotate_left; (first | omega | (simp <;> omega)))))⟩
 by_cases h6 : (10 : Int) < n18
 ·go_enter Tryz.func26, Tryz.ntmps26
  go_wp2_with fail
  go_ret
  exact ⟨true, rfl, nofun, by (repeat (first | (with_reducible first | exact Below.refl _ _ | assumption | refine Below.drew ?_) | ((with_reducible first | refine Below.alloc ?_ ?_ _ | refine Below.setCell ?_ ?_ _); rotate_left; (first | omega | (simp <;> omega)))))⟩
 go_enter Tryz.func26, Tryz.ntmps26
 go_wp2_with fail
 go_loopw [3] (fun v wr => GrI n17 (w.alloc (.cells X 78)) v wr) (fun v _ => n17 - (intOf v).toNat)
 case atStart => exact ⟨0, by omega, rfl, by (repeat (first | (with_reducible first | exact Below.refl _ _ | assumption | refine Below.drew ?_) | ((with_reducible first | refine Below.alloc ?_ ?_ _ | refine Below.setCell ?_ ?_ _); rotate_left; (first | omega | (simp <;> omega)))))⟩
 case round =>
  obtain ⟨k, hkn, rfl, hb⟩ := hrel
  have H0 := hide hb
  have q1B : Below w.heap.size w wr := qB hb
  have q1z := hb.size
  try simp at q1z
  have q1t : w.heap.size ≤ wr.heap.size := (by omega)
  obtain ⟨q1s0, q1n0_0, q1n0_1, q1n0_2⟩ := kB wr.heap.size w.heap.size
  have q1c0_17 := cel hb w.heap.size 17
  simp [go_sem, *] at q1c0_17
  have q1c0_18 := cel hb w.heap.size 18
  simp [go_sem, *] at q1c0_18
  have q1f0 := fun o => fro hb w.heap.size o
  simp [go_sem, *] at q1f0
  have q1o := belO q1B
  clear hb
  have QB := hide q1B
  by_cases hlt : k < n17
  ·have hm : (k : Int) < n17 := by omega
   have hk0 : (0 : Int) ≤ k := by omega
   have HLT := hide hlt
   obtain ⟨b, off, rfl, hbl, hc⟩ := (HA17.out.below q1B).cells (by decide) hlt
   obtain ⟨sn, _, es, _⟩ := rd_str (HA17.out.rd k 0 hlt (by decide)) (HK17.out.wt k 0 hlt (by decide))
   have cs : wr.cell? ⟨b, off + k * 10, none⟩ = some (.string sn) := by rw [← es]; exact hc 0 _ (elA_at 6 C17 k 0 (by decide))
   have z2_0 : wr.cell? ⟨b, off + k * 10 + 2, none⟩ = some (C17 k 2) := hc 2 _ (elA_at 6 C17 k 2 (by decide))
   have z2_1 : wr.cell? ⟨b, off + k * 10 + 3, none⟩ = some (C17 k 3) := hc 3 _ (elA_at 6 C17 k 3 (by decide))
   have z2_2 : wr.cell? ⟨b, off + k * 10 + 4, none⟩ = some (C17 k 4) := hc 4 _ (elA_at 6 C17 k 4 (by decide))
   have z2_3 : wr.cell? ⟨b, off + k * 10 + 5, none⟩ = some (C17 k 5) := hc 5 _ (elA_at 6 C17 k 5 (by decide))
   have E2 := hide (show ElT (Old wr) wr 5 (fun j => c17 k (2 + j)) #[C17 k 2, C17 k 3, C17 k 4, C17 k 5] ∧ KnOK 5 (fun j => c17 k (2 + j)) from RowT.sub (e' := 5) (o := 2) (HA17.out.below q1B) HK17.out hlt (by decide))
   have z6_0 : wr.cell? ⟨b, off + k * 10 + 6, none⟩ = some (C17 k 6) := hc 6 _ (elA_at 6 C17 k 6 (by decide))
   have z6_1 : wr.cell? ⟨b, off + k * 10 + 7, none⟩ = some (C17 k 7) := hc 7 _ (elA_at 6 C17 k 7 (by decide))
   have z6_2 : wr.cell? ⟨b, off + k * 10 + 8, none⟩ = some (C17 k 8) := hc 8 _ (elA_at 6 C17 k 8 (by decide))
   have z6_3 : wr.cell? ⟨b, off + k * 10 + 9, none⟩ = some (C17 k 9) := hc 9 _ (elA_at 6 C17 k 9 (by decide))
   have E6 := hide (show ElT (Old wr) wr 5 (fun j => c17 k (6 + j)) #[C17 k 6, C17 k 7, C17 k 8, C17 k 9] ∧ KnOK 5 (fun j => c17 k (6 + j)) from RowT.sub (e' := 5) (o := 6) (HA17.out.below q1B) HK17.out hlt (by decide))
   have HBL := hide hbl
   clear hc hlt hkn es
   by_cases hs : (100 : Int) < sn.size
   ·go_wp2_with fail
    go_ret
    exact ⟨true, rfl, nofun, QB.out⟩
   ·go_wp2_with fail
    refine (rgr_any E2.out.2 _ _ 100 E2.out.1 (by omega) (by omega)).mono ?_
    rintro r v0 ⟨b0, rfl, hb⟩
    have P0 := hide hb
    have q2B : Below wr.heap.size wr v0 := qB hb
    have q2z := hb.size
    try simp at q2z
    have q2t : wr.heap.size ≤ v0.heap.size := (by omega)
    obtain ⟨q2s0, q2n0_0, q2n0_1, q2n0_2⟩ := kB v0.heap.size w.heap.size
    have q2c0_17 := cel hb w.heap.size 17
    simp [go_sem, *] at q2c0_17
    have q2c0_18 := cel hb w.heap.size 18
    simp [go_sem, *] at q2c0_18
    have q2f0 := fun o => fro hb w.heap.size o
    simp [go_sem, *] at q2f0
    have q2o := belO q2B
    clear hb q1o q1f0 q1c0_18 q1c0_17 q1s0 q1z q1B
    have y0_6_0 := (P0.out.cell (p := ⟨b, off + k * 10 + 6, none⟩) HBL.out).trans z6_0
    have y0_6_1 := (P0.out.cell (p := ⟨b, off + k * 10 + 7, none⟩) HBL.out).trans z6_1
    have y0_6_2 := (P0.out.cell (p := ⟨b, off + k * 10 + 8, none⟩) HBL.out).trans z6_2
    have y0_6_3 := (P0.out.cell (p := ⟨b, off + k * 10 + 9, none⟩) HBL.out).trans z6_3
    have ys := (P0.out.cell (p := ⟨b, off + k * 10, none⟩) HBL.out).trans cs
    cases b0 with
    | true =>
     go_wp2_with fail
     go_ret
     exact ⟨true, rfl, nofun, QB.out.trans (P0.out.mono QB.out.size)⟩
    | false =>
     go_wp2_with fail
     refine (rgr_any E6.out.2 _ _ 100 (E6.out.1.below P0.out) (by omega) (by omega)).mono ?_
     rintro r v1 ⟨b1, rfl, hb⟩
     have P1 := hide (show Below wr.heap.size wr v1 from P0.out.trans (hb.mono P0.out.size))
     have q3B : Below v0.heap.size v0 v1 := qB hb
     have q3z := hb.size
     try simp at q3z
     have q3t : v0.heap.size ≤ v1.heap.size := (by omega)
     obtain ⟨q3s0, q3n0_0, q3n0_1, q3n0_2⟩ := kB v1.heap.size w.heap.size
     have q3c0_17 := cel hb w.heap.size 17
     simp [go_sem, *] at q3c0_17
     have q3c0_18 := cel hb w.heap.size 18
     simp [go_sem, *] at q3c0_18
     have q3f0 := fun o => fro hb w.heap.size o
     simp [go_sem, *] at q3f0
     have q3o := belO q3B
     clear hb q2o q2f0 q2c0_18 q2c0_17 q2s0 q2z q2B
     cases b1 with
     | true =>
      go_wp2_with fail
      go_ret
      exact ⟨true, rfl, nofun, QB.out.trans (P1.out.mono QB.out.size)⟩
     | false =>
      go_wp2_with fail
      go_roundw
      case rel => exact ⟨k + 1, HLT.out, by go_num, H0.out.trans (P1.out.mono H0.out.size)⟩
      case measure => have := HLT.out; simp [intOf]; omega
  ·obtain rfl : k = n17 := by omega
   clear hlt hkn
   go_wp2_with fail
   go_loopw [4] (fun v wr => GrI n18 (w.alloc (.cells X 78)) v wr) (fun v _ => n18 - (intOf v).toNat)
   case atStart => exact ⟨0, by omega, rfl, H0.out⟩
   case round =>
    obtain ⟨k, hkn, rfl, hb⟩ := hrel
    have H0 := hide hb
    have q1B : Below w.heap.size w wr := qB hb
    have q1z := hb.size
    try simp at q1z
    have q1t : w.heap.size ≤ wr.heap.size := (by omega)
    obtain ⟨q1s0, q1n0_0, q1n0_1, q1n0_2⟩ := kB wr.heap.size w.heap.size
    have q1c0_17 := cel hb w.heap.size 17
    simp [go_sem, *] at q1c0_17
    have q1c0_18 := cel hb w.heap.size 18
    simp [go_sem, *] at q1c0_18
    have q1f0 := fun o => fro hb w.heap.size o
    simp [go_sem, *] at q1f0
    have q1o := belO q1B
    clear hb
    have QB := hide q1B
    by_cases hlt : k < n18
    ·have hm : (k : Int) < n18 := by omega
     have hk0 : (0 : Int) ≤ k := by omega
     have HLT := hide hlt
     obtain ⟨b, off, rfl, hbl, hc⟩ := (HA18.out.below q1B).cells (by decide) hlt
     obtain ⟨sn, _, es, _⟩ := rd_str (HA18.out.rd k 0 hlt (by decide)) (HK18.out.wt k 0 hlt (by decide))
     have cs : wr.cell? ⟨b, off + k * 6, none⟩ = some (.string sn) := by rw [← es]; exact hc 0 _ (elA_at 7 C18 k 0 (by decide))
     have z2_0 : wr.cell? ⟨b, off + k * 6 + 2, none⟩ = some (C18 k 2) := hc 2 _ (elA_at 7 C18 k 2 (by decide))
     have z2_1 : wr.cell? ⟨b, off + k * 6 + 3, none⟩ = some (C18 k 3) := hc 3 _ (elA_at 7 C18 k 3 (by decide))
     have z2_2 : wr.cell? ⟨b, off + k * 6 + 4, none⟩ = some (C18 k 4) := hc 4 _ (elA_at 7 C18 k 4 (by decide))
     have z2_3 : wr.cell? ⟨b, off + k * 6 + 5, none⟩ = some (C18 k 5) := hc 5 _ (elA_at 7 C18 k 5 (by decide))
     have E2 := hide (show ElT (Old wr) wr 5 (fun j => c18 k (2 + j)) #[C18 k 2, C18 k 3, C18 k 4, C18 k 5] ∧ KnOK 5 (fun j => c18 k (2 + j)) from RowT.sub (e' := 5) (o := 2) (HA18.out.below q1B) HK18.out hlt (by decide))
     have HBL := hide hbl
     clear hc hlt hkn es
     by_cases hs : (100 : Int) < sn.size
     ·go_wp2_with fail
      go_ret
      exact ⟨true, rfl, nofun, QB.out⟩
     ·go_wp2_with fail
      refine (rgr_any E2.out.2 _ _ 100 E2.out.1 (by omega) (by omega)).mono ?_
      rintro r v0 ⟨b0, rfl, hb⟩
      have P0 := hide hb
      have q2B : Below wr.heap.size wr v0 := qB hb
      have q2z := hb.size
      try simp at q2z
      have q2t : wr.heap.size ≤ v0.heap.size := (by omega)
      obtain ⟨q2s0, q2n0_0, q2n0_1, q2n0_2⟩ := kB v0.heap.size w.heap.size
      have q2c0_17 := cel hb w.heap.size 17
      simp [go_sem, *] at q2c0_17
      have q2c0_18 := cel hb w.heap.size 18
      simp [go_sem, *] at q2c0_18
      have q2f0 := fun o => fro hb w.heap.size o
      simp [go_sem, *] at q2f0
      have q2o := belO q2B
      clear hb q1o q1f0 q1c0_18 q1c0_17 q1s0 q1z q1B
      have ys := (P0.out.cell (p := ⟨b, off + k * 6, none⟩) HBL.out).trans cs
      cases b0 with
      | true =>
       go_wp2_with fail
       go_ret
       exact ⟨true, rfl, nofun, QB.out.trans (P0.out.mono QB.out.size)⟩
      | false =>
       go_wp2_with fail
       go_roundw
       case rel => exact ⟨k + 1, HLT.out, by go_num, H0.out.trans (P0.out.mono H0.out.size)⟩
       case measure => have := HLT.out; simp [intOf]; omega
    ·obtain rfl : k = n18 := by omega
     clear hlt hkn
     go_wp2_with fail
     go_ret
     exact ⟨false, rfl, fun _ => ⟨by rw [HN7.out]; omega, by rw [HN12.out]; omega⟩, QB.out⟩
end Go.Proofs.YtdjlaiilngechaaGreatDoor
