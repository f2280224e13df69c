/- Texts laid together: TpC. -/
import Derived.Test.YtpghciiifnjimaaGreatDoorXTpB
import Derived.Test.YtpghciiifnjimaaGreatDoorXDaM
import Derived.Test.YtpghciiifnjimaaGreatDoorXK0
namespace Go.Proofs.YtpghciiifnjimaaGreatDoor
set_option maxRecDepth 4000
set_option linter.unusedSimpArgs false
set_option linter.unusedVariables false
open Go.RowKit
set_option maxRecDepth 8000 in
set_option maxHeartbeats 8000000 in
theorem wcheck3_any (A : Option Addr) (n cap : Nat) (c : Nat → Nat → Tr) (C : Nat → Nat → Value) (hk : RowK 1 n c) (w : World) (hA : RowT (Old w) w 1 A n c C) :
  Calls Tryz.prog 40 #[.slice A n cap] w (SomE w) := by
 have HK := hide hk
 have HA := hide hA
 have hn : n ≤ 140737488351232 := by have := hk.room; simp only [tby] at this; omega
 clear hk hA
 by_cases h1 : (n : Int) < 1
 ·go_enter Tryz.func40, Tryz.ntmps40
  go_wp2_with fail
  all_goals try (go_ret; exact ⟨⟨_, rfl⟩, by (repeat (first | (with_reducible first | exact Below.refl _ _ | assumption | refine Below.drew ?_) | ((with_reducible first | refine Below.alloc ?_ ?_ _ | refine Below.setCell ?_ ?_ _); rotate_left; (first | omega | (simp <;> omega)))))⟩)
 by_cases h2 : (8 : Int) < n
 ·go_enter Tryz.func40, Tryz.ntmps40
  go_wp2_with fail
  all_goals try (go_ret; exact ⟨⟨_, rfl⟩, by (repeat (first | (with_reducible first | exact Below.refl _ _ | assumption | refine Below.drew ?_) | ((with_reducible first | refine Below.alloc ?_ ?_ _ | refine Below.setCell ?_ ?_ _); rotate_left; (first | omega | (simp <;> omega)))))⟩)
 go_enter Tryz.func40, Tryz.ntmps40
 go_wp2_with fail
 go_loopw [3] (fun v wr => KB n (w) v wr) (fun v _ => n - (intOf v).toNat)
 case atStart => exact ⟨0, by omega, rfl, by (repeat (first | (with_reducible first | exact Below.refl _ _ | assumption | refine Below.drew ?_) | ((with_reducible first | refine Below.alloc ?_ ?_ _ | refine Below.setCell ?_ ?_ _); rotate_left; (first | omega | (simp <;> omega)))))⟩
 case round =>
  obtain ⟨k, hkn, rfl, hb⟩ := hrel
  have H0 := hide hb
  by_cases hlt : k < n
  ·have hm : (k : Int) < n := by omega
   have hk0 : (0 : Int) ≤ k := by omega
   have HLT := hide hlt
   obtain ⟨b, off, rfl, hbl, hc⟩ := (HA.out.below hb).all (by decide) (by omega)
   obtain ⟨s0, _, e0, _⟩ := rd_str (HA.out.rd (k) 0 hlt (by decide)) (HK.out.wt (k) 0 hlt (by decide))
   have c0 : wr.cell? ⟨b, off + k * 2, none⟩ = some (.string s0) := by have hcc := hc (k) 0 hlt (by decide); rw [e0] at hcc; exact hcc
   clear e0
   obtain ⟨z1, _, e1, i1⟩ := rd_int (HA.out.rd (k) 1 hlt (by decide)) (HK.out.wt (k) 1 hlt (by decide))
   have c1 : wr.cell? ⟨b, off + k * 2 + 1, none⟩ = some (.int .i64 z1) := by have hcc := hc (k) 1 hlt (by decide); rw [e1] at hcc; exact hcc
   clear e1
   clear hlt hkn hb
   by_cases hkz : 0 < k
   ·obtain ⟨kk, hkk⟩ : ∃ kk, k = kk + 1 := ⟨k - 1, by omega⟩
    have d8 : decide (0 < k) = true := decide_eq_true hkz
    have n1 : IntKind.i64.wrap ((k : Int) - 1) = (kk : Int) := by rw [i64w]; unfold wrap64; have := HLT.out; omega
    have hkk0 : (0 : Int) ≤ kk := by omega
    have hkk1 : (kk : Int) < n := by have := HLT.out; omega
    have HKN := hide (show kk < n by have := HLT.out; omega)
    obtain ⟨ps0, _, pe0, _⟩ := rd_str (HA.out.rd (kk) 0 HKN.out (by decide)) (HK.out.wt (kk) 0 HKN.out (by decide))
    have pc0 : wr.cell? ⟨b, off + kk * 2, none⟩ = some (.string ps0) := by have hcc := hc (kk) 0 HKN.out (by decide); rw [pe0] at hcc; exact hcc
    clear pe0
    have HBL := hide hbl
    clear hc hbl hkz hkk
    go_wp2_with fail
    refine (wcode3_any s0 _).mono ?_
    rintro r w1 ⟨⟨b0, rfl⟩, hb⟩
    have B1 := hide (show Below w.heap.size w w1 from H0.out.trans (hb.mono H0.out.size))
    have d0 := (hb.cell (p := ⟨b, off + k * 2, none⟩) HBL.out).trans c0
    have d1 := (hb.cell (p := ⟨b, off + k * 2 + 1, none⟩) HBL.out).trans c1
    have pd0 := (hb.cell (p := ⟨b, off + kk * 2, none⟩) HBL.out).trans pc0
    have hbl : b < w1.heap.size := Nat.lt_of_lt_of_le HBL.out hb.size
    clear hb c0 c1 pc0
    cases b0 with
    | false =>
     go_wp2_with fail
     go_ret
     exact ⟨⟨_, rfl⟩, B1.out⟩
    | true =>
     go_wp2_with fail
     all_goals try (go_ret; exact ⟨⟨_, rfl⟩, B1.out⟩)
     refine ord_start (SB (w1.heap.size) [] _) 16 (preB 0 16) (by kernel_rfl) (by kernel_rfl) (by kernel_rfl) SB.refl.drew (fun hHeld => ?_)
     refine oS (i := 0) (preB 1 15) rfl hHeld ?_
     (try simp only [Act.put, putS])
     refine oS (i := 1) (preB 2 14) rfl hHeld ?_
     (try simp only [Act.put, putS])
     refine oS (i := 2) (preB 3 13) rfl hHeld ?_
     (try simp only [Act.put, putS])
     refine oS (i := 3) (preB 4 12) rfl hHeld ?_
     (try simp only [Act.put, putS])
     refine oS (i := 4) (preB 5 11) rfl hHeld ?_
     (try simp only [Act.put, putS])
     refine oS (i := 5) (preB 6 10) rfl hHeld ?_
     (try simp only [Act.put, putS])
     refine oS (i := 6) (preB 7 9) rfl hHeld ?_
     (try simp only [Act.put, putS])
     refine oS (i := 7) (preB 8 8) rfl hHeld ?_
     (try simp only [Act.put, putS])
     refine oS (i := 8) (preB 9 7) rfl hHeld ?_
     (try simp only [Act.put, putS])
     refine oS (i := 9) (preB 10 6) rfl hHeld ?_
     (try simp only [Act.put, putS])
     refine oS (i := 10) (preB 11 5) rfl hHeld ?_
     (try simp only [Act.put, putS])
     refine oS (i := 11) (preB 12 4) rfl hHeld ?_
     (try simp only [Act.put, putS])
     refine oS (i := 12) (preB 13 3) rfl hHeld ?_
     (try simp only [Act.put, putS])
     refine oS (i := 13) (preB 14 2) rfl hHeld ?_
     (try simp only [Act.put, putS])
     refine oS (i := 14) (preB 15 1) rfl hHeld ?_
     (try simp only [Act.put, putS])
     refine oS (i := 15) (preB 16 0) rfl hHeld ?_
     (try simp only [Act.put, putS])
     refine wpAnyH_done (by kernel_rfl) ?_ _
     go_wp2_with fail
     all_goals first
      | (go_ret; exact ⟨⟨_, rfl⟩, B1.out.trans belT⟩)
      | (go_roundw; (case rel => exact ⟨k + 1, HLT.out, by go_num, B1.out.trans belT⟩); (case measure => have := HLT.out; simp [intOf]; omega))
   ·have d8 : decide (0 < k) = false := decide_eq_false hkz
    have HBL := hide hbl
    clear hc hbl hkz
    go_wp2_with fail
    refine (wcode3_any s0 _).mono ?_
    rintro r w1 ⟨⟨b0, rfl⟩, hb⟩
    have B1 := hide (show Below w.heap.size w w1 from H0.out.trans (hb.mono H0.out.size))
    have d0 := (hb.cell (p := ⟨b, off + k * 2, none⟩) HBL.out).trans c0
    have d1 := (hb.cell (p := ⟨b, off + k * 2 + 1, none⟩) HBL.out).trans c1
    have hbl : b < w1.heap.size := Nat.lt_of_lt_of_le HBL.out hb.size
    clear hb c0 c1
    cases b0 with
    | false =>
     go_wp2_with fail
     go_ret
     exact ⟨⟨_, rfl⟩, B1.out⟩
    | true =>
     go_wp2_with fail
     all_goals try (go_ret; exact ⟨⟨_, rfl⟩, B1.out⟩)
     refine ord_start (SB (w1.heap.size) [] _) 16 (preB 0 16) (by kernel_rfl) (by kernel_rfl) (by kernel_rfl) SB.refl.drew (fun hHeld => ?_)
     refine oS (i := 0) (preB 1 15) rfl hHeld ?_
     (try simp only [Act.put, putS])
     refine oS (i := 1) (preB 2 14) rfl hHeld ?_
     (try simp only [Act.put, putS])
     refine oS (i := 2) (preB 3 13) rfl hHeld ?_
     (try simp only [Act.put, putS])
     refine ord_skip (i := 3) (preB 4 12) rfl (by kernel_rfl) (by kernel_rfl) (by kernel_rfl) (by kernel_rfl) (fun _ _ _ h => h) hHeld (by rfl) ?_
     (try simp only [Act.put, putS])
     refine ord_skip (i := 4) (preB 5 11) rfl (by kernel_rfl) (by kernel_rfl) (by kernel_rfl) (by kernel_rfl) (fun _ _ _ h => h) hHeld (by rfl) ?_
     (try simp only [Act.put, putS])
     refine ord_skip (i := 5) (preB 6 10) rfl (by kernel_rfl) (by kernel_rfl) (by kernel_rfl) (by kernel_rfl) (fun _ _ _ h => h) hHeld (by rfl) ?_
     (try simp only [Act.put, putS])
     refine ord_skip (i := 6) (preB 7 9) rfl (by kernel_rfl) (by kernel_rfl) (by kernel_rfl) (by kernel_rfl) (fun _ _ _ h => h) hHeld (by rfl) ?_
     (try simp only [Act.put, putS])
     refine ord_skip (i := 7) (preB 8 8) rfl (by kernel_rfl) (by kernel_rfl) (by kernel_rfl) (by kernel_rfl) (fun _ _ _ h => h) hHeld (by rfl) ?_
     (try simp only [Act.put, putS])
     refine ord_skip (i := 8) (preB 9 7) rfl (by kernel_rfl) (by kernel_rfl) (by kernel_rfl) (by kernel_rfl) (fun _ _ _ h => h) hHeld (by rfl) ?_
     (try simp only [Act.put, putS])
     refine ord_skip (i := 9) (preB 10 6) rfl (by kernel_rfl) (by kernel_rfl) (by kernel_rfl) (by kernel_rfl) (fun _ _ _ h => h) hHeld (by rfl) ?_
     (try simp only [Act.put, putS])
     refine ord_skip (i := 10) (preB 11 5) rfl (by kernel_rfl) (by kernel_rfl) (by kernel_rfl) (by kernel_rfl) (fun _ _ _ h => h) hHeld (by rfl) ?_
     (try simp only [Act.put, putS])
     refine ord_skip (i := 11) (preB 12 4) rfl (by kernel_rfl) (by kernel_rfl) (by kernel_rfl) (by kernel_rfl) (fun _ _ _ h => h) hHeld (by rfl) ?_
     (try simp only [Act.put, putS])
     refine ord_skip (i := 12) (preB 13 3) rfl (by kernel_rfl) (by kernel_rfl) (by kernel_rfl) (by kernel_rfl) (fun _ _ _ h => h) hHeld (by rfl) ?_
     (try simp only [Act.put, putS])
     refine ord_skip (i := 13) (preB 14 2) rfl (by kernel_rfl) (by kernel_rfl) (by kernel_rfl) (by kernel_rfl) (fun _ _ _ h => h) hHeld (by rfl) ?_
     (try simp only [Act.put, putS])
     refine ord_skip (i := 14) (preB 15 1) rfl (by kernel_rfl) (by kernel_rfl) (by kernel_rfl) (by kernel_rfl) (fun _ _ _ h => h) hHeld (by rfl) ?_
     (try simp only [Act.put, putS])
     refine oS (i := 15) (preB 16 0) rfl hHeld ?_
     (try simp only [Act.put, putS])
     refine wpAnyH_done (by kernel_rfl) ?_ _
     go_wp2_with fail
     all_goals first
      | (go_ret; exact ⟨⟨_, rfl⟩, B1.out.trans belT⟩)
      | (go_roundw; (case rel => exact ⟨k + 1, HLT.out, by go_num, B1.out.trans belT⟩); (case measure => have := HLT.out; simp [intOf]; omega))
  ·obtain rfl : k = n := by omega
   clear hlt hkn
   go_wp2_with fail
   go_ret
   exact ⟨⟨_, rfl⟩, H0.out⟩
set_option maxRecDepth 8000 in
set_option maxHeartbeats 8000000 in
theorem wone22_any (z0 z1 z2 z3 z4 : Int) (s5 : ByteArray) (w : World) : Calls Tryz.prog 95 #[.agg #[.int .i64 z0, .int .i64 z1, .int .i64 z2, .int .i64 z3, .int .i64 z4, .string s5]] w (SomE w) := by
 go_enter Tryz.func95, Tryz.ntmps95
 go_wp2_with (first | (go_at_call 90; refine (rvalid_any _ _).mono ?_; rintro r w1 ⟨rfl, rfl⟩) | (go_at_call 156; refine (wkey_any _ _).mono ?_; rintro r w1 ⟨⟨b0, rfl⟩, hb⟩; have hB := hb))
 all_goals first | (exfalso; omega) | (go_ret; exact ⟨⟨_, rfl⟩, by first | (refine Below.trans ?_ (hB.mono (by simp)); (repeat (first | (with_reducible first | exact Below.refl _ _ | assumption | refine Below.drew ?_) | ((with_reducible first | refine Below.alloc ?_ ?_ _ | refine Below.setCell ?_ ?_ _); rotate_left; (first | omega | (simp <;> omega)))))) | ((repeat (first | (with_reducible first | exact Below.refl _ _ | assumption | refine Below.drew ?_) | ((with_reducible first | refine Below.alloc ?_ ?_ _ | refine Below.setCell ?_ ?_ _); rotate_left; (first | omega | (simp <;> omega))))))⟩)
set_option maxRecDepth 8000 in
set_option maxHeartbeats 8000000 in
theorem wgood23_any (z0 z1 z2 z3 z4 z5 : Int) (s6 : ByteArray) (w : World) : Calls Tryz.prog 97 #[.agg #[.int .i64 z0, .int .i64 z1, .int .i64 z2, .int .i64 z3, .int .i64 z4, .int .i64 z5, .string s6]] w (SomB w) := by
 go_enter Tryz.func97, Tryz.ntmps97
 go_wp2_with (go_at_call 90; refine (rvalid_any _ _).mono ?_; rintro r w1 ⟨rfl, rfl⟩)
 all_goals first | (exfalso; omega) | (go_ret; exact ⟨⟨_, rfl⟩, by first | (refine Below.trans ?_ (hB.mono (by simp)); (repeat (first | (with_reducible first | exact Below.refl _ _ | assumption | refine Below.drew ?_) | ((with_reducible first | refine Below.alloc ?_ ?_ _ | refine Below.setCell ?_ ?_ _); rotate_left; (first | omega | (simp <;> omega)))))) | ((repeat (first | (with_reducible first | exact Below.refl _ _ | assumption | refine Below.drew ?_) | ((with_reducible first | refine Below.alloc ?_ ?_ _ | refine Below.setCell ?_ ?_ _); rotate_left; (first | omega | (simp <;> omega))))))⟩)
set_option maxRecDepth 8000 in
set_option maxHeartbeats 8000000 in
theorem wcheck22_any (A : Option Addr) (n cap : Nat) (c : Nat → Nat → Tr) (C : Nat → Nat → Value) (hcap : n ≤ cap) (hk : RowK 12 n c) (w : World) (hA : RowT (Old w) w 12 A n c C) :
  Calls Tryz.prog 46 #[.slice A n cap] w (SomE w) := by
 have HK := hide hk
 have HA := hide hA
 have hn : n ≤ 140737488351232 := by have := hk.room; simp only [tby] at this; omega
 clear hk hA
 by_cases h2 : (64 : Int) < n
 ·go_enter Tryz.func46, Tryz.ntmps46
  go_wp2_with fail
  all_goals try (go_ret; exact ⟨⟨_, rfl⟩, by (repeat (first | (with_reducible first | exact Below.refl _ _ | assumption | refine Below.drew ?_) | ((with_reducible first | refine Below.alloc ?_ ?_ _ | refine Below.setCell ?_ ?_ _); rotate_left; (first | omega | (simp <;> omega)))))⟩)
 go_enter Tryz.func46, Tryz.ntmps46
 go_wp2_with fail
 go_loopw [3] (fun v wr => KB n (w) v wr) (fun v _ => n - (intOf v).toNat)
 case atStart => exact ⟨0, by omega, rfl, by (repeat (first | (with_reducible first | exact Below.refl _ _ | assumption | refine Below.drew ?_) | ((with_reducible first | refine Below.alloc ?_ ?_ _ | refine Below.setCell ?_ ?_ _); rotate_left; (first | omega | (simp <;> omega)))))⟩
 case round =>
  obtain ⟨k, hkn, rfl, hb⟩ := hrel
  have H0 := hide hb
  by_cases hlt : k < n
  ·have hm : (k : Int) < n := by omega
   have hk0 : (0 : Int) ≤ k := by omega
   have hkc : (k : Int) ≤ cap := by omega
   have HLT := hide hlt
   obtain ⟨b, off, rfl, hbl, hc⟩ := (HA.out.below hb).all (by decide) (by omega)
   obtain ⟨z0, _, e0, i0⟩ := rd_int (HA.out.rd (k) 0 hlt (by decide)) (HK.out.wt (k) 0 hlt (by decide))
   have c0 : wr.cell? ⟨b, off + k * 6, none⟩ = some (.int .i64 z0) := by have hcc := hc (k) 0 hlt (by decide); rw [e0] at hcc; exact hcc
   clear e0
   obtain ⟨z1, _, e1, i1⟩ := rd_int (HA.out.rd (k) 1 hlt (by decide)) (HK.out.wt (k) 1 hlt (by decide))
   have c1 : wr.cell? ⟨b, off + k * 6 + 1, none⟩ = some (.int .i64 z1) := by have hcc := hc (k) 1 hlt (by decide); rw [e1] at hcc; exact hcc
   clear e1
   obtain ⟨z2, _, e2, i2⟩ := rd_int (HA.out.rd (k) 2 hlt (by decide)) (HK.out.wt (k) 2 hlt (by decide))
   have c2 : wr.cell? ⟨b, off + k * 6 + 2, none⟩ = some (.int .i64 z2) := by have hcc := hc (k) 2 hlt (by decide); rw [e2] at hcc; exact hcc
   clear e2
   obtain ⟨z3, _, e3, i3⟩ := rd_int (HA.out.rd (k) 3 hlt (by decide)) (HK.out.wt (k) 3 hlt (by decide))
   have c3 : wr.cell? ⟨b, off + k * 6 + 3, none⟩ = some (.int .i64 z3) := by have hcc := hc (k) 3 hlt (by decide); rw [e3] at hcc; exact hcc
   clear e3
   obtain ⟨z4, _, e4, i4⟩ := rd_int (HA.out.rd (k) 4 hlt (by decide)) (HK.out.wt (k) 4 hlt (by decide))
   have c4 : wr.cell? ⟨b, off + k * 6 + 4, none⟩ = some (.int .i64 z4) := by have hcc := hc (k) 4 hlt (by decide); rw [e4] at hcc; exact hcc
   clear e4
   obtain ⟨s5, _, e5, _⟩ := rd_str (HA.out.rd (k) 5 hlt (by decide)) (HK.out.wt (k) 5 hlt (by decide))
   have c5 : wr.cell? ⟨b, off + k * 6 + 5, none⟩ = some (.string s5) := by have hcc := hc (k) 5 hlt (by decide); rw [e5] at hcc; exact hcc
   clear e5
   clear hlt hkn hb
   by_cases hkz : 0 < k
   ·obtain ⟨kk, hkk⟩ : ∃ kk, k = kk + 1 := ⟨k - 1, by omega⟩
    have d8 : decide (0 < k) = true := decide_eq_true hkz
    have n1 : IntKind.i64.wrap ((k : Int) - 1) = (kk : Int) := by rw [i64w]; unfold wrap64; have := HLT.out; omega
    have hkk0 : (0 : Int) ≤ kk := by omega
    have hkk1 : (kk : Int) < n := by have := HLT.out; omega
    have HKN := hide (show kk < n by have := HLT.out; omega)
    obtain ⟨pz0, _, pe0, pi0⟩ := rd_int (HA.out.rd (kk) 0 HKN.out (by decide)) (HK.out.wt (kk) 0 HKN.out (by decide))
    have pc0 : wr.cell? ⟨b, off + kk * 6, none⟩ = some (.int .i64 pz0) := by have hcc := hc (kk) 0 HKN.out (by decide); rw [pe0] at hcc; exact hcc
    clear pe0
    have HBL := hide hbl
    clear hc hbl hkz hkk
    go_wp2_with fail
    refine (wone22_any z0 z1 z2 z3 z4 s5 _).mono ?_
    rintro r w1 ⟨⟨b0, rfl⟩, hb⟩
    have B1 := hide (show Below w.heap.size w w1 from H0.out.trans (hb.mono H0.out.size))
    have d0 := (hb.cell (p := ⟨b, off + k * 6, none⟩) HBL.out).trans c0
    have d1 := (hb.cell (p := ⟨b, off + k * 6 + 1, none⟩) HBL.out).trans c1
    have d2 := (hb.cell (p := ⟨b, off + k * 6 + 2, none⟩) HBL.out).trans c2
    have d3 := (hb.cell (p := ⟨b, off + k * 6 + 3, none⟩) HBL.out).trans c3
    have d4 := (hb.cell (p := ⟨b, off + k * 6 + 4, none⟩) HBL.out).trans c4
    have d5 := (hb.cell (p := ⟨b, off + k * 6 + 5, none⟩) HBL.out).trans c5
    have pd0 := (hb.cell (p := ⟨b, off + kk * 6, none⟩) HBL.out).trans pc0
    have hbl : b < w1.heap.size := Nat.lt_of_lt_of_le HBL.out hb.size
    clear hb c0 c1 c2 c3 c4 c5 pc0
    go_wp2_with fail
    all_goals try (go_ret; exact ⟨⟨_, rfl⟩, B1.out⟩)
    refine ord_start (SB (w1.heap.size) [] _) 16 (preB 0 16) (by kernel_rfl) (by kernel_rfl) (by kernel_rfl) SB.refl.drew (fun hHeld => ?_)
    refine oS (i := 0) (preB 1 15) rfl hHeld ?_
    (try simp only [Act.put, putS])
    refine oS (i := 1) (preB 2 14) rfl hHeld ?_
    (try simp only [Act.put, putS])
    refine oS (i := 2) (preB 3 13) rfl hHeld ?_
    (try simp only [Act.put, putS])
    refine oS (i := 3) (preB 4 12) rfl hHeld ?_
    (try simp only [Act.put, putS])
    refine oS (i := 4) (preB 5 11) rfl hHeld ?_
    (try simp only [Act.put, putS])
    refine oS (i := 5) (preB 6 10) rfl hHeld ?_
    (try simp only [Act.put, putS])
    refine oS (i := 6) (preB 7 9) rfl hHeld ?_
    (try simp only [Act.put, putS])
    refine oS (i := 7) (preB 8 8) rfl hHeld ?_
    (try simp only [Act.put, putS])
    refine oS (i := 8) (preB 9 7) rfl hHeld ?_
    (try simp only [Act.put, putS])
    refine oS (i := 9) (preB 10 6) rfl hHeld ?_
    (try simp only [Act.put, putS])
    refine oS (i := 10) (preB 11 5) rfl hHeld ?_
    (try simp only [Act.put, putS])
    refine oS (i := 11) (preB 12 4) rfl hHeld ?_
    (try simp only [Act.put, putS])
    refine oS (i := 12) (preB 13 3) rfl hHeld ?_
    (try simp only [Act.put, putS])
    refine oS (i := 13) (preB 14 2) rfl hHeld ?_
    (try simp only [Act.put, putS])
    refine oS (i := 14) (preB 15 1) rfl hHeld ?_
    (try simp only [Act.put, putS])
    refine oS (i := 15) (preB 16 0) rfl hHeld ?_
    (try simp only [Act.put, putS])
    refine wpAnyH_done (by kernel_rfl) ?_ _
    go_wp2_with fail
    all_goals try (go_ret; exact ⟨⟨_, rfl⟩, B1.out.trans belT⟩)
    refine ord_start (SB (w1.heap.size) [] _) 9 (preB 0 9) (by kernel_rfl) (by kernel_rfl) (by kernel_rfl) SB.refl.drew (fun hHeld => ?_)
    refine oS (i := 0) (preB 1 8) rfl hHeld ?_
    (try simp only [Act.put, putS])
    refine oS (i := 1) (preB 2 7) rfl hHeld ?_
    (try simp only [Act.put, putS])
    refine oS (i := 2) (preB 3 6) rfl hHeld ?_
    (try simp only [Act.put, putS])
    refine oS (i := 3) (preB 4 5) rfl hHeld ?_
    (try simp only [Act.put, putS])
    refine oS (i := 4) (preB 5 4) rfl hHeld ?_
    (try simp only [Act.put, putS])
    refine oS (i := 5) (preB 6 3) rfl hHeld ?_
    (try simp only [Act.put, putS])
    refine oS (i := 6) (preB 7 2) rfl hHeld ?_
    (try simp only [Act.put, putS])
    refine oS (i := 7) (preB 8 1) rfl hHeld ?_
    (try simp only [Act.put, putS])
    refine wpAnyH_ready (rs := [8]) (by kernel_rfl) (by simp) ?_
    refine ord_run (i := 8) (preB 9 0) rfl (by kernel_rfl) (by rfl) (fun K hK => ?_) AllReadyH.nil
    go_simp
    go_wp2_with (go_at_call 96; refine (wnamed22_any _ k cap c C (HK.out.pre (Nat.le_of_lt HLT.out)) s5 _ ((HA.out.below (B1.out.trans belT)).pre (Nat.le_of_lt HLT.out))).mono ?_; rintro r w2 ⟨⟨b2, rfl⟩, hb⟩; have hbS := hb; have hB2 := (B1.out.trans belT).trans (hb.mono (by simpa using B1.out.size)))
    refine hK.out _ _ ?_ (fun hHeld => ?_)
    ·exact sbT
    clear hK K
    (try simp only [Act.put, putS])
    refine wpAnyH_done (by kernel_rfl) ?_ _
    go_wp2_with fail
    all_goals first
     | (go_ret; exact ⟨⟨_, rfl⟩, hB2⟩)
     | (go_roundw; (case rel => exact ⟨k + 1, HLT.out, by go_num, hB2⟩); (case measure => have := HLT.out; simp [intOf]; omega))
   ·have d8 : decide (0 < k) = false := decide_eq_false hkz
    have HBL := hide hbl
    clear hc hbl hkz
    go_wp2_with fail
    refine (wone22_any z0 z1 z2 z3 z4 s5 _).mono ?_
    rintro r w1 ⟨⟨b0, rfl⟩, hb⟩
    have B1 := hide (show Below w.heap.size w w1 from H0.out.trans (hb.mono H0.out.size))
    have d0 := (hb.cell (p := ⟨b, off + k * 6, none⟩) HBL.out).trans c0
    have d1 := (hb.cell (p := ⟨b, off + k * 6 + 1, none⟩) HBL.out).trans c1
    have d2 := (hb.cell (p := ⟨b, off + k * 6 + 2, none⟩) HBL.out).trans c2
    have d3 := (hb.cell (p := ⟨b, off + k * 6 + 3, none⟩) HBL.out).trans c3
    have d4 := (hb.cell (p := ⟨b, off + k * 6 + 4, none⟩) HBL.out).trans c4
    have d5 := (hb.cell (p := ⟨b, off + k * 6 + 5, none⟩) HBL.out).trans c5
    have hbl : b < w1.heap.size := Nat.lt_of_lt_of_le HBL.out hb.size
    clear hb c0 c1 c2 c3 c4 c5
    go_wp2_with fail
    all_goals try (go_ret; exact ⟨⟨_, rfl⟩, B1.out⟩)
    refine ord_start (SB (w1.heap.size) [] _) 16 (preB 0 16) (by kernel_rfl) (by kernel_rfl) (by kernel_rfl) SB.refl.drew (fun hHeld => ?_)
    refine oS (i := 0) (preB 1 15) rfl hHeld ?_
    (try simp only [Act.put, putS])
    refine oS (i := 1) (preB 2 14) rfl hHeld ?_
    (try simp only [Act.put, putS])
    refine oS (i := 2) (preB 3 13) rfl hHeld ?_
    (try simp only [Act.put, putS])
    refine ord_skip (i := 3) (preB 4 12) rfl (by kernel_rfl) (by kernel_rfl) (by kernel_rfl) (by kernel_rfl) (fun _ _ _ h => h) hHeld (by rfl) ?_
    (try simp only [Act.put, putS])
    refine ord_skip (i := 4) (preB 5 11) rfl (by kernel_rfl) (by kernel_rfl) (by kernel_rfl) (by kernel_rfl) (fun _ _ _ h => h) hHeld (by rfl) ?_
    (try simp only [Act.put, putS])
    refine ord_skip (i := 5) (preB 6 10) rfl (by kernel_rfl) (by kernel_rfl) (by kernel_rfl) (by kernel_rfl) (fun _ _ _ h => h) hHeld (by rfl) ?_
    (try simp only [Act.put, putS])
    refine ord_skip (i := 6) (preB 7 9) rfl (by kernel_rfl) (by kernel_rfl) (by kernel_rfl) (by kernel_rfl) (fun _ _ _ h => h) hHeld (by rfl) ?_
    (try simp only [Act.put, putS])
    refine ord_skip (i := 7) (preB 8 8) rfl (by kernel_rfl) (by kernel_rfl) (by kernel_rfl) (by kernel_rfl) (fun _ _ _ h => h) hHeld (by rfl) ?_
    (try simp only [Act.put, putS])
    refine ord_skip (i := 8) (preB 9 7) rfl (by kernel_rfl) (by kernel_rfl) (by kernel_rfl) (by kernel_rfl) (fun _ _ _ h => h) hHeld (by rfl) ?_
    (try simp only [Act.put, putS])
    refine ord_skip (i := 9) (preB 10 6) rfl (by kernel_rfl) (by kernel_rfl) (by kernel_rfl) (by kernel_rfl) (fun _ _ _ h => h) hHeld (by rfl) ?_
    (try simp only [Act.put, putS])
    refine ord_skip (i := 10) (preB 11 5) rfl (by kernel_rfl) (by kernel_rfl) (by kernel_rfl) (by kernel_rfl) (fun _ _ _ h => h) hHeld (by rfl) ?_
    (try simp only [Act.put, putS])
    refine ord_skip (i := 11) (preB 12 4) rfl (by kernel_rfl) (by kernel_rfl) (by kernel_rfl) (by kernel_rfl) (fun _ _ _ h => h) hHeld (by rfl) ?_
    (try simp only [Act.put, putS])
    refine ord_skip (i := 12) (preB 13 3) rfl (by kernel_rfl) (by kernel_rfl) (by kernel_rfl) (by kernel_rfl) (fun _ _ _ h => h) hHeld (by rfl) ?_
    (try simp only [Act.put, putS])
    refine ord_skip (i := 13) (preB 14 2) rfl (by kernel_rfl) (by kernel_rfl) (by kernel_rfl) (by kernel_rfl) (fun _ _ _ h => h) hHeld (by rfl) ?_
    (try simp only [Act.put, putS])
    refine ord_skip (i := 14) (preB 15 1) rfl (by kernel_rfl) (by kernel_rfl) (by kernel_rfl) (by kernel_rfl) (fun _ _ _ h => h) hHeld (by rfl) ?_
    (try simp only [Act.put, putS])
    refine oS (i := 15) (preB 16 0) rfl hHeld ?_
    (try simp only [Act.put, putS])
    refine wpAnyH_done (by kernel_rfl) ?_ _
    go_wp2_with fail
    all_goals try (go_ret; exact ⟨⟨_, rfl⟩, B1.out.trans belT⟩)
    refine ord_start (SB (w1.heap.size) [] _) 9 (preB 0 9) (by kernel_rfl) (by kernel_rfl) (by kernel_rfl) SB.refl.drew (fun hHeld => ?_)
    refine oS (i := 0) (preB 1 8) rfl hHeld ?_
    (try simp only [Act.put, putS])
    refine oS (i := 1) (preB 2 7) rfl hHeld ?_
    (try simp only [Act.put, putS])
    refine oS (i := 2) (preB 3 6) rfl hHeld ?_
    (try simp only [Act.put, putS])
    refine oS (i := 3) (preB 4 5) rfl hHeld ?_
    (try simp only [Act.put, putS])
    refine oS (i := 4) (preB 5 4) rfl hHeld ?_
    (try simp only [Act.put, putS])
    refine oS (i := 5) (preB 6 3) rfl hHeld ?_
    (try simp only [Act.put, putS])
    refine oS (i := 6) (preB 7 2) rfl hHeld ?_
    (try simp only [Act.put, putS])
    refine oS (i := 7) (preB 8 1) rfl hHeld ?_
    (try simp only [Act.put, putS])
    refine wpAnyH_ready (rs := [8]) (by kernel_rfl) (by simp) ?_
    refine ord_run (i := 8) (preB 9 0) rfl (by kernel_rfl) (by rfl) (fun K hK => ?_) AllReadyH.nil
    go_simp
    go_wp2_with (go_at_call 96; refine (wnamed22_any _ k cap c C (HK.out.pre (Nat.le_of_lt HLT.out)) s5 _ ((HA.out.below (B1.out.trans belT)).pre (Nat.le_of_lt HLT.out))).mono ?_; rintro r w2 ⟨⟨b2, rfl⟩, hb⟩; have hbS := hb; have hB2 := (B1.out.trans belT).trans (hb.mono (by simpa using B1.out.size)))
    refine hK.out _ _ ?_ (fun hHeld => ?_)
    ·exact sbT
    clear hK K
    (try simp only [Act.put, putS])
    refine wpAnyH_done (by kernel_rfl) ?_ _
    go_wp2_with fail
    all_goals first
     | (go_ret; exact ⟨⟨_, rfl⟩, hB2⟩)
     | (go_roundw; (case rel => exact ⟨k + 1, HLT.out, by go_num, hB2⟩); (case measure => have := HLT.out; simp [intOf]; omega))
  ·obtain rfl : k = n := by omega
   clear hlt hkn
   go_wp2_with fail
   go_ret
   exact ⟨⟨_, rfl⟩, H0.out⟩
set_option maxRecDepth 8000 in
set_option maxHeartbeats 8000000 in
theorem wcheck23_any (A : Option Addr) (n cap : Nat) (c : Nat → Nat → Tr) (C : Nat → Nat → Value) (hcap : n ≤ cap) (hk : RowK 13 n c) (w : World) (hA : RowT (Old w) w 13 A n c C) :
  Calls Tryz.prog 47 #[.slice A n cap] w (SomE w) := by
 have HK := hide hk
 have HA := hide hA
 have hn : n ≤ 140737488351232 := by have := hk.room; simp only [tby] at this; omega
 clear hk hA
 by_cases h2 : (64 : Int) < n
 ·go_enter Tryz.func47, Tryz.ntmps47
  go_wp2_with fail
  all_goals try (go_ret; exact ⟨⟨_, rfl⟩, by (repeat (first | (with_reducible first | exact Below.refl _ _ | assumption | refine Below.drew ?_) | ((with_reducible first | refine Below.alloc ?_ ?_ _ | refine Below.setCell ?_ ?_ _); rotate_left; (first | omega | (simp <;> omega)))))⟩)
 go_enter Tryz.func47, Tryz.ntmps47
 go_wp2_with fail
 go_loopw [3] (fun v wr => KB n (w) v wr) (fun v _ => n - (intOf v).toNat)
 case atStart => exact ⟨0, by omega, rfl, by (repeat (first | (with_reducible first | exact Below.refl _ _ | assumption | refine Below.drew ?_) | ((with_reducible first | refine Below.alloc ?_ ?_ _ | refine Below.setCell ?_ ?_ _); rotate_left; (first | omega | (simp <;> omega)))))⟩
 case round =>
  obtain ⟨k, hkn, rfl, hb⟩ := hrel
  have H0 := hide hb
  by_cases hlt : k < n
  ·have hm : (k : Int) < n := by omega
   have hk0 : (0 : Int) ≤ k := by omega
   have hkc : (k : Int) ≤ cap := by omega
   have HLT := hide hlt
   obtain ⟨b, off, rfl, hbl, hc⟩ := (HA.out.below hb).all (by decide) (by omega)
   obtain ⟨z0, _, e0, i0⟩ := rd_int (HA.out.rd (k) 0 hlt (by decide)) (HK.out.wt (k) 0 hlt (by decide))
   have c0 : wr.cell? ⟨b, off + k * 7, none⟩ = some (.int .i64 z0) := by have hcc := hc (k) 0 hlt (by decide); rw [e0] at hcc; exact hcc
   clear e0
   obtain ⟨z1, _, e1, i1⟩ := rd_int (HA.out.rd (k) 1 hlt (by decide)) (HK.out.wt (k) 1 hlt (by decide))
   have c1 : wr.cell? ⟨b, off + k * 7 + 1, none⟩ = some (.int .i64 z1) := by have hcc := hc (k) 1 hlt (by decide); rw [e1] at hcc; exact hcc
   clear e1
   obtain ⟨z2, _, e2, i2⟩ := rd_int (HA.out.rd (k) 2 hlt (by decide)) (HK.out.wt (k) 2 hlt (by decide))
   have c2 : wr.cell? ⟨b, off + k * 7 + 2, none⟩ = some (.int .i64 z2) := by have hcc := hc (k) 2 hlt (by decide); rw [e2] at hcc; exact hcc
   clear e2
   obtain ⟨z3, _, e3, i3⟩ := rd_int (HA.out.rd (k) 3 hlt (by decide)) (HK.out.wt (k) 3 hlt (by decide))
   have c3 : wr.cell? ⟨b, off + k * 7 + 3, none⟩ = some (.int .i64 z3) := by have hcc := hc (k) 3 hlt (by decide); rw [e3] at hcc; exact hcc
   clear e3
   obtain ⟨z4, _, e4, i4⟩ := rd_int (HA.out.rd (k) 4 hlt (by decide)) (HK.out.wt (k) 4 hlt (by decide))
   have c4 : wr.cell? ⟨b, off + k * 7 + 4, none⟩ = some (.int .i64 z4) := by have hcc := hc (k) 4 hlt (by decide); rw [e4] at hcc; exact hcc
   clear e4
   obtain ⟨z5, _, e5, i5⟩ := rd_int (HA.out.rd (k) 5 hlt (by decide)) (HK.out.wt (k) 5 hlt (by decide))
   have c5 : wr.cell? ⟨b, off + k * 7 + 5, none⟩ = some (.int .i64 z5) := by have hcc := hc (k) 5 hlt (by decide); rw [e5] at hcc; exact hcc
   clear e5
   obtain ⟨s6, _, e6, _⟩ := rd_str (HA.out.rd (k) 6 hlt (by decide)) (HK.out.wt (k) 6 hlt (by decide))
   have c6 : wr.cell? ⟨b, off + k * 7 + 6, none⟩ = some (.string s6) := by have hcc := hc (k) 6 hlt (by decide); rw [e6] at hcc; exact hcc
   clear e6
   clear hlt hkn hb
   by_cases hkz : 0 < k
   ·obtain ⟨kk, hkk⟩ : ∃ kk, k = kk + 1 := ⟨k - 1, by omega⟩
    have d8 : decide (0 < k) = true := decide_eq_true hkz
    have n1 : IntKind.i64.wrap ((k : Int) - 1) = (kk : Int) := by rw [i64w]; unfold wrap64; have := HLT.out; omega
    have hkk0 : (0 : Int) ≤ kk := by omega
    have hkk1 : (kk : Int) < n := by have := HLT.out; omega
    have HKN := hide (show kk < n by have := HLT.out; omega)
    obtain ⟨pz0, _, pe0, pi0⟩ := rd_int (HA.out.rd (kk) 0 HKN.out (by decide)) (HK.out.wt (kk) 0 HKN.out (by decide))
    have pc0 : wr.cell? ⟨b, off + kk * 7, none⟩ = some (.int .i64 pz0) := by have hcc := hc (kk) 0 HKN.out (by decide); rw [pe0] at hcc; exact hcc
    clear pe0
    have HBL := hide hbl
    clear hc hbl hkz hkk
    go_wp2_with fail
    refine (wgood23_any z0 z1 z2 z3 z4 z5 s6 _).mono ?_
    rintro r w1 ⟨⟨b0, rfl⟩, hb⟩
    have B1 := hide (show Below w.heap.size w w1 from H0.out.trans (hb.mono H0.out.size))
    have d0 := (hb.cell (p := ⟨b, off + k * 7, none⟩) HBL.out).trans c0
    have d1 := (hb.cell (p := ⟨b, off + k * 7 + 1, none⟩) HBL.out).trans c1
    have d2 := (hb.cell (p := ⟨b, off + k * 7 + 2, none⟩) HBL.out).trans c2
    have d3 := (hb.cell (p := ⟨b, off + k * 7 + 3, none⟩) HBL.out).trans c3
    have d4 := (hb.cell (p := ⟨b, off + k * 7 + 4, none⟩) HBL.out).trans c4
    have d5 := (hb.cell (p := ⟨b, off + k * 7 + 5, none⟩) HBL.out).trans c5
    have d6 := (hb.cell (p := ⟨b, off + k * 7 + 6, none⟩) HBL.out).trans c6
    have pd0 := (hb.cell (p := ⟨b, off + kk * 7, none⟩) HBL.out).trans pc0
    have hbl : b < w1.heap.size := Nat.lt_of_lt_of_le HBL.out hb.size
    clear hb c0 c1 c2 c3 c4 c5 c6 pc0
    cases b0 with
    | false =>
     go_wp2_with fail
     go_ret
     exact ⟨⟨_, rfl⟩, B1.out⟩
    | true =>
     go_wp2_with fail
     refine (wname5_any s6 _).mono ?_
     rintro r w2 ⟨⟨b2, rfl⟩, hb⟩
     have B2 := hide (show Below w.heap.size w w2 from B1.out.trans (hb.mono B1.out.size))
     have HBL2 := hide hbl
     have f0 := (hb.cell (p := ⟨b, off + k * 7, none⟩) HBL2.out).trans d0
     have pf0 := (hb.cell (p := ⟨b, off + kk * 7, none⟩) HBL2.out).trans pd0
     clear d0 d1 d2 d3 d4 d5 d6 pd0
     have hbl := Nat.lt_of_lt_of_le HBL2.out hb.size
     clear hb
     cases b2 with
     | false =>
      go_wp2_with fail
      go_ret
      exact ⟨⟨_, rfl⟩, B2.out⟩
     | true =>
      go_wp2_with fail
      all_goals try (go_ret; exact ⟨⟨_, rfl⟩, B2.out⟩)
      refine ord_start (SB (w2.heap.size) [] _) 16 (preB 0 16) (by kernel_rfl) (by kernel_rfl) (by kernel_rfl) SB.refl.drew (fun hHeld => ?_)
      refine oS (i := 0) (preB 1 15) rfl hHeld ?_
      (try simp only [Act.put, putS])
      refine oS (i := 1) (preB 2 14) rfl hHeld ?_
      (try simp only [Act.put, putS])
      refine oS (i := 2) (preB 3 13) rfl hHeld ?_
      (try simp only [Act.put, putS])
      refine oS (i := 3) (preB 4 12) rfl hHeld ?_
      (try simp only [Act.put, putS])
      refine oS (i := 4) (preB 5 11) rfl hHeld ?_
      (try simp only [Act.put, putS])
      refine oS (i := 5) (preB 6 10) rfl hHeld ?_
      (try simp only [Act.put, putS])
      refine oS (i := 6) (preB 7 9) rfl hHeld ?_
      (try simp only [Act.put, putS])
      refine oS (i := 7) (preB 8 8) rfl hHeld ?_
      (try simp only [Act.put, putS])
      refine oS (i := 8) (preB 9 7) rfl hHeld ?_
      (try simp only [Act.put, putS])
      refine oS (i := 9) (preB 10 6) rfl hHeld ?_
      (try simp only [Act.put, putS])
      refine oS (i := 10) (preB 11 5) rfl hHeld ?_
      (try simp only [Act.put, putS])
      refine oS (i := 11) (preB 12 4) rfl hHeld ?_
      (try simp only [Act.put, putS])
      refine oS (i := 12) (preB 13 3) rfl hHeld ?_
      (try simp only [Act.put, putS])
      refine oS (i := 13) (preB 14 2) rfl hHeld ?_
      (try simp only [Act.put, putS])
      refine oS (i := 14) (preB 15 1) rfl hHeld ?_
      (try simp only [Act.put, putS])
      refine oS (i := 15) (preB 16 0) rfl hHeld ?_
      (try simp only [Act.put, putS])
      refine wpAnyH_done (by kernel_rfl) ?_ _
      go_wp2_with fail
      all_goals first
       | (go_ret; exact ⟨⟨_, rfl⟩, B2.out.trans belT⟩)
       | (go_roundw; (case rel => exact ⟨k + 1, HLT.out, by go_num, B2.out.trans belT⟩); (case measure => have := HLT.out; simp [intOf]; omega))
   ·have d8 : decide (0 < k) = false := decide_eq_false hkz
    have HBL := hide hbl
    clear hc hbl hkz
    go_wp2_with fail
    refine (wgood23_any z0 z1 z2 z3 z4 z5 s6 _).mono ?_
    rintro r w1 ⟨⟨b0, rfl⟩, hb⟩
    have B1 := hide (show Below w.heap.size w w1 from H0.out.trans (hb.mono H0.out.size))
    have d0 := (hb.cell (p := ⟨b, off + k * 7, none⟩) HBL.out).trans c0
    have d1 := (hb.cell (p := ⟨b, off + k * 7 + 1, none⟩) HBL.out).trans c1
    have d2 := (hb.cell (p := ⟨b, off + k * 7 + 2, none⟩) HBL.out).trans c2
    have d3 := (hb.cell (p := ⟨b, off + k * 7 + 3, none⟩) HBL.out).trans c3
    have d4 := (hb.cell (p := ⟨b, off + k * 7 + 4, none⟩) HBL.out).trans c4
    have d5 := (hb.cell (p := ⟨b, off + k * 7 + 5, none⟩) HBL.out).trans c5
    have d6 := (hb.cell (p := ⟨b, off + k * 7 + 6, none⟩) HBL.out).trans c6
    have hbl : b < w1.heap.size := Nat.lt_of_lt_of_le HBL.out hb.size
    clear hb c0 c1 c2 c3 c4 c5 c6
    cases b0 with
    | false =>
     go_wp2_with fail
     go_ret
     exact ⟨⟨_, rfl⟩, B1.out⟩
    | true =>
     go_wp2_with fail
     refine (wname5_any s6 _).mono ?_
     rintro r w2 ⟨⟨b2, rfl⟩, hb⟩
     have B2 := hide (show Below w.heap.size w w2 from B1.out.trans (hb.mono B1.out.size))
     have HBL2 := hide hbl
     have f0 := (hb.cell (p := ⟨b, off + k * 7, none⟩) HBL2.out).trans d0
     clear d0 d1 d2 d3 d4 d5 d6
     have hbl := Nat.lt_of_lt_of_le HBL2.out hb.size
     clear hb
     cases b2 with
     | false =>
      go_wp2_with fail
      go_ret
      exact ⟨⟨_, rfl⟩, B2.out⟩
     | true =>
      go_wp2_with fail
      all_goals try (go_ret; exact ⟨⟨_, rfl⟩, B2.out⟩)
      refine ord_start (SB (w2.heap.size) [] _) 16 (preB 0 16) (by kernel_rfl) (by kernel_rfl) (by kernel_rfl) SB.refl.drew (fun hHeld => ?_)
      refine oS (i := 0) (preB 1 15) rfl hHeld ?_
      (try simp only [Act.put, putS])
      refine oS (i := 1) (preB 2 14) rfl hHeld ?_
      (try simp only [Act.put, putS])
      refine oS (i := 2) (preB 3 13) rfl hHeld ?_
      (try simp only [Act.put, putS])
      refine ord_skip (i := 3) (preB 4 12) rfl (by kernel_rfl) (by kernel_rfl) (by kernel_rfl) (by kernel_rfl) (fun _ _ _ h => h) hHeld (by rfl) ?_
      (try simp only [Act.put, putS])
      refine ord_skip (i := 4) (preB 5 11) rfl (by kernel_rfl) (by kernel_rfl) (by kernel_rfl) (by kernel_rfl) (fun _ _ _ h => h) hHeld (by rfl) ?_
      (try simp only [Act.put, putS])
      refine ord_skip (i := 5) (preB 6 10) rfl (by kernel_rfl) (by kernel_rfl) (by kernel_rfl) (by kernel_rfl) (fun _ _ _ h => h) hHeld (by rfl) ?_
      (try simp only [Act.put, putS])
      refine ord_skip (i := 6) (preB 7 9) rfl (by kernel_rfl) (by kernel_rfl) (by kernel_rfl) (by kernel_rfl) (fun _ _ _ h => h) hHeld (by rfl) ?_
      (try simp only [Act.put, putS])
      refine ord_skip (i := 7) (preB 8 8) rfl (by kernel_rfl) (by kernel_rfl) (by kernel_rfl) (by kernel_rfl) (fun _ _ _ h => h) hHeld (by rfl) ?_
      (try simp only [Act.put, putS])
      refine ord_skip (i := 8) (preB 9 7) rfl (by kernel_rfl) (by kernel_rfl) (by kernel_rfl) (by kernel_rfl) (fun _ _ _ h => h) hHeld (by rfl) ?_
      (try simp only [Act.put, putS])
      refine ord_skip (i := 9) (preB 10 6) rfl (by kernel_rfl) (by kernel_rfl) (by kernel_rfl) (by kernel_rfl) (fun _ _ _ h => h) hHeld (by rfl) ?_
      (try simp only [Act.put, putS])
      refine ord_skip (i := 10) (preB 11 5) rfl (by kernel_rfl) (by kernel_rfl) (by kernel_rfl) (by kernel_rfl) (fun _ _ _ h => h) hHeld (by rfl) ?_
      (try simp only [Act.put, putS])
      refine ord_skip (i := 11) (preB 12 4) rfl (by kernel_rfl) (by kernel_rfl) (by kernel_rfl) (by kernel_rfl) (fun _ _ _ h => h) hHeld (by rfl) ?_
      (try simp only [Act.put, putS])
      refine ord_skip (i := 12) (preB 13 3) rfl (by kernel_rfl) (by kernel_rfl) (by kernel_rfl) (by kernel_rfl) (fun _ _ _ h => h) hHeld (by rfl) ?_
      (try simp only [Act.put, putS])
      refine ord_skip (i := 13) (preB 14 2) rfl (by kernel_rfl) (by kernel_rfl) (by kernel_rfl) (by kernel_rfl) (fun _ _ _ h => h) hHeld (by rfl) ?_
      (try simp only [Act.put, putS])
      refine ord_skip (i := 14) (preB 15 1) rfl (by kernel_rfl) (by kernel_rfl) (by kernel_rfl) (by kernel_rfl) (fun _ _ _ h => h) hHeld (by rfl) ?_
      (try simp only [Act.put, putS])
      refine oS (i := 15) (preB 16 0) rfl hHeld ?_
      (try simp only [Act.put, putS])
      refine wpAnyH_done (by kernel_rfl) ?_ _
      go_wp2_with fail
      all_goals first
       | (go_ret; exact ⟨⟨_, rfl⟩, B2.out.trans belT⟩)
       | (go_roundw; (case rel => exact ⟨k + 1, HLT.out, by go_num, B2.out.trans belT⟩); (case measure => have := HLT.out; simp [intOf]; omega))
  ·obtain rfl : k = n := by omega
   clear hlt hkn
   go_wp2_with fail
   go_ret
   exact ⟨⟨_, rfl⟩, H0.out⟩
end Go.Proofs.YtpghciiifnjimaaGreatDoor
