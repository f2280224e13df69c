/- Texts laid together: SmA SmB SmD. -/
import Derived.Test.YtdjhkhadjmndoaaDoorQTrM
import Derived.Test.YtdjhkhadjmndoaaDoorQReg
import Derived.Test.YtdjhkhadjmndoaaDoorQStA
import Derived.Test.YtdjhkhadjmndoaaDoorQClE
namespace Go.Proofs.YtdjhkhadjmndoaaDoor
set_option maxRecDepth 4000
set_option linter.unusedSimpArgs false
set_option linter.unusedVariables false
open Go.RowKit
theorem rd_lfv {S : Nat → Prop} {w : World} {T : Tr} {x v : Value} (h : T.rd S w x) (e : T = .lf v) : x = v := by subst e; exact h
def SmI2 (n : Nat) (w : World) (v : Value) (wr : World) : Prop := ∃ k : Nat, k ≤ n ∧ v = .int .i64 k ∧ Below w.heap.size w wr
set_option maxRecDepth 20000 in
set_option maxHeartbeats 4000000 in
theorem sm_sameInts (A B : Option Addr) (n cap cap' : Nat) (c : Nat → Nat → Tr) (C D : Nat → Nat → Value) (hk : RowK 0 n c) (w : World) (hA : RowT (Old w) w 0 A n c C) (hB : RowT (Old w) w 0 B n c D) :
    Calls Tryd.prog 93 #[.slice A n cap, .slice B n cap'] w fun r w' => r = .returned (.bool true) ∧ Below w.heap.size w w' := by
  have hn : n ≤ 140737488351232 := by have := hk.room; simp only [tby] at this; omega
  have HK := hide hk
  have HA := hide hA
  have HB := hide hB
  clear hk hA hB
  go_enter Tryd.func93, Tryd.ntmps93
  go_wp2_with fail
  go_loopw [5] (fun v wr => SmI2 n w v wr) (fun v _ => n - (intOf v).toNat)
  case atStart => exact ⟨0, by omega, rfl, by (repeat (first | (with_reducible first | exact Below.refl _ _ | assumption | refine Below.drew ?_) | ((with_reducible first | refine Below.alloc ?_ ?_ _ | refine Below.setCell ?_ ?_ _); rotate_left; (first | omega | (simp <;> omega)))))⟩
  case round =>
    obtain ⟨k, hkn, rfl, hb⟩ := hrel
    have H0 := hide hb
    by_cases hlt : k < n
    · have hm : (k : Int) < n := by omega
      have HLT := hide hlt
      have hk0 : (0 : Int) ≤ k := by omega
      obtain ⟨b, off, rfl, hbl, hc⟩ := (HA.out.below hb).cells (by decide) hlt
      obtain ⟨b', off', rfl, hbl', hd⟩ := (HB.out.below hb).cells (by decide) hlt
      obtain ⟨z0, q0, e0, _⟩ := rd_int (HA.out.rd k 0 hlt (by decide)) (HK.out.wt k 0 hlt (by decide))
      have c0 : wr.cell? ⟨b, off + k, none⟩ = some (.int .i64 z0) := by have t := hc 0 _ (elA_at 0 C k 0 (by decide)); rw [e0, show off + k * (tbl 0).length + 0 = off + k from (by show off + k * 1 + 0 = _; omega)] at t; exact t
      have d0 : wr.cell? ⟨b', off' + k, none⟩ = some (.int .i64 z0) := by have t := hd 0 _ (elA_at 0 D k 0 (by decide)); rw [rd_lfv (HB.out.rd k 0 hlt (by decide)) q0, show off' + k * (tbl 0).length + 0 = off' + k from (by show off' + k * 1 + 0 = _; omega)] at t; exact t
      clear q0 e0
      clear hc hd hlt hkn hb
      go_wp2_with fail
      refine ord_start (SB (wr.heap.size) [] _) 9 (preB 0 9) (by kernel_rfl) (by kernel_rfl) (by kernel_rfl) SB.refl.drew (fun hHeld => ?_)
      refine ord_take (i := 0) (preB 1 8) ?_ rfl (by kernel_rfl) (by kernel_rfl) (by kernel_rfl) (by kernel_rfl) (fun _ _ _ h => h) hHeld (by rfl) (fun wx hSx => ?_) ?_
      rotate_left
      · (unfold SB at hSx; go_simp; (try with_reducible rfl))
      (try simp only [Act.put, putA, putB, putC])
      refine ord_take (i := 1) (preB 2 7) ?_ rfl (by kernel_rfl) (by kernel_rfl) (by kernel_rfl) (by kernel_rfl) (fun _ _ _ h => h) hHeld (by rfl) (fun wx hSx => ?_) ?_
      rotate_left
      · (unfold SB at hSx; go_simp; (try with_reducible rfl))
      (try simp only [Act.put, putA, putB, putC])
      refine ord_take (i := 2) (preB 3 6) ?_ rfl (by kernel_rfl) (by kernel_rfl) (by kernel_rfl) (by kernel_rfl) (fun _ _ _ h => h) hHeld (by rfl) (fun wx hSx => ?_) ?_
      rotate_left
      · (unfold SB at hSx; go_simp; (try with_reducible rfl))
      (try simp only [Act.put, putA, putB, putC])
      refine ord_take (i := 3) (preB 4 5) ?_ rfl (by kernel_rfl) (by kernel_rfl) (by kernel_rfl) (by kernel_rfl) (fun _ _ _ h => h) hHeld (by rfl) (fun wx hSx => ?_) ?_
      rotate_left
      · (unfold SB at hSx; go_simp; (try with_reducible rfl))
      (try simp only [Act.put, putA, putB, putC])
      refine ord_take (i := 4) (preB 5 4) ?_ rfl (by kernel_rfl) (by kernel_rfl) (by kernel_rfl) (by kernel_rfl) (fun _ _ _ h => h) hHeld (by rfl) (fun wx hSx => ?_) ?_
      rotate_left
      · (unfold SB at hSx; go_simp; (try with_reducible rfl))
      (try simp only [Act.put, putA, putB, putC])
      refine ord_take (i := 5) (preB 6 3) ?_ rfl (by kernel_rfl) (by kernel_rfl) (by kernel_rfl) (by kernel_rfl) (fun _ _ _ h => h) hHeld (by rfl) (fun wx hSx => ?_) ?_
      rotate_left
      · (unfold SB at hSx; go_simp; (try with_reducible rfl))
      (try simp only [Act.put, putA, putB, putC])
      refine ord_take (i := 6) (preB 7 2) ?_ rfl (by kernel_rfl) (by kernel_rfl) (by kernel_rfl) (by kernel_rfl) (fun _ _ _ h => h) hHeld (by rfl) (fun wx hSx => ?_) ?_
      rotate_left
      · (unfold SB at hSx; go_simp; (try with_reducible rfl))
      (try simp only [Act.put, putA, putB, putC])
      refine ord_take (i := 7) (preB 8 1) ?_ rfl (by kernel_rfl) (by kernel_rfl) (by kernel_rfl) (by kernel_rfl) (fun _ _ _ h => h) hHeld (by rfl) (fun wx hSx => ?_) ?_
      rotate_left
      · (unfold SB at hSx; go_simp; (try with_reducible rfl))
      (try simp only [Act.put, putA, putB, putC])
      refine ord_take (i := 8) (preB 9 0) ?_ rfl (by kernel_rfl) (by kernel_rfl) (by kernel_rfl) (by kernel_rfl) (fun _ _ _ h => h) hHeld (by rfl) (fun wx hSx => ?_) ?_
      rotate_left
      · (unfold SB at hSx; go_simp; (try with_reducible rfl))
      (try simp only [Act.put, putA, putB, putC])
      refine wpAnyH_done (by kernel_rfl) ?_ _
      go_wp2_with fail
      go_roundw
      case rel => exact ⟨k + 1, HLT.out, by go_num, H0.out.drew⟩
      case measure => have := HLT.out; simp [intOf]; omega
    · obtain rfl : k = n := by omega
      clear hlt hkn
      go_wp2_with fail
      go_ret
      exact ⟨rfl, hb⟩
set_option maxRecDepth 20000 in
set_option maxHeartbeats 4000000 in
theorem sm_SameAccounts (A B : Option Addr) (n cap cap' : Nat) (c : Nat → Nat → Tr) (C D : Nat → Nat → Value) (hk : RowK 9 n c) (w : World) (hA : RowT (Old w) w 9 A n c C) (hB : RowT (Old w) w 9 B n c D) :
    Calls Tryd.prog 25 #[.slice A n cap, .slice B n cap'] w fun r w' => r = .returned (.bool true) ∧ Below w.heap.size w w' := by
  have hn : n ≤ 140737488351232 := by have := hk.room; simp only [tby] at this; omega
  have HK := hide hk
  have HA := hide hA
  have HB := hide hB
  clear hk hA hB
  go_enter Tryd.func25, Tryd.ntmps25
  go_wp2_with fail
  go_loopw [5] (fun v wr => SmI2 n w v wr) (fun v _ => n - (intOf v).toNat)
  case atStart => exact ⟨0, by omega, rfl, by (repeat (first | (with_reducible first | exact Below.refl _ _ | assumption | refine Below.drew ?_) | ((with_reducible first | refine Below.alloc ?_ ?_ _ | refine Below.setCell ?_ ?_ _); rotate_left; (first | omega | (simp <;> omega)))))⟩
  case round =>
    obtain ⟨k, hkn, rfl, hb⟩ := hrel
    have H0 := hide hb
    by_cases hlt : k < n
    · have hm : (k : Int) < n := by omega
      have HLT := hide hlt
      have hk0 : (0 : Int) ≤ k := by omega
      obtain ⟨b, off, rfl, hbl, hc⟩ := (HA.out.below hb).cells (by decide) hlt
      obtain ⟨b', off', rfl, hbl', hd⟩ := (HB.out.below hb).cells (by decide) hlt
      obtain ⟨z0, q0, e0, _⟩ := rd_int (HA.out.rd k 0 hlt (by decide)) (HK.out.wt k 0 hlt (by decide))
      have c0 : wr.cell? ⟨b, off + k * 7, none⟩ = some (.int .i64 z0) := by have t := hc 0 _ (elA_at 9 C k 0 (by decide)); rw [e0] at t; exact t
      have d0 : wr.cell? ⟨b', off' + k * 7, none⟩ = some (.int .i64 z0) := by have t := hd 0 _ (elA_at 9 D k 0 (by decide)); rw [rd_lfv (HB.out.rd k 0 hlt (by decide)) q0] at t; exact t
      clear q0 e0
      obtain ⟨z1, q1, e1, _⟩ := rd_int (HA.out.rd k 1 hlt (by decide)) (HK.out.wt k 1 hlt (by decide))
      have c1 : wr.cell? ⟨b, off + k * 7 + 1, none⟩ = some (.int .i64 z1) := by have t := hc 1 _ (elA_at 9 C k 1 (by decide)); rw [e1] at t; exact t
      have d1 : wr.cell? ⟨b', off' + k * 7 + 1, none⟩ = some (.int .i64 z1) := by have t := hd 1 _ (elA_at 9 D k 1 (by decide)); rw [rd_lfv (HB.out.rd k 1 hlt (by decide)) q1] at t; exact t
      clear q1 e1
      obtain ⟨z2, q2, e2, _⟩ := rd_int (HA.out.rd k 2 hlt (by decide)) (HK.out.wt k 2 hlt (by decide))
      have c2 : wr.cell? ⟨b, off + k * 7 + 2, none⟩ = some (.int .i64 z2) := by have t := hc 2 _ (elA_at 9 C k 2 (by decide)); rw [e2] at t; exact t
      have d2 : wr.cell? ⟨b', off' + k * 7 + 2, none⟩ = some (.int .i64 z2) := by have t := hd 2 _ (elA_at 9 D k 2 (by decide)); rw [rd_lfv (HB.out.rd k 2 hlt (by decide)) q2] at t; exact t
      clear q2 e2
      obtain ⟨z3, q3, e3, _⟩ := rd_int (HA.out.rd k 3 hlt (by decide)) (HK.out.wt k 3 hlt (by decide))
      have c3 : wr.cell? ⟨b, off + k * 7 + 3, none⟩ = some (.int .i64 z3) := by have t := hc 3 _ (elA_at 9 C k 3 (by decide)); rw [e3] at t; exact t
      have d3 : wr.cell? ⟨b', off' + k * 7 + 3, none⟩ = some (.int .i64 z3) := by have t := hd 3 _ (elA_at 9 D k 3 (by decide)); rw [rd_lfv (HB.out.rd k 3 hlt (by decide)) q3] at t; exact t
      clear q3 e3
      obtain ⟨z4, q4, e4, _⟩ := rd_str (HA.out.rd k 4 hlt (by decide)) (HK.out.wt k 4 hlt (by decide))
      have c4 : wr.cell? ⟨b, off + k * 7 + 4, none⟩ = some (.string z4) := by have t := hc 4 _ (elA_at 9 C k 4 (by decide)); rw [e4] at t; exact t
      have d4 : wr.cell? ⟨b', off' + k * 7 + 4, none⟩ = some (.string z4) := by have t := hd 4 _ (elA_at 9 D k 4 (by decide)); rw [rd_lfv (HB.out.rd k 4 hlt (by decide)) q4] at t; exact t
      clear q4 e4
      obtain ⟨z5, q5, e5, _⟩ := rd_str (HA.out.rd k 5 hlt (by decide)) (HK.out.wt k 5 hlt (by decide))
      have c5 : wr.cell? ⟨b, off + k * 7 + 5, none⟩ = some (.string z5) := by have t := hc 5 _ (elA_at 9 C k 5 (by decide)); rw [e5] at t; exact t
      have d5 : wr.cell? ⟨b', off' + k * 7 + 5, none⟩ = some (.string z5) := by have t := hd 5 _ (elA_at 9 D k 5 (by decide)); rw [rd_lfv (HB.out.rd k 5 hlt (by decide)) q5] at t; exact t
      clear q5 e5
      obtain ⟨z6, q6, e6, _⟩ := rd_str (HA.out.rd k 6 hlt (by decide)) (HK.out.wt k 6 hlt (by decide))
      have c6 : wr.cell? ⟨b, off + k * 7 + 6, none⟩ = some (.string z6) := by have t := hc 6 _ (elA_at 9 C k 6 (by decide)); rw [e6] at t; exact t
      have d6 : wr.cell? ⟨b', off' + k * 7 + 6, none⟩ = some (.string z6) := by have t := hd 6 _ (elA_at 9 D k 6 (by decide)); rw [rd_lfv (HB.out.rd k 6 hlt (by decide)) q6] at t; exact t
      clear q6 e6
      clear hc hd hlt hkn hb
      go_wp2_with fail
      refine ord_start (SB (wr.heap.size) [] _) 9 (preB 0 9) (by kernel_rfl) (by kernel_rfl) (by kernel_rfl) SB.refl.drew (fun hHeld => ?_)
      refine ord_take (i := 0) (preB 1 8) ?_ rfl (by kernel_rfl) (by kernel_rfl) (by kernel_rfl) (by kernel_rfl) (fun _ _ _ h => h) hHeld (by rfl) (fun wx hSx => ?_) ?_
      rotate_left
      · (unfold SB at hSx; go_simp; (try with_reducible rfl))
      (try simp only [Act.put, putA, putB, putC])
      refine ord_take (i := 1) (preB 2 7) ?_ rfl (by kernel_rfl) (by kernel_rfl) (by kernel_rfl) (by kernel_rfl) (fun _ _ _ h => h) hHeld (by rfl) (fun wx hSx => ?_) ?_
      rotate_left
      · (unfold SB at hSx; go_simp; (try with_reducible rfl))
      (try simp only [Act.put, putA, putB, putC])
      refine ord_take (i := 2) (preB 3 6) ?_ rfl (by kernel_rfl) (by kernel_rfl) (by kernel_rfl) (by kernel_rfl) (fun _ _ _ h => h) hHeld (by rfl) (fun wx hSx => ?_) ?_
      rotate_left
      · (unfold SB at hSx; go_simp; (try with_reducible rfl))
      (try simp only [Act.put, putA, putB, putC])
      refine ord_take (i := 3) (preB 4 5) ?_ rfl (by kernel_rfl) (by kernel_rfl) (by kernel_rfl) (by kernel_rfl) (fun _ _ _ h => h) hHeld (by rfl) (fun wx hSx => ?_) ?_
      rotate_left
      · (unfold SB at hSx; go_simp; (try with_reducible rfl))
      (try simp only [Act.put, putA, putB, putC])
      refine ord_take (i := 4) (preB 5 4) ?_ rfl (by kernel_rfl) (by kernel_rfl) (by kernel_rfl) (by kernel_rfl) (fun _ _ _ h => h) hHeld (by rfl) (fun wx hSx => ?_) ?_
      rotate_left
      · (unfold SB at hSx; go_simp; (try with_reducible rfl))
      (try simp only [Act.put, putA, putB, putC])
      refine ord_take (i := 5) (preB 6 3) ?_ rfl (by kernel_rfl) (by kernel_rfl) (by kernel_rfl) (by kernel_rfl) (fun _ _ _ h => h) hHeld (by rfl) (fun wx hSx => ?_) ?_
      rotate_left
      · (unfold SB at hSx; go_simp; (try with_reducible rfl))
      (try simp only [Act.put, putA, putB, putC])
      refine ord_take (i := 6) (preB 7 2) ?_ rfl (by kernel_rfl) (by kernel_rfl) (by kernel_rfl) (by kernel_rfl) (fun _ _ _ h => h) hHeld (by rfl) (fun wx hSx => ?_) ?_
      rotate_left
      · (unfold SB at hSx; go_simp; (try with_reducible rfl))
      (try simp only [Act.put, putA, putB, putC])
      refine ord_take (i := 7) (preB 8 1) ?_ rfl (by kernel_rfl) (by kernel_rfl) (by kernel_rfl) (by kernel_rfl) (fun _ _ _ h => h) hHeld (by rfl) (fun wx hSx => ?_) ?_
      rotate_left
      · (unfold SB at hSx; go_simp; (try with_reducible rfl))
      (try simp only [Act.put, putA, putB, putC])
      refine ord_take (i := 8) (preB 9 0) ?_ rfl (by kernel_rfl) (by kernel_rfl) (by kernel_rfl) (by kernel_rfl) (fun _ _ _ h => h) hHeld (by rfl) (fun wx hSx => ?_) ?_
      rotate_left
      · (unfold SB at hSx; go_simp; (try with_reducible rfl))
      (try simp only [Act.put, putA, putB, putC])
      refine wpAnyH_done (by kernel_rfl) ?_ _
      go_wp2_with fail
      go_roundw
      case rel => exact ⟨k + 1, HLT.out, by go_num, H0.out.drew⟩
      case measure => have := HLT.out; simp [intOf]; omega
    · obtain rfl : k = n := by omega
      clear hlt hkn
      go_wp2_with fail
      go_ret
      exact ⟨rfl, hb⟩
set_option maxRecDepth 20000 in
set_option maxHeartbeats 4000000 in
theorem sm_SameLegs (A B : Option Addr) (n cap cap' : Nat) (c : Nat → Nat → Tr) (C D : Nat → Nat → Value) (hk : RowK 10 n c) (w : World) (hA : RowT (Old w) w 10 A n c C) (hB : RowT (Old w) w 10 B n c D) :
    Calls Tryd.prog 77 #[.slice A n cap, .slice B n cap'] w fun r w' => r = .returned (.bool true) ∧ Below w.heap.size w w' := by
  have hn : n ≤ 140737488351232 := by have := hk.room; simp only [tby] at this; omega
  have HK := hide hk
  have HA := hide hA
  have HB := hide hB
  clear hk hA hB
  go_enter Tryd.func77, Tryd.ntmps77
  go_wp2_with fail
  go_loopw [5] (fun v wr => SmI2 n w v wr) (fun v _ => n - (intOf v).toNat)
  case atStart => exact ⟨0, by omega, rfl, by (repeat (first | (with_reducible first | exact Below.refl _ _ | assumption | refine Below.drew ?_) | ((with_reducible first | refine Below.alloc ?_ ?_ _ | refine Below.setCell ?_ ?_ _); rotate_left; (first | omega | (simp <;> omega)))))⟩
  case round =>
    obtain ⟨k, hkn, rfl, hb⟩ := hrel
    have H0 := hide hb
    by_cases hlt : k < n
    · have hm : (k : Int) < n := by omega
      have HLT := hide hlt
      have hk0 : (0 : Int) ≤ k := by omega
      obtain ⟨b, off, rfl, hbl, hc⟩ := (HA.out.below hb).cells (by decide) hlt
      obtain ⟨b', off', rfl, hbl', hd⟩ := (HB.out.below hb).cells (by decide) hlt
      obtain ⟨z0, q0, e0, _⟩ := rd_int (HA.out.rd k 0 hlt (by decide)) (HK.out.wt k 0 hlt (by decide))
      have c0 : wr.cell? ⟨b, off + k * 3, none⟩ = some (.int .i64 z0) := by have t := hc 0 _ (elA_at 10 C k 0 (by decide)); rw [e0] at t; exact t
      have d0 : wr.cell? ⟨b', off' + k * 3, none⟩ = some (.int .i64 z0) := by have t := hd 0 _ (elA_at 10 D k 0 (by decide)); rw [rd_lfv (HB.out.rd k 0 hlt (by decide)) q0] at t; exact t
      clear q0 e0
      obtain ⟨z1, q1, e1, _⟩ := rd_int (HA.out.rd k 1 hlt (by decide)) (HK.out.wt k 1 hlt (by decide))
      have c1 : wr.cell? ⟨b, off + k * 3 + 1, none⟩ = some (.int .i64 z1) := by have t := hc 1 _ (elA_at 10 C k 1 (by decide)); rw [e1] at t; exact t
      have d1 : wr.cell? ⟨b', off' + k * 3 + 1, none⟩ = some (.int .i64 z1) := by have t := hd 1 _ (elA_at 10 D k 1 (by decide)); rw [rd_lfv (HB.out.rd k 1 hlt (by decide)) q1] at t; exact t
      clear q1 e1
      obtain ⟨z2, q2, e2, _⟩ := rd_str (HA.out.rd k 2 hlt (by decide)) (HK.out.wt k 2 hlt (by decide))
      have c2 : wr.cell? ⟨b, off + k * 3 + 2, none⟩ = some (.string z2) := by have t := hc 2 _ (elA_at 10 C k 2 (by decide)); rw [e2] at t; exact t
      have d2 : wr.cell? ⟨b', off' + k * 3 + 2, none⟩ = some (.string z2) := by have t := hd 2 _ (elA_at 10 D k 2 (by decide)); rw [rd_lfv (HB.out.rd k 2 hlt (by decide)) q2] at t; exact t
      clear q2 e2
      clear hc hd hlt hkn hb
      go_wp2_with fail
      refine ord_start (SB (wr.heap.size) [] _) 9 (preB 0 9) (by kernel_rfl) (by kernel_rfl) (by kernel_rfl) SB.refl.drew (fun hHeld => ?_)
      refine ord_take (i := 0) (preB 1 8) ?_ rfl (by kernel_rfl) (by kernel_rfl) (by kernel_rfl) (by kernel_rfl) (fun _ _ _ h => h) hHeld (by rfl) (fun wx hSx => ?_) ?_
      rotate_left
      · (unfold SB at hSx; go_simp; (try with_reducible rfl))
      (try simp only [Act.put, putA, putB, putC])
      refine ord_take (i := 1) (preB 2 7) ?_ rfl (by kernel_rfl) (by kernel_rfl) (by kernel_rfl) (by kernel_rfl) (fun _ _ _ h => h) hHeld (by rfl) (fun wx hSx => ?_) ?_
      rotate_left
      · (unfold SB at hSx; go_simp; (try with_reducible rfl))
      (try simp only [Act.put, putA, putB, putC])
      refine ord_take (i := 2) (preB 3 6) ?_ rfl (by kernel_rfl) (by kernel_rfl) (by kernel_rfl) (by kernel_rfl) (fun _ _ _ h => h) hHeld (by rfl) (fun wx hSx => ?_) ?_
      rotate_left
      · (unfold SB at hSx; go_simp; (try with_reducible rfl))
      (try simp only [Act.put, putA, putB, putC])
      refine ord_take (i := 3) (preB 4 5) ?_ rfl (by kernel_rfl) (by kernel_rfl) (by kernel_rfl) (by kernel_rfl) (fun _ _ _ h => h) hHeld (by rfl) (fun wx hSx => ?_) ?_
      rotate_left
      · (unfold SB at hSx; go_simp; (try with_reducible rfl))
      (try simp only [Act.put, putA, putB, putC])
      refine ord_take (i := 4) (preB 5 4) ?_ rfl (by kernel_rfl) (by kernel_rfl) (by kernel_rfl) (by kernel_rfl) (fun _ _ _ h => h) hHeld (by rfl) (fun wx hSx => ?_) ?_
      rotate_left
      · (unfold SB at hSx; go_simp; (try with_reducible rfl))
      (try simp only [Act.put, putA, putB, putC])
      refine ord_take (i := 5) (preB 6 3) ?_ rfl (by kernel_rfl) (by kernel_rfl) (by kernel_rfl) (by kernel_rfl) (fun _ _ _ h => h) hHeld (by rfl) (fun wx hSx => ?_) ?_
      rotate_left
      · (unfold SB at hSx; go_simp; (try with_reducible rfl))
      (try simp only [Act.put, putA, putB, putC])
      refine ord_take (i := 6) (preB 7 2) ?_ rfl (by kernel_rfl) (by kernel_rfl) (by kernel_rfl) (by kernel_rfl) (fun _ _ _ h => h) hHeld (by rfl) (fun wx hSx => ?_) ?_
      rotate_left
      · (unfold SB at hSx; go_simp; (try with_reducible rfl))
      (try simp only [Act.put, putA, putB, putC])
      refine ord_take (i := 7) (preB 8 1) ?_ rfl (by kernel_rfl) (by kernel_rfl) (by kernel_rfl) (by kernel_rfl) (fun _ _ _ h => h) hHeld (by rfl) (fun wx hSx => ?_) ?_
      rotate_left
      · (unfold SB at hSx; go_simp; (try with_reducible rfl))
      (try simp only [Act.put, putA, putB, putC])
      refine ord_take (i := 8) (preB 9 0) ?_ rfl (by kernel_rfl) (by kernel_rfl) (by kernel_rfl) (by kernel_rfl) (fun _ _ _ h => h) hHeld (by rfl) (fun wx hSx => ?_) ?_
      rotate_left
      · (unfold SB at hSx; go_simp; (try with_reducible rfl))
      (try simp only [Act.put, putA, putB, putC])
      refine wpAnyH_done (by kernel_rfl) ?_ _
      go_wp2_with fail
      go_roundw
      case rel => exact ⟨k + 1, HLT.out, by go_num, H0.out.drew⟩
      case measure => have := HLT.out; simp [intOf]; omega
    · obtain rfl : k = n := by omega
      clear hlt hkn
      go_wp2_with fail
      go_ret
      exact ⟨rfl, hb⟩
end Go.Proofs.YtdjhkhadjmndoaaDoor
namespace Go.Proofs.YtdjhkhadjmndoaaDoor
set_option maxRecDepth 4000
set_option linter.unusedSimpArgs false
set_option linter.unusedVariables false
open Go.RowKit
/-- Two expressions that read the same tree are the same. -/
def SmOK (ck : Nat → Tr) : Prop := ∀ (w : World) (X Y : Array Value), ElT (Old w) w 5 ck X → ElT (Old w) w 5 ck Y → Calls Tryd.prog 37 #[.agg X, .agg Y] w fun r w' => r = .returned (.bool true) ∧ Below w.heap.size w w'
set_option maxRecDepth 20000 in
set_option maxHeartbeats 8000000 in
theorem sm_expr (ck : Nat → Tr) (hw : KnOK 5 ck) (hE : ∀ n c, ck 3 = .row n (tbl 5).length c → ∀ k, k < n → SmOK (c k)) : SmOK ck := by
  intro w X Y hX hY
  obtain ⟨x0, x1, x2, x3, rfl⟩ := arr4 (show X.size = 4 from hX.size)
  obtain ⟨y0, y1, y2, y3, rfl⟩ := arr4 (show Y.size = 4 from hY.size)
  obtain ⟨z0, q0, e0, _⟩ := rd_int (hX.rd 0 (by decide)) (hw 0 (by decide))
  have e0 : x0 = .int .i64 z0 := e0
  have f0 : y0 = .int .i64 z0 := rd_lfv (hY.rd 0 (by decide)) q0
  subst e0 f0
  have Q0 := hide q0
  clear q0
  obtain ⟨z1, q1, e1, _⟩ := rd_int (hX.rd 1 (by decide)) (hw 1 (by decide))
  have e1 : x1 = .int .i64 z1 := e1
  have f1 : y1 = .int .i64 z1 := rd_lfv (hY.rd 1 (by decide)) q1
  subst e1 f1
  have Q1 := hide q1
  clear q1
  obtain ⟨z2, q2, e2, _⟩ := rd_str (hX.rd 2 (by decide)) (hw 2 (by decide))
  have e2 : x2 = .string z2 := e2
  have f2 : y2 = .string z2 := rd_lfv (hY.rd 2 (by decide)) q2
  subst e2 f2
  have Q2 := hide q2
  clear q2
  obtain ⟨n3, c3, hc3, hk3, A3, cap3, C3, e3, _, hA3⟩ := rd_row (e := 5) (hX.rd 3 (by decide)) (hw 3 (by decide))
  have g3 := hY.rd 3 (by decide)
  rw [hc3] at g3
  obtain ⟨B3, cbp3, D3, f3, _, hB3, hD3⟩ := g3
  have e3 : x3 = .slice A3 n3 cap3 := e3
  have f3 : y3 = .slice B3 n3 cbp3 := f3
  subst e3 f3
  have HA3 := hide hA3
  have HB3 := hide (show RowT (Old w) w 5 B3 n3 c3 D3 from ⟨hB3, hD3⟩)
  have HK3 := hide hk3
  have HC3 := hide hc3
  clear hA3 hB3 hD3 hk3 hc3
  have HE := hide (fun k hk => hE n3 c3 HC3.out k hk)
  have hn : n3 ≤ 140737488351232 := by have := HK3.out.room; simp only [tby] at this; omega
  clear hX hY hw hE
  go_enter Tryd.func37, Tryd.ntmps37
  go_wp2_with fail
  go_loopw [5] (fun v wr => SmI2 n3 ((w.alloc (.cells #[.int .i64 z0, .int .i64 z1, .string z2, .slice A3 n3 cap3] 79)).alloc (.cells #[.int .i64 z0, .int .i64 z1, .string z2, .slice B3 n3 cbp3] 79)) v wr) (fun v _ => n3 - (intOf v).toNat)
  case atStart => exact ⟨0, by omega, rfl, by (repeat (first | (with_reducible first | exact Below.refl _ _ | assumption | refine Below.drew ?_) | ((with_reducible first | refine Below.alloc ?_ ?_ _ | refine Below.setCell ?_ ?_ _); rotate_left; (first | omega | (simp <;> omega)))))⟩
  case round =>
    obtain ⟨k, hkn, rfl, hb⟩ := hrel
    have H0 := hide hb
    have q1B : Below w.heap.size w wr := (by refine Below.trans ?_ (hb.mono (by first | omega | (simp <;> omega))); (repeat (first | (with_reducible first | exact Below.refl _ _ | assumption | refine Below.drew ?_) | ((with_reducible first | refine Below.alloc ?_ ?_ _ | refine Below.setCell ?_ ?_ _); rotate_left; (first | omega | (simp <;> omega))))))
    have q1z := hb.size
    try simp at q1z
    have q1t : w.heap.size ≤ wr.heap.size := (by omega)
    have q1s0 : w.heap.size < wr.heap.size := (by omega)
    have q1n0_0 : ¬ wr.heap.size = w.heap.size := (by omega)
    have q1n0_1 : ¬ wr.heap.size + 1 = w.heap.size := (by omega)
    have q1n0_2 : ¬ wr.heap.size + 2 = w.heap.size := (by omega)
    have q1c0_0 := hb.cell (p := ⟨w.heap.size, 0, none⟩) (by first | omega | (simp <;> omega))
    simp [go_sem, *] at q1c0_0
    have q1c0_1 := hb.cell (p := ⟨w.heap.size, 1, none⟩) (by first | omega | (simp <;> omega))
    simp [go_sem, *] at q1c0_1
    have q1c0_2 := hb.cell (p := ⟨w.heap.size, 2, none⟩) (by first | omega | (simp <;> omega))
    simp [go_sem, *] at q1c0_2
    have q1c0_3 := hb.cell (p := ⟨w.heap.size, 3, none⟩) (by first | omega | (simp <;> omega))
    simp [go_sem, *] at q1c0_3
    have q1f0 := fun o => hb.frozen (p := ⟨w.heap.size, o, none⟩) (by first | omega | (simp <;> omega))
    simp [go_sem, *] at q1f0
    have q1s1 : w.heap.size + 1 < wr.heap.size := (by omega)
    have q1n1_0 : ¬ wr.heap.size = w.heap.size + 1 := (by omega)
    have q1n1_1 : ¬ wr.heap.size + 1 = w.heap.size + 1 := (by omega)
    have q1n1_2 : ¬ wr.heap.size + 2 = w.heap.size + 1 := (by omega)
    have q1c1_0 := hb.cell (p := ⟨w.heap.size + 1, 0, none⟩) (by first | omega | (simp <;> omega))
    simp [go_sem, *] at q1c1_0
    have q1c1_1 := hb.cell (p := ⟨w.heap.size + 1, 1, none⟩) (by first | omega | (simp <;> omega))
    simp [go_sem, *] at q1c1_1
    have q1c1_2 := hb.cell (p := ⟨w.heap.size + 1, 2, none⟩) (by first | omega | (simp <;> omega))
    simp [go_sem, *] at q1c1_2
    have q1c1_3 := hb.cell (p := ⟨w.heap.size + 1, 3, none⟩) (by first | omega | (simp <;> omega))
    simp [go_sem, *] at q1c1_3
    have q1f1 := fun o => hb.frozen (p := ⟨w.heap.size + 1, o, none⟩) (by first | omega | (simp <;> omega))
    simp [go_sem, *] at q1f1
    have q1o : ∀ b o, b < w.heap.size → wr.cell? ⟨b, o, none⟩ = w.cell? ⟨b, o, none⟩ := fun b o h => q1B.cell (p := ⟨b, o, none⟩) h
    clear hb
    by_cases hlt : k < n3
    · have hm : (k : Int) < n3 := by omega
      have HLT := hide hlt
      have hk0 : (0 : Int) ≤ k := by omega
      have HA := hide (HA3.out.below q1B)
      have HB := hide (HB3.out.below q1B)
      obtain ⟨b, off, rfl, hbl, hc⟩ := HA.out.cells (by decide) hlt
      obtain ⟨b', off', rfl, hbl', hd⟩ := HB.out.cells (by decide) hlt
      have hXe := HA.out.el HK3.out hlt
      have hYe := HB.out.el HK3.out hlt
      have kn := knk HK3.out hlt
      have rx : elA 5 C3 k = #[C3 k 0, C3 k 1, C3 k 2, C3 k 3] := rfl
      have ry : elA 5 D3 k = #[D3 k 0, D3 k 1, D3 k 2, D3 k 3] := rfl
      rw [rx] at hXe hc
      rw [ry] at hYe hd
      obtain ⟨x0, hx0⟩ : ∃ x, x = C3 k 0 := ⟨_, rfl⟩
      obtain ⟨x1, hx1⟩ : ∃ x, x = C3 k 1 := ⟨_, rfl⟩
      obtain ⟨x2, hx2⟩ : ∃ x, x = C3 k 2 := ⟨_, rfl⟩
      obtain ⟨x3, hx3⟩ : ∃ x, x = C3 k 3 := ⟨_, rfl⟩
      obtain ⟨y0, hy0⟩ : ∃ x, x = D3 k 0 := ⟨_, rfl⟩
      obtain ⟨y1, hy1⟩ : ∃ x, x = D3 k 1 := ⟨_, rfl⟩
      obtain ⟨y2, hy2⟩ : ∃ x, x = D3 k 2 := ⟨_, rfl⟩
      obtain ⟨y3, hy3⟩ : ∃ x, x = D3 k 3 := ⟨_, rfl⟩
      rw [← hx0, ← hx1, ← hx2, ← hx3] at hXe hc
      rw [← hy0, ← hy1, ← hy2, ← hy3] at hYe hd
      clear hx0 hx1 hx2 hx3 hy0 hy1 hy2 hy3 rx ry
      have hX := hXe
      have hY := hYe
      have hw := kn
      clear hXe hYe kn Q0 Q1 Q2
      obtain ⟨z0u, q0u, e0u, _⟩ := rd_int (hX.rd 0 (by decide)) (hw 0 (by decide))
      have e0u : x0 = .int .i64 z0u := e0u
      have f0u : y0 = .int .i64 z0u := rd_lfv (hY.rd 0 (by decide)) q0u
      subst e0u f0u
      have Q0u := hide q0u
      clear q0u
      obtain ⟨z1u, q1u, e1u, _⟩ := rd_int (hX.rd 1 (by decide)) (hw 1 (by decide))
      have e1u : x1 = .int .i64 z1u := e1u
      have f1u : y1 = .int .i64 z1u := rd_lfv (hY.rd 1 (by decide)) q1u
      subst e1u f1u
      have Q1u := hide q1u
      clear q1u
      obtain ⟨z2u, q2u, e2u, _⟩ := rd_str (hX.rd 2 (by decide)) (hw 2 (by decide))
      have e2u : x2 = .string z2u := e2u
      have f2u : y2 = .string z2u := rd_lfv (hY.rd 2 (by decide)) q2u
      subst e2u f2u
      have Q2u := hide q2u
      clear q2u
      obtain ⟨n3u, c3u, hc3u, hk3u, A3u, cap3u, C3u, e3u, _, hA3u⟩ := rd_row (e := 5) (hX.rd 3 (by decide)) (hw 3 (by decide))
      have g3u := hY.rd 3 (by decide)
      rw [hc3u] at g3u
      obtain ⟨B3u, cbp3u, D3u, f3u, _, hB3u, hD3u⟩ := g3u
      have e3u : x3 = .slice A3u n3u cap3u := e3u
      have f3u : y3 = .slice B3u n3u cbp3u := f3u
      subst e3u f3u
      have HA3u := hide hA3u
      have HB3u := hide (show RowT (Old wr) wr 5 B3u n3u c3u D3u from ⟨hB3u, hD3u⟩)
      have HK3u := hide hk3u
      have HC3u := hide hc3u
      clear hA3u hB3u hD3u hk3u hc3u
      have HX := hide hX
      have HY := hide hY
      have HEk := hide (HE.out k hlt)
      have c0 : wr.cell? ⟨b, off + k * 4, none⟩ = some (.int .i64 z0u) := hc 0 _ rfl
      have c1 : wr.cell? ⟨b, off + k * 4 + 1, none⟩ = some (.int .i64 z1u) := hc 1 _ rfl
      have c2 : wr.cell? ⟨b, off + k * 4 + 2, none⟩ = some (.string z2u) := hc 2 _ rfl
      have c3 : wr.cell? ⟨b, off + k * 4 + 3, none⟩ = some (.slice A3u n3u cap3u) := hc 3 _ rfl
      have d0 : wr.cell? ⟨b', off' + k * 4, none⟩ = some (.int .i64 z0u) := hd 0 _ rfl
      have d1 : wr.cell? ⟨b', off' + k * 4 + 1, none⟩ = some (.int .i64 z1u) := hd 1 _ rfl
      have d2 : wr.cell? ⟨b', off' + k * 4 + 2, none⟩ = some (.string z2u) := hd 2 _ rfl
      have d3 : wr.cell? ⟨b', off' + k * 4 + 3, none⟩ = some (.slice B3u n3u cbp3u) := hd 3 _ rfl
      clear hc hd hX hY hw hlt hkn
      go_wp2_with fail
      refine ord_start (SB (wr.heap.size) [] _) 12 (preB 0 12) (by kernel_rfl) (by kernel_rfl) (by kernel_rfl) SB.refl.drew (fun hHeld => ?_)
      refine ord_take (i := 0) (preB 1 11) ?_ rfl (by kernel_rfl) (by kernel_rfl) (by kernel_rfl) (by kernel_rfl) (fun _ _ _ h => h) hHeld (by rfl) (fun wx hSx => ?_) ?_
      rotate_left
      · (unfold SB at hSx; go_simp; (try with_reducible rfl))
      (try simp only [Act.put, putA, putB, putC])
      refine ord_take (i := 1) (preB 2 10) ?_ rfl (by kernel_rfl) (by kernel_rfl) (by kernel_rfl) (by kernel_rfl) (fun _ _ _ h => h) hHeld (by rfl) (fun wx hSx => ?_) ?_
      rotate_left
      · (unfold SB at hSx; go_simp; (try with_reducible rfl))
      (try simp only [Act.put, putA, putB, putC])
      refine ord_take (i := 2) (preB 3 9) ?_ rfl (by kernel_rfl) (by kernel_rfl) (by kernel_rfl) (by kernel_rfl) (fun _ _ _ h => h) hHeld (by rfl) (fun wx hSx => ?_) ?_
      rotate_left
      · (unfold SB at hSx; go_simp; (try with_reducible rfl))
      (try simp only [Act.put, putA, putB, putC])
      refine ord_take (i := 3) (preB 4 8) ?_ rfl (by kernel_rfl) (by kernel_rfl) (by kernel_rfl) (by kernel_rfl) (fun _ _ _ h => h) hHeld (by rfl) (fun wx hSx => ?_) ?_
      rotate_left
      · (unfold SB at hSx; go_simp; (try with_reducible rfl))
      (try simp only [Act.put, putA, putB, putC])
      refine ord_take (i := 4) (preB 5 7) ?_ rfl (by kernel_rfl) (by kernel_rfl) (by kernel_rfl) (by kernel_rfl) (fun _ _ _ h => h) hHeld (by rfl) (fun wx hSx => ?_) ?_
      rotate_left
      · (unfold SB at hSx; go_simp; (try with_reducible rfl))
      (try simp only [Act.put, putA, putB, putC])
      refine ord_take (i := 5) (preB 6 6) ?_ rfl (by kernel_rfl) (by kernel_rfl) (by kernel_rfl) (by kernel_rfl) (fun _ _ _ h => h) hHeld (by rfl) (fun wx hSx => ?_) ?_
      rotate_left
      · (unfold SB at hSx; go_simp; (try with_reducible rfl))
      (try simp only [Act.put, putA, putB, putC])
      refine ord_take (i := 6) (preB 7 5) ?_ rfl (by kernel_rfl) (by kernel_rfl) (by kernel_rfl) (by kernel_rfl) (fun _ _ _ h => h) hHeld (by rfl) (fun wx hSx => ?_) ?_
      rotate_left
      · (unfold SB at hSx; go_simp; (try with_reducible rfl))
      (try simp only [Act.put, putA, putB, putC])
      refine ord_take (i := 7) (preB 8 4) ?_ rfl (by kernel_rfl) (by kernel_rfl) (by kernel_rfl) (by kernel_rfl) (fun _ _ _ h => h) hHeld (by rfl) (fun wx hSx => ?_) ?_
      rotate_left
      · (unfold SB at hSx; go_simp; (try with_reducible rfl))
      (try simp only [Act.put, putA, putB, putC])
      refine ord_take (i := 8) (preB 9 3) ?_ rfl (by kernel_rfl) (by kernel_rfl) (by kernel_rfl) (by kernel_rfl) (fun _ _ _ h => h) hHeld (by rfl) (fun wx hSx => ?_) ?_
      rotate_left
      · (unfold SB at hSx; go_simp; (try with_reducible rfl))
      (try simp only [Act.put, putA, putB, putC])
      refine ord_take (i := 9) (preB 10 2) ?_ rfl (by kernel_rfl) (by kernel_rfl) (by kernel_rfl) (by kernel_rfl) (fun _ _ _ h => h) hHeld (by rfl) (fun wx hSx => ?_) ?_
      rotate_left
      · (unfold SB at hSx; go_simp; (try with_reducible rfl))
      (try simp only [Act.put, putA, putB, putC])
      refine wpAnyH_ready (rs := [10]) (by kernel_rfl) (by simp) ?_
      refine ord_run (i := 10) (preB 11 1) rfl (by kernel_rfl) (by rfl) (fun K hK => ?_) AllReadyH.nil
      go_simp
      go_wp2_with (go_at_call 37; refine (HEk.out _ _ _ (HX.out.below (by (repeat (first | (with_reducible first | exact Below.refl _ _ | assumption | refine Below.drew ?_) | ((with_reducible first | refine Below.alloc ?_ ?_ _ | refine Below.setCell ?_ ?_ _); rotate_left; (first | omega | (simp <;> omega))))))) (HY.out.below (by (repeat (first | (with_reducible first | exact Below.refl _ _ | assumption | refine Below.drew ?_) | ((with_reducible first | refine Below.alloc ?_ ?_ _ | refine Below.setCell ?_ ?_ _); rotate_left; (first | omega | (simp <;> omega)))))))).mono ?_; rintro r w5 ⟨rfl, hb⟩; have hbS := hb)
      refine hK.out _ _ ?_ (fun hHeld => ?_)
      · (repeat (first | (with_reducible first | exact SB.refl | exact hHeld | refine SB.drew ?_ | refine SB.drewN ?_ _) | ((with_reducible first | refine SB.alloc ?_ ?_ _ | refine SB.below ?_ hbS ?_ | refine SB.below ?_ hbS1 ?_ | refine SB.below ?_ hbS2 ?_ | refine SB.below ?_ hbS3 ?_ | refine SB.below ?_ hbS4 ?_); rotate_left; (first | omega | (simp <;> omega))) | ((with_reducible refine SB.setCell ?_ ?_ _); rotate_left; (focus (first | (simp; done) | (right; first | omega | (simp <;> omega))))) | (with_reducible refine SB.undrew ?_) | ((with_reducible refine SB.congr ?_ ?_); rotate_left; (focus (simp; done))) | ((with_reducible refine SB.realloc ?_ ?_ ?_); rotate_left; (focus (simp; done)); (focus (simp; done)))))
      clear hK K
      (try simp only [Act.put, putA, putB, putC])
      refine ord_take (i := 11) (preB 12 0) ?_ rfl (by kernel_rfl) (by kernel_rfl) (by kernel_rfl) (by kernel_rfl) (fun _ _ _ h => h) hHeld (by rfl) (fun wx hSx => ?_) ?_
      rotate_left
      · (unfold SB at hSx; go_simp; (try with_reducible rfl))
      (try simp only [Act.put, putA, putB, putC])
      refine wpAnyH_done (by kernel_rfl) ?_ _
      go_wp2_with fail
      go_roundw
      case rel => exact ⟨k + 1, HLT.out, by go_num, H0.out.trans (Below.trans (by (repeat (first | (with_reducible first | exact Below.refl _ _ | assumption | refine Below.drew ?_) | ((with_reducible first | refine Below.alloc ?_ ?_ _ | refine Below.setCell ?_ ?_ _); rotate_left; (first | omega | (simp <;> omega)))))) (hb.mono (by have := H0.out.size; simpa using this)))⟩
      case measure => have := HLT.out; simp [intOf]; omega
    · obtain rfl : k = n3 := by omega
      clear hlt hkn
      go_wp2_with fail
      go_ret
      exact ⟨rfl, q1B⟩
theorem smK : ∀ (T : Tr) (n : Nat) (c : Nat → Nat → Tr), T = .row n (tbl 5).length c → T.wt (.sl 5) → ∀ k, k < n → SmOK (c k) := fun T => by
  induction T with
  | lf v => intro n c h; cases h
  | row n sz c ih =>
    intro n' c' h hwt k hk
    injection h with h1 h2 h3
    subst h1 h2 h3
    have kn : KnOK 5 (c k) := fun j hj => hwt.2.2 k j hk hj
    exact sm_expr (c k) kn (fun n2 c2 h2 k2 hk2 => ih k 3 n2 c2 h2 (kn 3 (by decide)) k2 hk2)
theorem smS {ck : Nat → Tr} (kn : KnOK 5 ck) : SmOK ck := sm_expr ck kn fun n c h k hk => smK _ n c h (kn 3 (by decide)) k hk
end Go.Proofs.YtdjhkhadjmndoaaDoor
namespace Go.Proofs.YtdjhkhadjmndoaaDoor
set_option maxRecDepth 4000
set_option linter.unusedSimpArgs false
set_option linter.unusedVariables false
open Go.RowKit
set_option maxRecDepth 20000 in
set_option maxHeartbeats 8000000 in
theorem sm_interest (ck : Nat → Tr) (hw : KnOK 14 ck) (w : World) (X Y : Array Value) (hX : ElT (Old w) w 14 ck X) (hY : ElT (Old w) w 14 ck Y) : Calls Tryd.prog 35 #[.agg X, .agg Y] w fun r w' => r = .returned (.bool true) ∧ Below w.heap.size w w' := by
  obtain ⟨x0, x1, x2, x3, x4, rfl⟩ := arr5 (show X.size = 5 from hX.size)
  obtain ⟨y0, y1, y2, y3, y4, rfl⟩ := arr5 (show Y.size = 5 from hY.size)
  obtain ⟨z1, q1, e1⟩ := rd_bool (hX.rd 1 (by decide)) (hw 1 (by decide))
  have e1 : x1 = .bool z1 := e1
  have f1 : y1 = .bool z1 := rd_lfv (hY.rd 1 (by decide)) q1
  subst e1 f1
  have Q1 := hide q1
  clear q1
  obtain ⟨z2, q2, e2, _⟩ := rd_int (hX.rd 2 (by decide)) (hw 2 (by decide))
  have e2 : x2 = .int .i64 z2 := e2
  have f2 : y2 = .int .i64 z2 := rd_lfv (hY.rd 2 (by decide)) q2
  subst e2 f2
  have Q2 := hide q2
  clear q2
  obtain ⟨z3, q3, e3, _⟩ := rd_int (hX.rd 3 (by decide)) (hw 3 (by decide))
  have e3 : x3 = .int .i64 z3 := e3
  have f3 : y3 = .int .i64 z3 := rd_lfv (hY.rd 3 (by decide)) q3
  subst e3 f3
  have Q3 := hide q3
  clear q3
  obtain ⟨z4, q4, e4⟩ := rd_bool (hX.rd 4 (by decide)) (hw 4 (by decide))
  have e4 : x4 = .bool z4 := e4
  have f4 : y4 = .bool z4 := rd_lfv (hY.rd 4 (by decide)) q4
  subst e4 f4
  have Q4 := hide q4
  clear q4
  obtain ⟨n0, c0, hc0, hk0, A0, cap0, C0, e0, _, hA0⟩ := rd_row (e := 4) (hX.rd 0 (by decide)) (hw 0 (by decide))
  have g0 := hY.rd 0 (by decide)
  rw [hc0] at g0
  obtain ⟨B0, cbp0, D0, f0, _, hB0, hD0⟩ := g0
  have e0 : x0 = .slice A0 n0 cap0 := e0
  have f0 : y0 = .slice B0 n0 cbp0 := f0
  subst e0 f0
  have HA0 := hide hA0
  have HB0 := hide (show RowT (Old w) w 4 B0 n0 c0 D0 from ⟨hB0, hD0⟩)
  have HK0 := hide hk0
  have HC0 := hide hc0
  clear hA0 hB0 hD0 hk0 hc0
  have hn : n0 ≤ 140737488351232 := by have := HK0.out.room; simp only [tby] at this; omega
  clear hX hY hw
  go_enter Tryd.func35, Tryd.ntmps35
  go_wp2_with fail
  go_loopw [5] (fun v wr => SmI2 n0 ((w.alloc (.cells #[.slice A0 n0 cap0, .bool z1, .int .i64 z2, .int .i64 z3, .bool z4] 49)).alloc (.cells #[.slice B0 n0 cbp0, .bool z1, .int .i64 z2, .int .i64 z3, .bool z4] 49)) v wr) (fun v _ => n0 - (intOf v).toNat)
  case atStart => exact ⟨0, by omega, rfl, by (repeat (first | (with_reducible first | exact Below.refl _ _ | assumption | refine Below.drew ?_) | ((with_reducible first | refine Below.alloc ?_ ?_ _ | refine Below.setCell ?_ ?_ _); rotate_left; (first | omega | (simp <;> omega)))))⟩
  case round =>
    obtain ⟨k, hkn, rfl, hb⟩ := hrel
    have H0 := hide hb
    have q1B : Below w.heap.size w wr := (by refine Below.trans ?_ (hb.mono (by first | omega | (simp <;> omega))); (repeat (first | (with_reducible first | exact Below.refl _ _ | assumption | refine Below.drew ?_) | ((with_reducible first | refine Below.alloc ?_ ?_ _ | refine Below.setCell ?_ ?_ _); rotate_left; (first | omega | (simp <;> omega))))))
    have q1z := hb.size
    try simp at q1z
    have q1t : w.heap.size ≤ wr.heap.size := (by omega)
    have q1s0 : w.heap.size < wr.heap.size := (by omega)
    have q1n0_0 : ¬ wr.heap.size = w.heap.size := (by omega)
    have q1n0_1 : ¬ wr.heap.size + 1 = w.heap.size := (by omega)
    have q1n0_2 : ¬ wr.heap.size + 2 = w.heap.size := (by omega)
    have q1c0_0 := hb.cell (p := ⟨w.heap.size, 0, none⟩) (by first | omega | (simp <;> omega))
    simp [go_sem, *] at q1c0_0
    have q1c0_1 := hb.cell (p := ⟨w.heap.size, 1, none⟩) (by first | omega | (simp <;> omega))
    simp [go_sem, *] at q1c0_1
    have q1c0_2 := hb.cell (p := ⟨w.heap.size, 2, none⟩) (by first | omega | (simp <;> omega))
    simp [go_sem, *] at q1c0_2
    have q1c0_3 := hb.cell (p := ⟨w.heap.size, 3, none⟩) (by first | omega | (simp <;> omega))
    simp [go_sem, *] at q1c0_3
    have q1c0_4 := hb.cell (p := ⟨w.heap.size, 4, none⟩) (by first | omega | (simp <;> omega))
    simp [go_sem, *] at q1c0_4
    have q1f0 := fun o => hb.frozen (p := ⟨w.heap.size, o, none⟩) (by first | omega | (simp <;> omega))
    simp [go_sem, *] at q1f0
    have q1s1 : w.heap.size + 1 < wr.heap.size := (by omega)
    have q1n1_0 : ¬ wr.heap.size = w.heap.size + 1 := (by omega)
    have q1n1_1 : ¬ wr.heap.size + 1 = w.heap.size + 1 := (by omega)
    have q1n1_2 : ¬ wr.heap.size + 2 = w.heap.size + 1 := (by omega)
    have q1c1_0 := hb.cell (p := ⟨w.heap.size + 1, 0, none⟩) (by first | omega | (simp <;> omega))
    simp [go_sem, *] at q1c1_0
    have q1c1_1 := hb.cell (p := ⟨w.heap.size + 1, 1, none⟩) (by first | omega | (simp <;> omega))
    simp [go_sem, *] at q1c1_1
    have q1c1_2 := hb.cell (p := ⟨w.heap.size + 1, 2, none⟩) (by first | omega | (simp <;> omega))
    simp [go_sem, *] at q1c1_2
    have q1c1_3 := hb.cell (p := ⟨w.heap.size + 1, 3, none⟩) (by first | omega | (simp <;> omega))
    simp [go_sem, *] at q1c1_3
    have q1c1_4 := hb.cell (p := ⟨w.heap.size + 1, 4, none⟩) (by first | omega | (simp <;> omega))
    simp [go_sem, *] at q1c1_4
    have q1f1 := fun o => hb.frozen (p := ⟨w.heap.size + 1, o, none⟩) (by first | omega | (simp <;> omega))
    simp [go_sem, *] at q1f1
    have q1o : ∀ b o, b < w.heap.size → wr.cell? ⟨b, o, none⟩ = w.cell? ⟨b, o, none⟩ := fun b o h => q1B.cell (p := ⟨b, o, none⟩) h
    clear hb
    by_cases hlt : k < n0
    · have hm : (k : Int) < n0 := by omega
      have HLT := hide hlt
      have hk0 : (0 : Int) ≤ k := by omega
      have HA := hide (HA0.out.below q1B)
      have HB := hide (HB0.out.below q1B)
      obtain ⟨b, off, rfl, hbl, hc⟩ := HA.out.cells (by decide) hlt
      obtain ⟨b', off', rfl, hbl', hd⟩ := HB.out.cells (by decide) hlt
      obtain ⟨u0, q0, e0, _⟩ := rd_int (HA.out.rd k 0 hlt (by decide)) (HK0.out.wt k 0 hlt (by decide))
      have c0 : wr.cell? ⟨b, off + k * 2, none⟩ = some (.int .i64 u0) := by have t := hc 0 _ (elA_at 4 C0 k 0 (by decide)); rw [e0] at t; exact t
      have d0 : wr.cell? ⟨b', off' + k * 2, none⟩ = some (.int .i64 u0) := by have t := hd 0 _ (elA_at 4 D0 k 0 (by decide)); rw [rd_lfv (HB.out.rd k 0 hlt (by decide)) q0] at t; exact t
      clear q0 e0
      obtain ⟨u1, q1, e1, _⟩ := rd_int (HA.out.rd k 1 hlt (by decide)) (HK0.out.wt k 1 hlt (by decide))
      have c1 : wr.cell? ⟨b, off + k * 2 + 1, none⟩ = some (.int .i64 u1) := by have t := hc 1 _ (elA_at 4 C0 k 1 (by decide)); rw [e1] at t; exact t
      have d1 : wr.cell? ⟨b', off' + k * 2 + 1, none⟩ = some (.int .i64 u1) := by have t := hd 1 _ (elA_at 4 D0 k 1 (by decide)); rw [rd_lfv (HB.out.rd k 1 hlt (by decide)) q1] at t; exact t
      clear q1 e1
      clear hc hd hlt hkn
      go_wp2_with fail
      refine ord_start (SB (wr.heap.size) [] _) 11 (preB 0 11) (by kernel_rfl) (by kernel_rfl) (by kernel_rfl) SB.refl.drew (fun hHeld => ?_)
      refine ord_take (i := 0) (preB 1 10) ?_ rfl (by kernel_rfl) (by kernel_rfl) (by kernel_rfl) (by kernel_rfl) (fun _ _ _ h => h) hHeld (by rfl) (fun wx hSx => ?_) ?_
      rotate_left
      · (unfold SB at hSx; go_simp; (try with_reducible rfl))
      (try simp only [Act.put, putA, putB, putC])
      refine ord_take (i := 1) (preB 2 9) ?_ rfl (by kernel_rfl) (by kernel_rfl) (by kernel_rfl) (by kernel_rfl) (fun _ _ _ h => h) hHeld (by rfl) (fun wx hSx => ?_) ?_
      rotate_left
      · (unfold SB at hSx; go_simp; (try with_reducible rfl))
      (try simp only [Act.put, putA, putB, putC])
      refine ord_take (i := 2) (preB 3 8) ?_ rfl (by kernel_rfl) (by kernel_rfl) (by kernel_rfl) (by kernel_rfl) (fun _ _ _ h => h) hHeld (by rfl) (fun wx hSx => ?_) ?_
      rotate_left
      · (unfold SB at hSx; go_simp; (try with_reducible rfl))
      (try simp only [Act.put, putA, putB, putC])
      refine ord_take (i := 3) (preB 4 7) ?_ rfl (by kernel_rfl) (by kernel_rfl) (by kernel_rfl) (by kernel_rfl) (fun _ _ _ h => h) hHeld (by rfl) (fun wx hSx => ?_) ?_
      rotate_left
      · (unfold SB at hSx; go_simp; (try with_reducible rfl))
      (try simp only [Act.put, putA, putB, putC])
      refine ord_take (i := 4) (preB 5 6) ?_ rfl (by kernel_rfl) (by kernel_rfl) (by kernel_rfl) (by kernel_rfl) (fun _ _ _ h => h) hHeld (by rfl) (fun wx hSx => ?_) ?_
      rotate_left
      · (unfold SB at hSx; go_simp; (try with_reducible rfl))
      (try simp only [Act.put, putA, putB, putC])
      refine ord_take (i := 5) (preB 6 5) ?_ rfl (by kernel_rfl) (by kernel_rfl) (by kernel_rfl) (by kernel_rfl) (fun _ _ _ h => h) hHeld (by rfl) (fun wx hSx => ?_) ?_
      rotate_left
      · (unfold SB at hSx; go_simp; (try with_reducible rfl))
      (try simp only [Act.put, putA, putB, putC])
      refine ord_take (i := 6) (preB 7 4) ?_ rfl (by kernel_rfl) (by kernel_rfl) (by kernel_rfl) (by kernel_rfl) (fun _ _ _ h => h) hHeld (by rfl) (fun wx hSx => ?_) ?_
      rotate_left
      · (unfold SB at hSx; go_simp; (try with_reducible rfl))
      (try simp only [Act.put, putA, putB, putC])
      refine ord_take (i := 7) (preB 8 3) ?_ rfl (by kernel_rfl) (by kernel_rfl) (by kernel_rfl) (by kernel_rfl) (fun _ _ _ h => h) hHeld (by rfl) (fun wx hSx => ?_) ?_
      rotate_left
      · (unfold SB at hSx; go_simp; (try with_reducible rfl))
      (try simp only [Act.put, putA, putB, putC])
      refine ord_take (i := 8) (preB 9 2) ?_ rfl (by kernel_rfl) (by kernel_rfl) (by kernel_rfl) (by kernel_rfl) (fun _ _ _ h => h) hHeld (by rfl) (fun wx hSx => ?_) ?_
      rotate_left
      · (unfold SB at hSx; go_simp; (try with_reducible rfl))
      (try simp only [Act.put, putA, putB, putC])
      refine ord_take (i := 9) (preB 10 1) ?_ rfl (by kernel_rfl) (by kernel_rfl) (by kernel_rfl) (by kernel_rfl) (fun _ _ _ h => h) hHeld (by rfl) (fun wx hSx => ?_) ?_
      rotate_left
      · (unfold SB at hSx; go_simp; (try with_reducible rfl))
      (try simp only [Act.put, putA, putB, putC])
      refine ord_take (i := 10) (preB 11 0) ?_ rfl (by kernel_rfl) (by kernel_rfl) (by kernel_rfl) (by kernel_rfl) (fun _ _ _ h => h) hHeld (by rfl) (fun wx hSx => ?_) ?_
      rotate_left
      · (unfold SB at hSx; go_simp; (try with_reducible rfl))
      (try simp only [Act.put, putA, putB, putC])
      refine wpAnyH_done (by kernel_rfl) ?_ _
      go_wp2_with fail
      go_roundw
      case rel => exact ⟨k + 1, HLT.out, by go_num, H0.out.drew⟩
      case measure => have := HLT.out; simp [intOf]; omega
    · obtain rfl : k = n0 := by omega
      clear hlt hkn
      go_wp2_with fail
      go_ret
      exact ⟨rfl, q1B⟩
set_option maxRecDepth 20000 in
set_option maxHeartbeats 8000000 in
theorem sm_entry (ck : Nat → Tr) (hw : KnOK 11 ck) (w : World) (X Y : Array Value) (hX : ElT (Old w) w 11 ck X) (hY : ElT (Old w) w 11 ck Y) : Calls Tryd.prog 46 #[.agg X, .agg Y] w fun r w' => r = .returned (.bool true) ∧ Below w.heap.size w w' := by
  obtain ⟨x0, x1, x2, x3, x4, x5, x6, x7, x8, x9, rfl⟩ := arr10 (show X.size = 10 from hX.size)
  obtain ⟨y0, y1, y2, y3, y4, y5, y6, y7, y8, y9, rfl⟩ := arr10 (show Y.size = 10 from hY.size)
  obtain ⟨z0, q0, e0, _⟩ := rd_int (hX.rd 0 (by decide)) (hw 0 (by decide))
  have e0 : x0 = .int .i64 z0 := e0
  have f0 : y0 = .int .i64 z0 := rd_lfv (hY.rd 0 (by decide)) q0
  subst e0 f0
  have Q0 := hide q0
  clear q0
  obtain ⟨z1, q1, e1, _⟩ := rd_int (hX.rd 1 (by decide)) (hw 1 (by decide))
  have e1 : x1 = .int .i64 z1 := e1
  have f1 : y1 = .int .i64 z1 := rd_lfv (hY.rd 1 (by decide)) q1
  subst e1 f1
  have Q1 := hide q1
  clear q1
  obtain ⟨z2, q2, e2, _⟩ := rd_int (hX.rd 2 (by decide)) (hw 2 (by decide))
  have e2 : x2 = .int .i64 z2 := e2
  have f2 : y2 = .int .i64 z2 := rd_lfv (hY.rd 2 (by decide)) q2
  subst e2 f2
  have Q2 := hide q2
  clear q2
  obtain ⟨z3, q3, e3, _⟩ := rd_int (hX.rd 3 (by decide)) (hw 3 (by decide))
  have e3 : x3 = .int .i64 z3 := e3
  have f3 : y3 = .int .i64 z3 := rd_lfv (hY.rd 3 (by decide)) q3
  subst e3 f3
  have Q3 := hide q3
  clear q3
  obtain ⟨z4, q4, e4, _⟩ := rd_int (hX.rd 4 (by decide)) (hw 4 (by decide))
  have e4 : x4 = .int .i64 z4 := e4
  have f4 : y4 = .int .i64 z4 := rd_lfv (hY.rd 4 (by decide)) q4
  subst e4 f4
  have Q4 := hide q4
  clear q4
  obtain ⟨z5, q5, e5, _⟩ := rd_int (hX.rd 5 (by decide)) (hw 5 (by decide))
  have e5 : x5 = .int .i64 z5 := e5
  have f5 : y5 = .int .i64 z5 := rd_lfv (hY.rd 5 (by decide)) q5
  subst e5 f5
  have Q5 := hide q5
  clear q5
  obtain ⟨z6, q6, e6, _⟩ := rd_str (hX.rd 6 (by decide)) (hw 6 (by decide))
  have e6 : x6 = .string z6 := e6
  have f6 : y6 = .string z6 := rd_lfv (hY.rd 6 (by decide)) q6
  subst e6 f6
  have Q6 := hide q6
  clear q6
  obtain ⟨z7, q7, e7, _⟩ := rd_str (hX.rd 7 (by decide)) (hw 7 (by decide))
  have e7 : x7 = .string z7 := e7
  have f7 : y7 = .string z7 := rd_lfv (hY.rd 7 (by decide)) q7
  subst e7 f7
  have Q7 := hide q7
  clear q7
  obtain ⟨z9, q9, e9, _, _⟩ := rd_u64 (hX.rd 9 (by decide)) (hw 9 (by decide))
  have e9 : x9 = .int .u64 z9 := e9
  have f9 : y9 = .int .u64 z9 := rd_lfv (hY.rd 9 (by decide)) q9
  subst e9 f9
  have Q9 := hide q9
  clear q9
  obtain ⟨n8, c8, hc8, hk8, A8, cap8, C8, e8, _, hA8⟩ := rd_row (e := 10) (hX.rd 8 (by decide)) (hw 8 (by decide))
  have g8 := hY.rd 8 (by decide)
  rw [hc8] at g8
  obtain ⟨B8, cbp8, D8, f8, _, hB8, hD8⟩ := g8
  have e8 : x8 = .slice A8 n8 cap8 := e8
  have f8 : y8 = .slice B8 n8 cbp8 := f8
  subst e8 f8
  have HA8 := hide hA8
  have HB8 := hide (show RowT (Old w) w 10 B8 n8 c8 D8 from ⟨hB8, hD8⟩)
  have HK8 := hide hk8
  have HC8 := hide hc8
  clear hA8 hB8 hD8 hk8 hc8
  have HE := hide (fun (W : World) (h1 : RowT (Old W) W 10 A8 n8 c8 C8) (h2 : RowT (Old W) W 10 B8 n8 c8 D8) => sm_SameLegs A8 B8 n8 cap8 cbp8 c8 C8 D8 HK8.out W h1 h2)
  clear hX hY hw
  go_enter Tryd.func46, Tryd.ntmps46
  go_wp2_with fail
  refine (HE.out _ (HA8.out.below (by (repeat (first | (with_reducible first | exact Below.refl _ _ | assumption | refine Below.drew ?_) | ((with_reducible first | refine Below.alloc ?_ ?_ _ | refine Below.setCell ?_ ?_ _); rotate_left; (first | omega | (simp <;> omega))))))) (HB8.out.below (by (repeat (first | (with_reducible first | exact Below.refl _ _ | assumption | refine Below.drew ?_) | ((with_reducible first | refine Below.alloc ?_ ?_ _ | refine Below.setCell ?_ ?_ _); rotate_left; (first | omega | (simp <;> omega)))))))).mono ?_
  rintro r w1 ⟨rfl, hb⟩
  have q1B : Below w.heap.size w w1 := (by refine Below.trans ?_ (hb.mono (by first | omega | (simp <;> omega))); (repeat (first | (with_reducible first | exact Below.refl _ _ | assumption | refine Below.drew ?_) | ((with_reducible first | refine Below.alloc ?_ ?_ _ | refine Below.setCell ?_ ?_ _); rotate_left; (first | omega | (simp <;> omega))))))
  have q1z := hb.size
  try simp at q1z
  have q1t : w.heap.size ≤ w1.heap.size := (by omega)
  have q1s0 : w.heap.size < w1.heap.size := (by omega)
  have q1n0_0 : ¬ w1.heap.size = w.heap.size := (by omega)
  have q1n0_1 : ¬ w1.heap.size + 1 = w.heap.size := (by omega)
  have q1n0_2 : ¬ w1.heap.size + 2 = w.heap.size := (by omega)
  have q1c0_0 := hb.cell (p := ⟨w.heap.size, 0, none⟩) (by first | omega | (simp <;> omega))
  simp [go_sem, *] at q1c0_0
  have q1c0_1 := hb.cell (p := ⟨w.heap.size, 1, none⟩) (by first | omega | (simp <;> omega))
  simp [go_sem, *] at q1c0_1
  have q1c0_2 := hb.cell (p := ⟨w.heap.size, 2, none⟩) (by first | omega | (simp <;> omega))
  simp [go_sem, *] at q1c0_2
  have q1c0_3 := hb.cell (p := ⟨w.heap.size, 3, none⟩) (by first | omega | (simp <;> omega))
  simp [go_sem, *] at q1c0_3
  have q1c0_4 := hb.cell (p := ⟨w.heap.size, 4, none⟩) (by first | omega | (simp <;> omega))
  simp [go_sem, *] at q1c0_4
  have q1c0_5 := hb.cell (p := ⟨w.heap.size, 5, none⟩) (by first | omega | (simp <;> omega))
  simp [go_sem, *] at q1c0_5
  have q1c0_6 := hb.cell (p := ⟨w.heap.size, 6, none⟩) (by first | omega | (simp <;> omega))
  simp [go_sem, *] at q1c0_6
  have q1c0_7 := hb.cell (p := ⟨w.heap.size, 7, none⟩) (by first | omega | (simp <;> omega))
  simp [go_sem, *] at q1c0_7
  have q1c0_8 := hb.cell (p := ⟨w.heap.size, 8, none⟩) (by first | omega | (simp <;> omega))
  simp [go_sem, *] at q1c0_8
  have q1c0_9 := hb.cell (p := ⟨w.heap.size, 9, none⟩) (by first | omega | (simp <;> omega))
  simp [go_sem, *] at q1c0_9
  have q1f0 := fun o => hb.frozen (p := ⟨w.heap.size, o, none⟩) (by first | omega | (simp <;> omega))
  simp [go_sem, *] at q1f0
  have q1s1 : w.heap.size + 1 < w1.heap.size := (by omega)
  have q1n1_0 : ¬ w1.heap.size = w.heap.size + 1 := (by omega)
  have q1n1_1 : ¬ w1.heap.size + 1 = w.heap.size + 1 := (by omega)
  have q1n1_2 : ¬ w1.heap.size + 2 = w.heap.size + 1 := (by omega)
  have q1c1_0 := hb.cell (p := ⟨w.heap.size + 1, 0, none⟩) (by first | omega | (simp <;> omega))
  simp [go_sem, *] at q1c1_0
  have q1c1_1 := hb.cell (p := ⟨w.heap.size + 1, 1, none⟩) (by first | omega | (simp <;> omega))
  simp [go_sem, *] at q1c1_1
  have q1c1_2 := hb.cell (p := ⟨w.heap.size + 1, 2, none⟩) (by first | omega | (simp <;> omega))
  simp [go_sem, *] at q1c1_2
  have q1c1_3 := hb.cell (p := ⟨w.heap.size + 1, 3, none⟩) (by first | omega | (simp <;> omega))
  simp [go_sem, *] at q1c1_3
  have q1c1_4 := hb.cell (p := ⟨w.heap.size + 1, 4, none⟩) (by first | omega | (simp <;> omega))
  simp [go_sem, *] at q1c1_4
  have q1c1_5 := hb.cell (p := ⟨w.heap.size + 1, 5, none⟩) (by first | omega | (simp <;> omega))
  simp [go_sem, *] at q1c1_5
  have q1c1_6 := hb.cell (p := ⟨w.heap.size + 1, 6, none⟩) (by first | omega | (simp <;> omega))
  simp [go_sem, *] at q1c1_6
  have q1c1_7 := hb.cell (p := ⟨w.heap.size + 1, 7, none⟩) (by first | omega | (simp <;> omega))
  simp [go_sem, *] at q1c1_7
  have q1c1_8 := hb.cell (p := ⟨w.heap.size + 1, 8, none⟩) (by first | omega | (simp <;> omega))
  simp [go_sem, *] at q1c1_8
  have q1c1_9 := hb.cell (p := ⟨w.heap.size + 1, 9, none⟩) (by first | omega | (simp <;> omega))
  simp [go_sem, *] at q1c1_9
  have q1f1 := fun o => hb.frozen (p := ⟨w.heap.size + 1, o, none⟩) (by first | omega | (simp <;> omega))
  simp [go_sem, *] at q1f1
  have q1o : ∀ b o, b < w.heap.size → w1.cell? ⟨b, o, none⟩ = w.cell? ⟨b, o, none⟩ := fun b o h => q1B.cell (p := ⟨b, o, none⟩) h
  clear hb
  go_wp2_with fail
  go_ret
  exact ⟨rfl, q1B⟩
end Go.Proofs.YtdjhkhadjmndoaaDoor
