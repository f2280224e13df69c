/- Texts laid together: TpB. -/
import Derived.Test.YtpghciiifnjimaaGreatDoorXEza
import Derived.Test.YtpghciiifnjimaaGreatDoorXK0
namespace Go.Proofs.YtpghciiifnjimaaGreatDoor
set_option maxRecDepth 4000
set_option linter.unusedSimpArgs false
set_option linter.unusedVariables false
open Go.RowKit
theorem RowT.all {w : World} {e : Nat} {A : Option Addr} {n : Nat} {c : Nat → Nat → Tr} {C : Nat → Nat → Value} (h : RowT (Old w) w e A n c C) (h0 : 0 < (tbl e).length) (hn : 0 < n) :
  ∃ b off, A = some ⟨b, off, none⟩ ∧ b < w.heap.size ∧ ∀ k j, k < n → j < (tbl e).length → w.cell? ⟨b, off + k * (tbl e).length + j, none⟩ = some (C k j) := by
 obtain ⟨b, off, ha, hS, hc⟩ := h.row hn
 exact ⟨b, off, ha, hS, fun k j hk hj => by rw [Nat.add_assoc]; exact hc k j hk hj⟩
theorem RowT.pre {S : Nat → Prop} {w : World} {e : Nat} {A : Option Addr} {n m : Nat} {c : Nat → Nat → Tr} {C : Nat → Nat → Value} (h : RowT S w e A n c C) (hm : m ≤ n) : RowT S w e A m c C :=
 ⟨fun h0 => by
  obtain ⟨b, off, ha, hS, hc⟩ := h.row (by omega)
  exact ⟨b, off, ha, hS, fun k j hk hj => hc k j (by omega) hj⟩, fun k j hk hj => h.rd k j (by omega) hj⟩
theorem RowK.pre {e n m : Nat} {c : Nat → Nat → Tr} (h : RowK e n c) (hm : m ≤ n) : RowK e m c :=
 ⟨Nat.le_trans (Nat.mul_le_mul_right _ hm) h.room, fun k j hk hj => h.wt k j (by omega) hj⟩
/-- A loop that counts to n, over what it makes and what was there. -/
def KB (n : Nat) (W : World) (v : Value) (wr : World) : Prop := ∃ k : Nat, k ≤ n ∧ v = .int .i64 k ∧ Below W.heap.size W wr
set_option maxRecDepth 8000 in
set_option maxHeartbeats 4000000 in
theorem wfind3_any (A : Option Addr) (n cap : Nat) (c : Nat → Nat → Tr) (C : Nat → Nat → Value) (hk : RowK 1 n c) (x : ByteArray) (w : World) (hA : RowT (Old w) w 1 A n c C) :
  Calls Tryz.prog 146 #[.slice A n cap, .string x] w fun r w' => (∃ s0 z1 b, r = .returned (.tuple #[.agg #[.string s0, .int .i64 z1], .bool b])) ∧ Below w.heap.size w w' := by
 have HK := hide hk
 have HA := hide hA
 have hn : n ≤ 140737488351232 := by have := hk.room; simp only [tby] at this; omega
 clear hk hA
 go_enter Tryz.func146, Tryz.ntmps146
 go_wp2_with fail
 go_loopw [6] (fun v wr => KB n (w.alloc (.cells #[.string ⟨#[]⟩, .int .i64 0] 145)) v wr) (fun v _ => n - (intOf v).toNat)
 case atStart => exact ⟨0, by omega, rfl, Below.refl _ _⟩
 case round =>
  obtain ⟨k, hkn, rfl, hb⟩ := hrel
  have H0 := hide hb
  have q1B : Below w.heap.size w wr := qB hb
  have q1z := hb.size
  try simp at q1z
  have q1t : w.heap.size ≤ wr.heap.size := (by omega)
  obtain ⟨q1s0, q1n0_0, q1n0_1, q1n0_2⟩ := kB wr.heap.size w.heap.size
  obtain ⟨q1c0_0, q1c0_1, q1f0⟩ := kC2 hb w.heap.size
  simp [go_sem, *] at q1c0_0 q1c0_1 q1f0
  have q1o := belO q1B
  clear hb
  have BL := hide q1B
  by_cases hlt : k < n
  ·have hm : (k : Int) < n := by omega
   have hk0 : (0 : Int) ≤ k := by omega
   have HLT := hide hlt
   obtain ⟨b, off, rfl, hbl, hc⟩ := (HA.out.below q1B).all (by decide) (by omega)
   obtain ⟨s0, _, e0, _⟩ := rd_str (HA.out.rd (k) 0 hlt (by decide)) (HK.out.wt (k) 0 hlt (by decide))
   have c0 : wr.cell? ⟨b, off + k * 2, none⟩ = some (.string s0) := by have hcc := hc (k) 0 hlt (by decide); rw [e0] at hcc; exact hcc
   clear e0
   obtain ⟨z1, _, e1, i1⟩ := rd_int (HA.out.rd (k) 1 hlt (by decide)) (HK.out.wt (k) 1 hlt (by decide))
   have c1 : wr.cell? ⟨b, off + k * 2 + 1, none⟩ = some (.int .i64 z1) := by have hcc := hc (k) 1 hlt (by decide); rw [e1] at hcc; exact hcc
   clear e1
   clear hc hlt hkn
   go_wp2_with fail
   all_goals first
    | (go_roundw; (case rel => exact ⟨k + 1, HLT.out, by go_num, H0.out⟩); (case measure => have := HLT.out; simp [intOf]; omega))
    | (refine bodyPost_ret (by simp [results, Tryz.results146, go_sem, *] <;> rfl) rfl ?_; exact ⟨⟨_, _, _, rfl⟩, by (repeat (first | (with_reducible first | exact Below.refl _ _ | assumption | refine Below.drew ?_) | ((with_reducible first | refine Below.alloc ?_ ?_ _ | refine Below.setCell ?_ ?_ _); rotate_left; (first | omega | (simp <;> omega)))))⟩)
  ·obtain rfl : k = n := by omega
   clear hlt hkn
   go_wp2_with fail
   refine bodyPost_ret (by simp [results, Tryz.results146, go_sem, *] <;> rfl) rfl ?_
   exact ⟨⟨_, _, _, rfl⟩, by (repeat (first | (with_reducible first | exact Below.refl _ _ | assumption | refine Below.drew ?_) | ((with_reducible first | refine Below.alloc ?_ ?_ _ | refine Below.setCell ?_ ?_ _); rotate_left; (first | omega | (simp <;> omega)))))⟩
set_option maxRecDepth 8000 in
set_option maxHeartbeats 4000000 in
theorem wfind5_any (A : Option Addr) (n cap : Nat) (c : Nat → Nat → Tr) (C : Nat → Nat → Value) (hk : RowK 2 n c) (x : ByteArray) (w : World) (hA : RowT (Old w) w 2 A n c C) :
  Calls Tryz.prog 147 #[.slice A n cap, .string x] w fun r w' => (∃ s0 A1 n1 p1 A2 n2 p2 b, r = .returned (.tuple #[.agg #[.string s0, .slice A1 n1 p1, .slice A2 n2 p2], .bool b])) ∧ Below w.heap.size w w' := by
 have HK := hide hk
 have HA := hide hA
 have hn : n ≤ 140737488351232 := by have := hk.room; simp only [tby] at this; omega
 clear hk hA
 go_enter Tryz.func147, Tryz.ntmps147
 go_wp2_with fail
 go_loopw [6] (fun v wr => KB n (w.alloc (.cells #[.string ⟨#[]⟩, .slice none 0 0, .slice none 0 0] 99)) v wr) (fun v _ => n - (intOf v).toNat)
 case atStart => exact ⟨0, by omega, rfl, Below.refl _ _⟩
 case round =>
  obtain ⟨k, hkn, rfl, hb⟩ := hrel
  have H0 := hide hb
  have q1B : Below w.heap.size w wr := qB hb
  have q1z := hb.size
  try simp at q1z
  have q1t : w.heap.size ≤ wr.heap.size := (by omega)
  obtain ⟨q1s0, q1n0_0, q1n0_1, q1n0_2⟩ := kB wr.heap.size w.heap.size
  obtain ⟨q1c0_0, q1c0_1, q1c0_2, q1f0⟩ := kC3 hb w.heap.size
  simp [go_sem, *] at q1c0_0 q1c0_1 q1c0_2 q1f0
  have q1o := belO q1B
  clear hb
  have BL := hide q1B
  by_cases hlt : k < n
  ·have hm : (k : Int) < n := by omega
   have hk0 : (0 : Int) ≤ k := by omega
   have HLT := hide hlt
   obtain ⟨b, off, rfl, hbl, hc⟩ := (HA.out.below q1B).all (by decide) (by omega)
   obtain ⟨s0, _, e0, _⟩ := rd_str (HA.out.rd (k) 0 hlt (by decide)) (HK.out.wt (k) 0 hlt (by decide))
   have c0 : wr.cell? ⟨b, off + k * 3, none⟩ = some (.string s0) := by have hcc := hc (k) 0 hlt (by decide); rw [e0] at hcc; exact hcc
   clear e0
   obtain ⟨n1, k1, q1, hk1, A1, p1, C1, e1, _, hA1⟩ := rd_row (e := 0) (HA.out.rd (k) 1 hlt (by decide)) (HK.out.wt (k) 1 hlt (by decide))
   have c1 : wr.cell? ⟨b, off + k * 3 + 1, none⟩ = some (.slice A1 n1 p1) := by have hcc := hc (k) 1 hlt (by decide); rw [e1] at hcc; exact hcc
   clear e1
   obtain ⟨n2, k2, q2, hk2, A2, p2, C2, e2, _, hA2⟩ := rd_row (e := 0) (HA.out.rd (k) 2 hlt (by decide)) (HK.out.wt (k) 2 hlt (by decide))
   have c2 : wr.cell? ⟨b, off + k * 3 + 2, none⟩ = some (.slice A2 n2 p2) := by have hcc := hc (k) 2 hlt (by decide); rw [e2] at hcc; exact hcc
   clear e2
   clear hc hlt hkn
   go_wp2_with fail
   all_goals first
    | (go_roundw; (case rel => exact ⟨k + 1, HLT.out, by go_num, H0.out⟩); (case measure => have := HLT.out; simp [intOf]; omega))
    | (refine bodyPost_ret (by simp [results, Tryz.results147, go_sem, *] <;> rfl) rfl ?_; exact ⟨⟨_, _, _, _, _, _, _, _, rfl⟩, by (repeat (first | (with_reducible first | exact Below.refl _ _ | assumption | refine Below.drew ?_) | ((with_reducible first | refine Below.alloc ?_ ?_ _ | refine Below.setCell ?_ ?_ _); rotate_left; (first | omega | (simp <;> omega)))))⟩)
  ·obtain rfl : k = n := by omega
   clear hlt hkn
   go_wp2_with fail
   refine bodyPost_ret (by simp [results, Tryz.results147, go_sem, *] <;> rfl) rfl ?_
   exact ⟨⟨_, _, _, _, _, _, _, _, rfl⟩, by (repeat (first | (with_reducible first | exact Below.refl _ _ | assumption | refine Below.drew ?_) | ((with_reducible first | refine Below.alloc ?_ ?_ _ | refine Below.setCell ?_ ?_ _); rotate_left; (first | omega | (simp <;> omega)))))⟩
set_option maxRecDepth 8000 in
set_option maxHeartbeats 4000000 in
theorem wfind18_any (A : Option Addr) (n cap : Nat) (c : Nat → Nat → Tr) (C : Nat → Nat → Value) (hk : RowK 3 n c) (x : Int) (w : World) (hA : RowT (Old w) w 3 A n c C) :
  Calls Tryz.prog 86 #[.slice A n cap, .int .i64 x] w fun r w' => (∃ z0 z1 z2 s3 b, r = .returned (.tuple #[.agg #[.int .i64 z0, .int .i64 z1, .int .i64 z2, .string s3], .bool b])) ∧ Below w.heap.size w w' := by
 have HK := hide hk
 have HA := hide hA
 have hn : n ≤ 140737488351232 := by have := hk.room; simp only [tby] at this; omega
 clear hk hA
 go_enter Tryz.func86, Tryz.ntmps86
 go_wp2_with fail
 go_loopw [6] (fun v wr => KB n (w.alloc (.cells #[.int .i64 0, .int .i64 0, .int .i64 0, .string ⟨#[]⟩] 148)) v wr) (fun v _ => n - (intOf v).toNat)
 case atStart => exact ⟨0, by omega, rfl, Below.refl _ _⟩
 case round =>
  obtain ⟨k, hkn, rfl, hb⟩ := hrel
  have H0 := hide hb
  have q1B : Below w.heap.size w wr := qB hb
  have q1z := hb.size
  try simp at q1z
  have q1t : w.heap.size ≤ wr.heap.size := (by omega)
  obtain ⟨q1s0, q1n0_0, q1n0_1, q1n0_2⟩ := kB wr.heap.size w.heap.size
  obtain ⟨q1c0_0, q1c0_1, q1c0_2, q1c0_3, q1f0⟩ := kC4 hb w.heap.size
  simp [go_sem, *] at q1c0_0 q1c0_1 q1c0_2 q1c0_3 q1f0
  have q1o := belO q1B
  clear hb
  have BL := hide q1B
  by_cases hlt : k < n
  ·have hm : (k : Int) < n := by omega
   have hk0 : (0 : Int) ≤ k := by omega
   have HLT := hide hlt
   obtain ⟨b, off, rfl, hbl, hc⟩ := (HA.out.below q1B).all (by decide) (by omega)
   obtain ⟨z0, _, e0, i0⟩ := rd_int (HA.out.rd (k) 0 hlt (by decide)) (HK.out.wt (k) 0 hlt (by decide))
   have c0 : wr.cell? ⟨b, off + k * 4, none⟩ = some (.int .i64 z0) := by have hcc := hc (k) 0 hlt (by decide); rw [e0] at hcc; exact hcc
   clear e0
   obtain ⟨z1, _, e1, i1⟩ := rd_int (HA.out.rd (k) 1 hlt (by decide)) (HK.out.wt (k) 1 hlt (by decide))
   have c1 : wr.cell? ⟨b, off + k * 4 + 1, none⟩ = some (.int .i64 z1) := by have hcc := hc (k) 1 hlt (by decide); rw [e1] at hcc; exact hcc
   clear e1
   obtain ⟨z2, _, e2, i2⟩ := rd_int (HA.out.rd (k) 2 hlt (by decide)) (HK.out.wt (k) 2 hlt (by decide))
   have c2 : wr.cell? ⟨b, off + k * 4 + 2, none⟩ = some (.int .i64 z2) := by have hcc := hc (k) 2 hlt (by decide); rw [e2] at hcc; exact hcc
   clear e2
   obtain ⟨s3, _, e3, _⟩ := rd_str (HA.out.rd (k) 3 hlt (by decide)) (HK.out.wt (k) 3 hlt (by decide))
   have c3 : wr.cell? ⟨b, off + k * 4 + 3, none⟩ = some (.string s3) := by have hcc := hc (k) 3 hlt (by decide); rw [e3] at hcc; exact hcc
   clear e3
   clear hc hlt hkn
   go_wp2_with fail
   all_goals first
    | (go_roundw; (case rel => exact ⟨k + 1, HLT.out, by go_num, H0.out⟩); (case measure => have := HLT.out; simp [intOf]; omega))
    | (refine bodyPost_ret (by simp [results, Tryz.results86, go_sem, *] <;> rfl) rfl ?_; exact ⟨⟨_, _, _, _, _, rfl⟩, by (repeat (first | (with_reducible first | exact Below.refl _ _ | assumption | refine Below.drew ?_) | ((with_reducible first | refine Below.alloc ?_ ?_ _ | refine Below.setCell ?_ ?_ _); rotate_left; (first | omega | (simp <;> omega)))))⟩)
  ·obtain rfl : k = n := by omega
   clear hlt hkn
   go_wp2_with fail
   refine bodyPost_ret (by simp [results, Tryz.results86, go_sem, *] <;> rfl) rfl ?_
   exact ⟨⟨_, _, _, _, _, rfl⟩, by (repeat (first | (with_reducible first | exact Below.refl _ _ | assumption | refine Below.drew ?_) | ((with_reducible first | refine Below.alloc ?_ ?_ _ | refine Below.setCell ?_ ?_ _); rotate_left; (first | omega | (simp <;> omega)))))⟩
set_option maxRecDepth 8000 in
set_option maxHeartbeats 4000000 in
theorem wpar18_any (A : Option Addr) (n cap : Nat) (c : Nat → Nat → Tr) (C : Nat → Nat → Value) (hk : RowK 3 n c) (x : Int) (w : World) (hA : RowT (Old w) w 3 A n c C) :
  Calls Tryz.prog 143 #[.slice A n cap, .int .i64 x] w (SomB w) := by
 have HK := hide hk
 have HA := hide hA
 have hn : n ≤ 140737488351232 := by have := hk.room; simp only [tby] at this; omega
 clear hk hA
 go_enter Tryz.func143, Tryz.ntmps143
 go_wp2_with fail
 go_loopw [5] (fun v wr => KB n w v wr) (fun v _ => n - (intOf v).toNat)
 case atStart => exact ⟨0, by omega, rfl, Below.refl _ _⟩
 case round =>
  obtain ⟨k, hkn, rfl, hb⟩ := hrel
  have H0 := hide hb
  by_cases hlt : k < n
  ·have hm : (k : Int) < n := by omega
   have hk0 : (0 : Int) ≤ k := by omega
   have HLT := hide hlt
   obtain ⟨b, off, rfl, hbl, hc⟩ := (HA.out.below hb).all (by decide) (by omega)
   obtain ⟨z1, _, e1, i1⟩ := rd_int (HA.out.rd (k) 1 hlt (by decide)) (HK.out.wt (k) 1 hlt (by decide))
   have c1 : wr.cell? ⟨b, off + k * 4 + 1, none⟩ = some (.int .i64 z1) := by have hcc := hc (k) 1 hlt (by decide); rw [e1] at hcc; exact hcc
   clear e1
   clear hc hlt hkn hb
   go_wp2_with fail
   all_goals first
    | (go_roundw; (case rel => exact ⟨k + 1, HLT.out, by go_num, H0.out⟩); (case measure => have := HLT.out; simp [intOf]; omega))
    | (go_ret; exact ⟨⟨_, rfl⟩, H0.out⟩)
  ·obtain rfl : k = n := by omega
   clear hlt hkn
   go_wp2_with fail
   go_ret
   exact ⟨⟨_, rfl⟩, H0.out⟩
set_option maxRecDepth 8000 in
set_option maxHeartbeats 4000000 in
theorem wpar26_any (A : Option Addr) (n cap : Nat) (c : Nat → Nat → Tr) (C : Nat → Nat → Value) (hk : RowK 3 n c) (x : Int) (w : World) (hA : RowT (Old w) w 3 A n c C) :
  Calls Tryz.prog 202 #[.slice A n cap, .int .i64 x] w (SomB w) := by
 have HK := hide hk
 have HA := hide hA
 have hn : n ≤ 140737488351232 := by have := hk.room; simp only [tby] at this; omega
 clear hk hA
 go_enter Tryz.func202, Tryz.ntmps202
 go_wp2_with fail
 go_loopw [5] (fun v wr => KB n w v wr) (fun v _ => n - (intOf v).toNat)
 case atStart => exact ⟨0, by omega, rfl, Below.refl _ _⟩
 case round =>
  obtain ⟨k, hkn, rfl, hb⟩ := hrel
  have H0 := hide hb
  by_cases hlt : k < n
  ·have hm : (k : Int) < n := by omega
   have hk0 : (0 : Int) ≤ k := by omega
   have HLT := hide hlt
   obtain ⟨b, off, rfl, hbl, hc⟩ := (HA.out.below hb).all (by decide) (by omega)
   obtain ⟨z1, _, e1, i1⟩ := rd_int (HA.out.rd (k) 1 hlt (by decide)) (HK.out.wt (k) 1 hlt (by decide))
   have c1 : wr.cell? ⟨b, off + k * 4 + 1, none⟩ = some (.int .i64 z1) := by have hcc := hc (k) 1 hlt (by decide); rw [e1] at hcc; exact hcc
   clear e1
   clear hc hlt hkn hb
   go_wp2_with fail
   all_goals first
    | (go_roundw; (case rel => exact ⟨k + 1, HLT.out, by go_num, H0.out⟩); (case measure => have := HLT.out; simp [intOf]; omega))
    | (go_ret; exact ⟨⟨_, rfl⟩, H0.out⟩)
  ·obtain rfl : k = n := by omega
   clear hlt hkn
   go_wp2_with fail
   go_ret
   exact ⟨⟨_, rfl⟩, H0.out⟩
set_option maxRecDepth 8000 in
set_option maxHeartbeats 4000000 in
theorem wnamed22_any (A : Option Addr) (n cap : Nat) (c : Nat → Nat → Tr) (C : Nat → Nat → Value) (hk : RowK 12 n c) (x : ByteArray) (w : World) (hA : RowT (Old w) w 12 A n c C) :
  Calls Tryz.prog 96 #[.slice A n cap, .string x] w (SomB w) := by
 have HK := hide hk
 have HA := hide hA
 have hn : n ≤ 140737488351232 := by have := hk.room; simp only [tby] at this; omega
 clear hk hA
 go_enter Tryz.func96, Tryz.ntmps96
 go_wp2_with fail
 go_loopw [5] (fun v wr => KB n w v wr) (fun v _ => n - (intOf v).toNat)
 case atStart => exact ⟨0, by omega, rfl, Below.refl _ _⟩
 case round =>
  obtain ⟨k, hkn, rfl, hb⟩ := hrel
  have H0 := hide hb
  by_cases hlt : k < n
  ·have hm : (k : Int) < n := by omega
   have hk0 : (0 : Int) ≤ k := by omega
   have HLT := hide hlt
   obtain ⟨b, off, rfl, hbl, hc⟩ := (HA.out.below hb).all (by decide) (by omega)
   obtain ⟨s5, _, e5, _⟩ := rd_str (HA.out.rd (k) 5 hlt (by decide)) (HK.out.wt (k) 5 hlt (by decide))
   have c5 : wr.cell? ⟨b, off + k * 6 + 5, none⟩ = some (.string s5) := by have hcc := hc (k) 5 hlt (by decide); rw [e5] at hcc; exact hcc
   clear e5
   clear hc hlt hkn hb
   go_wp2_with fail
   all_goals first
    | (go_roundw; (case rel => exact ⟨k + 1, HLT.out, by go_num, H0.out⟩); (case measure => have := HLT.out; simp [intOf]; omega))
    | (go_ret; exact ⟨⟨_, rfl⟩, H0.out⟩)
  ·obtain rfl : k = n := by omega
   clear hlt hkn
   go_wp2_with fail
   go_ret
   exact ⟨⟨_, rfl⟩, H0.out⟩
end Go.Proofs.YtpghciiifnjimaaGreatDoor
