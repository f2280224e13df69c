/- Texts laid together: TpD TpE. -/
import Derived.Test.YtpghciiifnjimaaGreatDoorXTpC
import Derived.Deep.MidRow
import Derived.Test.YtpghciiifnjimaaGreatDoorXK0
namespace Go.Proofs.YtpghciiifnjimaaGreatDoor
set_option maxRecDepth 4000
set_option linter.unusedSimpArgs false
set_option linter.unusedVariables false
open Go.RowKit
/-- A loop that counts from l to n. -/
def KL (l n : Nat) (W : World) (v : Value) (wr : World) : Prop := ∃ k : Nat, l ≤ k ∧ k ≤ n ∧ v = .int .i64 k ∧ Below W.heap.size W wr
theorem tk_row {P : Program} {op : Oper} {a : Act} {w : World} (ty : TypeId) (x : Operand) (ho : op.op = .load ty x) (b o : Nat) (hx : a.eval x = .pointer (some ⟨b, o, none⟩)) (C : Array Value) (d : TypeDesc) (hc : w.rangeAt b o C.toList) (hu : P.underlying ty = some d) (hd : d.isRow = true) (hi : (P.info? ty).map (·.size) = some C.size) : (execOp a.eval op).run P w = .ok (.value (.agg C)) w := by
 have h := run_loadAt_mid w b o ty C.toList d hc hu hd (by simpa using hi)
 rw [Array.toArray_toList] at h
 unfold execOp
 simp only [ho, hx, Sem.run_bind, h, Sem.run_pure, Result.andThen_ok]
theorem rg_mid {N : Nat} {W wx : World} {b o : Nat} {X : Array Value} (hS : SB N [] W wx) (hb : b < N) (h : ∀ j v, X[j]? = some v → W.cell? ⟨b, o + j, none⟩ = some v) : wx.rangeAt b o X.toList := fun j v hv => by
 rw [hS b (o + j) hb (by simp)]
 exact h j v (by simpa using hv)
set_option maxRecDepth 8000 in
set_option maxHeartbeats 8000000 in
theorem wrises_any (A : Option Addr) (n cap : Nat) (c : Nat → Nat → Tr) (C : Nat → Nat → Value) (hk : RowK 0 n c) (w : World) (hA : RowT (Old w) w 0 A n c C) :
  Calls Tryz.prog 142 #[.slice A n cap] w (SomB w) := by
 have HK := hide hk
 have HA := hide hA
 have hn : n ≤ 140737488351232 := by have := hk.room; simp only [tby] at this; omega
 clear hk hA
 go_enter Tryz.func142, Tryz.ntmps142
 go_wp2_with fail
 go_loopw [3] (fun v wr => KL 1 (n + 1) w v wr) (fun v _ => n - (intOf v).toNat)
 case atStart => exact ⟨1, by omega, by omega, rfl, by (repeat (first | (with_reducible first | exact Below.refl _ _ | assumption | refine Below.drew ?_) | ((with_reducible first | refine Below.alloc ?_ ?_ _ | refine Below.setCell ?_ ?_ _); rotate_left; (first | omega | (simp <;> omega)))))⟩
 case round =>
  obtain ⟨k, hk1, hkn, rfl, hb⟩ := hrel
  have H0 := hide hb
  have HL1 := hide hk1
  by_cases hlt : k < n
  ·have hm : (k : Int) < n := by omega
   have hk0 : (0 : Int) ≤ k := by omega
   have HLT := hide hlt
   obtain ⟨b, off, rfl, hbl, hc⟩ := (HA.out.below hb).all (by decide) (by omega)
   obtain ⟨z0, _, e0, i0⟩ := rd_int (HA.out.rd (k) 0 hlt (by decide)) (HK.out.wt (k) 0 hlt (by decide))
   have c0 : wr.cell? ⟨b, off + k, none⟩ = some (.int .i64 z0) := by have hcc := hc (k) 0 hlt (by decide); rw [e0] at hcc; simpa [tbl] using hcc
   clear e0
   obtain ⟨kk, hkk⟩ : ∃ kk, k = kk + 1 := ⟨k - 1, by omega⟩
   have d8 : decide (0 < k) = true := decide_eq_true (by omega)
   have n1 : IntKind.i64.wrap ((k : Int) - 1) = (kk : Int) := by rw [i64w]; unfold wrap64; have := HLT.out; omega
   have hkk0 : (0 : Int) ≤ kk := by omega
   have hkk1 : (kk : Int) < n := by have := HLT.out; omega
   have HKN := hide (show kk < n by have := HLT.out; omega)
   obtain ⟨pz0, _, pe0, pi0⟩ := rd_int (HA.out.rd (kk) 0 HKN.out (by decide)) (HK.out.wt (kk) 0 HKN.out (by decide))
   have pc0 : wr.cell? ⟨b, off + kk, none⟩ = some (.int .i64 pz0) := by have hcc := hc (kk) 0 HKN.out (by decide); rw [pe0] at hcc; simpa [tbl] using hcc
   clear pe0
   clear hlt hkn hb hc hkk hk1 HK HA
   go_wp2_with fail
   refine ord_start (SB (wr.heap.size) [] _) 10 (preB 0 10) (by kernel_rfl) (by kernel_rfl) (by kernel_rfl) SB.refl.drew (fun hHeld => ?_)
   refine oS (i := 0) (preB 1 9) rfl hHeld ?_
   (try simp only [Act.put, putS])
   refine oS (i := 1) (preB 2 8) rfl hHeld ?_
   (try simp only [Act.put, putS])
   refine oS (i := 2) (preB 3 7) rfl hHeld ?_
   (try simp only [Act.put, putS])
   refine oS (i := 3) (preB 4 6) rfl hHeld ?_
   (try simp only [Act.put, putS])
   refine oS (i := 4) (preB 5 5) rfl hHeld ?_
   (try simp only [Act.put, putS])
   refine oS (i := 5) (preB 6 4) rfl hHeld ?_
   (try simp only [Act.put, putS])
   refine oS (i := 6) (preB 7 3) rfl hHeld ?_
   (try simp only [Act.put, putS])
   refine oS (i := 7) (preB 8 2) rfl hHeld ?_
   (try simp only [Act.put, putS])
   refine oS (i := 8) (preB 9 1) rfl hHeld ?_
   (try simp only [Act.put, putS])
   refine oS (i := 9) (preB 10 0) rfl hHeld ?_
   (try simp only [Act.put, putS])
   refine wpAnyH_done (by kernel_rfl) ?_ _
   go_wp2_with fail
   all_goals first
    | (go_ret; exact ⟨⟨_, rfl⟩, H0.out.trans belT⟩)
    | (go_roundw; (case rel => exact ⟨k + 1, by have := HL1.out; omega, by have := HLT.out; omega, by go_num, H0.out.trans belT⟩); (case measure => have := HLT.out; simp [intOf]; omega))
  ·have hge : (n : Int) ≤ k := by omega
   clear hlt hkn
   go_wp2_with fail
   go_ret
   exact ⟨⟨_, rfl⟩, H0.out⟩
set_option maxRecDepth 8000 in
set_option maxHeartbeats 8000000 in
theorem wcheck5_any (s0 : ByteArray) (A1 : Option Addr) (n1 cap1 : Nat) (c1 : Nat → Nat → Tr) (C1 : Nat → Nat → Value) (hk1 : RowK 0 n1 c1) (A2 : Option Addr) (n2 cap2 : Nat) (c2 : Nat → Nat → Tr) (C2 : Nat → Nat → Value) (hk2 : RowK 0 n2 c2) (w : World) (hA1 : RowT (Old w) w 0 A1 n1 c1 C1) (hA2 : RowT (Old w) w 0 A2 n2 c2 C2) :
  Calls Tryz.prog 84 #[.agg #[.string s0, .slice A1 n1 cap1, .slice A2 n2 cap2]] w (SomE w) := by
 have HK1 := hide hk1
 have HA1 := hide hA1
 have hn1 : n1 ≤ 140737488351232 := by have := hk1.room; simp only [tby] at this; omega
 clear hk1 hA1
 have HK2 := hide hk2
 have HA2 := hide hA2
 have hn2 : n2 ≤ 140737488351232 := by have := hk2.room; simp only [tby] at this; omega
 clear hk2 hA2
 go_enter Tryz.func84, Tryz.ntmps84
 go_wp2_with fail
 refine (wname5_any s0 _).mono ?_
 rintro r w1 ⟨⟨b0, rfl⟩, hb⟩
 have q1B : Below w.heap.size w w1 := qB hb
 have q1z := hb.size
 try simp at q1z
 have q1t : w.heap.size ≤ w1.heap.size := (by omega)
 obtain ⟨q1s0, q1n0_0, q1n0_1, q1n0_2⟩ := kB w1.heap.size w.heap.size
 obtain ⟨q1c0_0, q1c0_1, q1c0_2, q1f0⟩ := kC3 hb w.heap.size
 simp [go_sem, *] at q1c0_0 q1c0_1 q1c0_2 q1f0
 have q1o := belO q1B
 clear hb
 have B1 := hide q1B
 cases b0 with
 | false =>
  go_wp2_with fail
  go_ret
  exact ⟨⟨_, rfl⟩, B1.out⟩
 | true =>
  go_wp2_with fail
  go_loopw [3] (fun v wr => KB n1 w1 v wr) (fun v _ => n1 - (intOf v).toNat)
  case atStart => exact ⟨0, by omega, rfl, Below.refl _ _⟩
  case round =>
   obtain ⟨k, hkn, rfl, hb⟩ := hrel
   have H0 := hide hb
   have q2B : Below w1.heap.size w1 wr := qB hb
   have q2z := hb.size
   try simp at q2z
   have q2t : w1.heap.size ≤ wr.heap.size := (by omega)
   obtain ⟨q2s0, q2n0_0, q2n0_1, q2n0_2⟩ := kB wr.heap.size w.heap.size
   obtain ⟨q2c0_0, q2c0_1, q2c0_2, q2f0⟩ := kC3 hb w.heap.size
   simp [go_sem, *] at q2c0_0 q2c0_1 q2c0_2 q2f0
   have q2o := belO q2B
   clear hb
   have BL := hide (show Below w.heap.size w wr from B1.out.trans (H0.out.mono B1.out.size))
   by_cases hlt : k < n1
   ·have hm : (k : Int) < n1 := by omega
    have hk0 : (0 : Int) ≤ k := by omega
    have HLT := hide hlt
    obtain ⟨b, off, rfl, hbl, hc⟩ := (HA1.out.below BL.out).all (by decide) (by omega)
    obtain ⟨z0, _, e0, i0⟩ := rd_int (HA1.out.rd (k) 0 hlt (by decide)) (HK1.out.wt (k) 0 hlt (by decide))
    have c0 : wr.cell? ⟨b, off + k, none⟩ = some (.int .i64 z0) := by have hcc := hc (k) 0 hlt (by decide); rw [e0] at hcc; simpa [tbl] using hcc
    clear e0
    clear hlt hkn hc
    go_wp2_with fail
    all_goals first
     | (go_ret; exact ⟨⟨_, rfl⟩, BL.out⟩)
     | (go_roundw; (case rel => exact ⟨k + 1, HLT.out, by go_num, H0.out⟩); (case measure => have := HLT.out; simp [intOf]; omega))
   ·obtain rfl : k = n1 := by omega
    clear hlt hkn
    by_cases h6 : (6 : Int) < k
    ·go_wp2_with fail
     go_ret
     exact ⟨⟨_, rfl⟩, BL.out⟩
    go_wp2_with fail
    refine (wrises_any A1 k cap1 c1 C1 HK1.out _ (HA1.out.below BL.out)).mono ?_
    rintro r w3 ⟨⟨b3, rfl⟩, hb⟩
    have q3B : Below wr.heap.size wr w3 := qB hb
    have q3z := hb.size
    try simp at q3z
    have q3t : wr.heap.size ≤ w3.heap.size := (by omega)
    obtain ⟨q3s0, q3n0_0, q3n0_1, q3n0_2⟩ := kB w3.heap.size w.heap.size
    obtain ⟨q3c0_0, q3c0_1, q3c0_2, q3f0⟩ := kC3 hb w.heap.size
    simp [go_sem, *] at q3c0_0 q3c0_1 q3c0_2 q3f0
    have q3o := belO q3B
    clear hb q2o q2f0 q2c0_2 q2c0_1 q2c0_0 q2s0 q2z q2B
    have B3 := hide (show Below w.heap.size w w3 from BL.out.trans (q3B.mono BL.out.size))
    cases b3 with
    | false =>
     go_wp2_with fail
     go_ret
     exact ⟨⟨_, rfl⟩, B3.out⟩
    | true =>
     by_cases h7 : (400 : Int) < n2
     ·go_wp2_with fail
      go_ret
      exact ⟨⟨_, rfl⟩, B3.out⟩
     go_wp2_with fail
     go_loopw [4] (fun v wr => KB n2 w3 v wr) (fun v _ => n2 - (intOf v).toNat)
     case atStart => exact ⟨0, by omega, rfl, Below.refl _ _⟩
     case round =>
      obtain ⟨j, hjn, rfl, hb⟩ := hrel
      have H4 := hide hb
      have q4B : Below w3.heap.size w3 wr := qB hb
      have q4z := hb.size
      try simp at q4z
      have q4t : w3.heap.size ≤ wr.heap.size := (by omega)
      obtain ⟨q4s0, q4n0_0, q4n0_1, q4n0_2⟩ := kB wr.heap.size w.heap.size
      obtain ⟨q4c0_0, q4c0_1, q4c0_2, q4f0⟩ := kC3 hb w.heap.size
      simp [go_sem, *] at q4c0_0 q4c0_1 q4c0_2 q4f0
      have q4o := belO q4B
      clear hb q3o q3f0 q3c0_2 q3c0_1 q3c0_0 q3s0 q3z q3B
      have BM := hide (show Below w.heap.size w wr from B3.out.trans (H4.out.mono B3.out.size))
      by_cases hjt : j < n2
      ·have hm : (j : Int) < n2 := by omega
       have hk0 : (0 : Int) ≤ j := by omega
       have HLT := hide hjt
       obtain ⟨b, off, rfl, hbl, hc⟩ := (HA2.out.below BM.out).all (by decide) (by omega)
       obtain ⟨z0, _, e0, i0⟩ := rd_int (HA2.out.rd (j) 0 hjt (by decide)) (HK2.out.wt (j) 0 hjt (by decide))
       have c0 : wr.cell? ⟨b, off + j, none⟩ = some (.int .i64 z0) := by have hcc := hc (j) 0 hjt (by decide); rw [e0] at hcc; simpa [tbl] using hcc
       clear e0
       clear hjt hjn hc
       go_wp2_with (go_at_call 90; refine (rvalid_any _ _).mono ?_; rintro r w5 ⟨rfl, rfl⟩)
       all_goals first
        | (go_ret; exact ⟨⟨_, rfl⟩, BM.out⟩)
        | (go_roundw; (case rel => exact ⟨j + 1, HLT.out, by go_num, H4.out⟩); (case measure => have := HLT.out; simp [intOf]; omega))
      ·obtain rfl : j = n2 := by omega
       clear hjt hjn
       go_wp2_with fail
       refine (wrises_any A2 j cap2 c2 C2 HK2.out _ (HA2.out.below BM.out)).mono ?_
       rintro r w6 ⟨⟨b6, rfl⟩, hb⟩
       have B6 := hide (show Below w.heap.size w w6 from BM.out.trans (hb.mono BM.out.size))
       clear hb
       cases b6 with
       | false =>
        go_wp2_with fail
        go_ret
        exact ⟨⟨_, rfl⟩, B6.out⟩
       | true =>
        go_wp2_with fail
        go_ret
        exact ⟨⟨_, rfl⟩, B6.out⟩
end Go.Proofs.YtpghciiifnjimaaGreatDoor
namespace Go.Proofs.YtpghciiifnjimaaGreatDoor
set_option maxRecDepth 4000
set_option linter.unusedSimpArgs false
set_option linter.unusedVariables false
open Go.RowKit
theorem ints_at (l : List Int) {k : Nat} (h : k < l.length) : (l.map (Value.int .i64)).toArray[k]? = some (.int .i64 l[k]) := by simp [h]
theorem BelA {n : Nat} (w : World) (o : Obj) (h : n ≤ w.heap.size) : Below n w (w.alloc o) := Below.alloc (Below.refl _ _) h _
theorem cell_blk {w : World} {b k : Nat} {C : Array Value} {t : TypeId} {v : Value} (h : w.heap[b]? = some (.cells C t (0, 0))) (hv : C[k]? = some v) : w.cell? ⟨b, k, none⟩ = some v := by rw [cell_of_cells h]; exact hv
set_option maxRecDepth 8000 in
set_option maxHeartbeats 8000000 in
theorem wcals_any (A : Option Addr) (n cap : Nat) (c : Nat → Nat → Tr) (C : Nat → Nat → Value) (hk : RowK 2 n c) (w : World) (hA : RowT (Old w) w 2 A n c C) :
  Calls Tryz.prog 41 #[.slice A n cap] w (SomE w) := by
 have HK := hide hk
 have HA := hide hA
 have hn : n ≤ 140737488351232 := by have := hk.room; simp only [tby] at this; omega
 clear hk hA
 go_enter Tryz.func41, Tryz.ntmps41
 go_wp2_with fail
 go_loopw [3] (fun v wr => KB n w v wr) (fun v _ => n - (intOf v).toNat)
 case atStart => exact ⟨0, by omega, rfl, by (repeat (first | (with_reducible first | exact Below.refl _ _ | assumption | refine Below.drew ?_) | ((with_reducible first | refine Below.alloc ?_ ?_ _ | refine Below.setCell ?_ ?_ _); rotate_left; (first | omega | (simp <;> omega)))))⟩
 case round =>
  obtain ⟨k, hkn, rfl, hb⟩ := hrel
  have H0 := hide hb
  by_cases hlt : k < n
  ·have hm : (k : Int) < n := by omega
   have hk0 : (0 : Int) ≤ k := by omega
   have HLT := hide hlt
   obtain ⟨b, off, rfl, hbl, hc⟩ := (HA.out.below hb).all (by decide) (by omega)
   have HAW := hide (HA.out.below hb)
   obtain ⟨s0, _, e0, _⟩ := rd_str (HAW.out.rd (k) 0 hlt (by decide)) (HK.out.wt (k) 0 hlt (by decide))
   have c0 : wr.cell? ⟨b, off + k * 3, none⟩ = some (.string s0) := by have hcc := hc (k) 0 hlt (by decide); rw [e0] at hcc; exact hcc
   clear e0
   obtain ⟨n1, k1, q1, hk1, A1, p1, C1, e1, _, hA1⟩ := rd_row (e := 0) (HAW.out.rd (k) 1 hlt (by decide)) (HK.out.wt (k) 1 hlt (by decide))
   have c1 : wr.cell? ⟨b, off + k * 3 + 1, none⟩ = some (.slice A1 n1 p1) := by have hcc := hc (k) 1 hlt (by decide); rw [e1] at hcc; exact hcc
   clear e1
   obtain ⟨n2, k2, q2, hk2, A2, p2, C2, e2, _, hA2⟩ := rd_row (e := 0) (HAW.out.rd (k) 2 hlt (by decide)) (HK.out.wt (k) 2 hlt (by decide))
   have c2 : wr.cell? ⟨b, off + k * 3 + 2, none⟩ = some (.slice A2 n2 p2) := by have hcc := hc (k) 2 hlt (by decide); rw [e2] at hcc; exact hcc
   clear e2
   have HK1 := hide hk1
   have HK2 := hide hk2
   have HA1 := hide hA1
   have HA2 := hide hA2
   clear hk1 hk2 hA1 hA2 hlt hkn hb
   by_cases hkz : 0 < k
   ·obtain ⟨kk, hkk⟩ : ∃ kk, k = kk + 1 := ⟨k - 1, by omega⟩
    have d8 : decide (0 < k) = true := decide_eq_true (by omega)
    have nw1 : IntKind.i64.wrap ((k : Int) - 1) = (kk : Int) := by rw [i64w]; unfold wrap64; have := HLT.out; omega
    have hkk0 : (0 : Int) ≤ kk := by omega
    have hkk1 : (kk : Int) < n := by have := HLT.out; omega
    have HKN := hide (show kk < n by have := HLT.out; omega)
    obtain ⟨ps0, _, pe0, _⟩ := rd_str (HA.out.rd (kk) 0 HKN.out (by decide)) (HK.out.wt (kk) 0 HKN.out (by decide))
    have pc0 : wr.cell? ⟨b, off + kk * 3, none⟩ = some (.string ps0) := by have hcc := hc (kk) 0 HKN.out (by decide); rw [pe0] at hcc; exact hcc
    clear pe0
    have HBL := hide hbl
    clear hc hbl hkz hkk
    go_wp2_with fail
    refine (wcheck5_any s0 A1 n1 p1 k1 C1 HK1.out A2 n2 p2 k2 C2 HK2.out _ HA1.out HA2.out).mono ?_
    rintro r w1 ⟨⟨b0, rfl⟩, hb⟩
    have B1 := hide (show Below w.heap.size w w1 from H0.out.trans (hb.mono H0.out.size))
    have d0 := (hb.cell (p := ⟨b, off + k * 3, none⟩) HBL.out).trans c0
    have pd0 := (hb.cell (p := ⟨b, off + kk * 3, none⟩) HBL.out).trans pc0
    have hbl : b < w1.heap.size := Nat.lt_of_lt_of_le HBL.out hb.size
    clear hb c0 c1 c2 pc0
    go_wp2_with fail
    all_goals try (go_ret; exact ⟨⟨_, rfl⟩, B1.out⟩)
    refine ord_start (SB (w1.heap.size) [] _) 16 (preB 0 16) (by kernel_rfl) (by kernel_rfl) (by kernel_rfl) SB.refl.drew (fun hHeld => ?_)
    refine oS (i := 0) (preB 1 15) rfl hHeld ?_
    (try simp only [Act.put, putS])
    refine oS (i := 1) (preB 2 14) rfl hHeld ?_
    (try simp only [Act.put, putS])
    refine oS (i := 2) (preB 3 13) rfl hHeld ?_
    (try simp only [Act.put, putS])
    refine oS (i := 3) (preB 4 12) rfl hHeld ?_
    (try simp only [Act.put, putS])
    refine oS (i := 4) (preB 5 11) rfl hHeld ?_
    (try simp only [Act.put, putS])
    refine oS (i := 5) (preB 6 10) rfl hHeld ?_
    (try simp only [Act.put, putS])
    refine oS (i := 6) (preB 7 9) rfl hHeld ?_
    (try simp only [Act.put, putS])
    refine oS (i := 7) (preB 8 8) rfl hHeld ?_
    (try simp only [Act.put, putS])
    refine oS (i := 8) (preB 9 7) rfl hHeld ?_
    (try simp only [Act.put, putS])
    refine oS (i := 9) (preB 10 6) rfl hHeld ?_
    (try simp only [Act.put, putS])
    refine oS (i := 10) (preB 11 5) rfl hHeld ?_
    (try simp only [Act.put, putS])
    refine oS (i := 11) (preB 12 4) rfl hHeld ?_
    (try simp only [Act.put, putS])
    refine oS (i := 12) (preB 13 3) rfl hHeld ?_
    (try simp only [Act.put, putS])
    refine oS (i := 13) (preB 14 2) rfl hHeld ?_
    (try simp only [Act.put, putS])
    refine oS (i := 14) (preB 15 1) rfl hHeld ?_
    (try simp only [Act.put, putS])
    refine oS (i := 15) (preB 16 0) rfl hHeld ?_
    (try simp only [Act.put, putS])
    refine wpAnyH_done (by kernel_rfl) ?_ _
    go_wp2_with fail
    all_goals first
     | (go_ret; exact ⟨⟨_, rfl⟩, B1.out.trans belT⟩)
     | (go_roundw; (case rel => exact ⟨k + 1, HLT.out, by go_num, B1.out.trans belT⟩); (case measure => have := HLT.out; simp [intOf]; omega))
   ·have d8 : decide (0 < k) = false := decide_eq_false hkz
    have HBL := hide hbl
    clear hc hbl hkz
    go_wp2_with fail
    refine (wcheck5_any s0 A1 n1 p1 k1 C1 HK1.out A2 n2 p2 k2 C2 HK2.out _ HA1.out HA2.out).mono ?_
    rintro r w1 ⟨⟨b0, rfl⟩, hb⟩
    have B1 := hide (show Below w.heap.size w w1 from H0.out.trans (hb.mono H0.out.size))
    have d0 := (hb.cell (p := ⟨b, off + k * 3, none⟩) HBL.out).trans c0
    have hbl : b < w1.heap.size := Nat.lt_of_lt_of_le HBL.out hb.size
    clear hb c0 c1 c2
    go_wp2_with fail
    all_goals try (go_ret; exact ⟨⟨_, rfl⟩, B1.out⟩)
    refine ord_start (SB (w1.heap.size) [] _) 16 (preB 0 16) (by kernel_rfl) (by kernel_rfl) (by kernel_rfl) SB.refl.drew (fun hHeld => ?_)
    refine oS (i := 0) (preB 1 15) rfl hHeld ?_
    (try simp only [Act.put, putS])
    refine oS (i := 1) (preB 2 14) rfl hHeld ?_
    (try simp only [Act.put, putS])
    refine oS (i := 2) (preB 3 13) rfl hHeld ?_
    (try simp only [Act.put, putS])
    refine ord_skip (i := 3) (preB 4 12) rfl (by kernel_rfl) (by kernel_rfl) (by kernel_rfl) (by kernel_rfl) (fun _ _ _ h => h) hHeld (by rfl) ?_
    (try simp only [Act.put, putS])
    refine ord_skip (i := 4) (preB 5 11) rfl (by kernel_rfl) (by kernel_rfl) (by kernel_rfl) (by kernel_rfl) (fun _ _ _ h => h) hHeld (by rfl) ?_
    (try simp only [Act.put, putS])
    refine ord_skip (i := 5) (preB 6 10) rfl (by kernel_rfl) (by kernel_rfl) (by kernel_rfl) (by kernel_rfl) (fun _ _ _ h => h) hHeld (by rfl) ?_
    (try simp only [Act.put, putS])
    refine ord_skip (i := 6) (preB 7 9) rfl (by kernel_rfl) (by kernel_rfl) (by kernel_rfl) (by kernel_rfl) (fun _ _ _ h => h) hHeld (by rfl) ?_
    (try simp only [Act.put, putS])
    refine ord_skip (i := 7) (preB 8 8) rfl (by kernel_rfl) (by kernel_rfl) (by kernel_rfl) (by kernel_rfl) (fun _ _ _ h => h) hHeld (by rfl) ?_
    (try simp only [Act.put, putS])
    refine ord_skip (i := 8) (preB 9 7) rfl (by kernel_rfl) (by kernel_rfl) (by kernel_rfl) (by kernel_rfl) (fun _ _ _ h => h) hHeld (by rfl) ?_
    (try simp only [Act.put, putS])
    refine ord_skip (i := 9) (preB 10 6) rfl (by kernel_rfl) (by kernel_rfl) (by kernel_rfl) (by kernel_rfl) (fun _ _ _ h => h) hHeld (by rfl) ?_
    (try simp only [Act.put, putS])
    refine ord_skip (i := 10) (preB 11 5) rfl (by kernel_rfl) (by kernel_rfl) (by kernel_rfl) (by kernel_rfl) (fun _ _ _ h => h) hHeld (by rfl) ?_
    (try simp only [Act.put, putS])
    refine ord_skip (i := 11) (preB 12 4) rfl (by kernel_rfl) (by kernel_rfl) (by kernel_rfl) (by kernel_rfl) (fun _ _ _ h => h) hHeld (by rfl) ?_
    (try simp only [Act.put, putS])
    refine ord_skip (i := 12) (preB 13 3) rfl (by kernel_rfl) (by kernel_rfl) (by kernel_rfl) (by kernel_rfl) (fun _ _ _ h => h) hHeld (by rfl) ?_
    (try simp only [Act.put, putS])
    refine ord_skip (i := 13) (preB 14 2) rfl (by kernel_rfl) (by kernel_rfl) (by kernel_rfl) (by kernel_rfl) (fun _ _ _ h => h) hHeld (by rfl) ?_
    (try simp only [Act.put, putS])
    refine ord_skip (i := 14) (preB 15 1) rfl (by kernel_rfl) (by kernel_rfl) (by kernel_rfl) (by kernel_rfl) (fun _ _ _ h => h) hHeld (by rfl) ?_
    (try simp only [Act.put, putS])
    refine oS (i := 15) (preB 16 0) rfl hHeld ?_
    (try simp only [Act.put, putS])
    refine wpAnyH_done (by kernel_rfl) ?_ _
    go_wp2_with fail
    all_goals first
     | (go_ret; exact ⟨⟨_, rfl⟩, B1.out.trans belT⟩)
     | (go_roundw; (case rel => exact ⟨k + 1, HLT.out, by go_num, B1.out.trans belT⟩); (case measure => have := HLT.out; simp [intOf]; omega))
  ·obtain rfl : k = n := by omega
   clear hlt hkn
   go_wp2_with fail
   go_ret
   exact ⟨⟨_, rfl⟩, H0.out⟩
set_option maxRecDepth 8000 in
set_option maxHeartbeats 8000000 in
theorem wused_any (A : Option Addr) (n cap : Nat) (c : Nat → Nat → Tr) (C : Nat → Nat → Value) (hk : RowK 3 n c) (x y : Int) (w : World) (hA : RowT (Old w) w 3 A n c C) :
  Calls Tryz.prog 87 #[.slice A n cap, .int .i64 x, .int .i64 y] w (SomE w) := by
 have HK := hide hk
 have HA := hide hA
 have hn : n ≤ 140737488351232 := by have := hk.room; simp only [tby] at this; omega
 clear hk hA
 go_enter Tryz.func87, Tryz.ntmps87
 go_wp2_with fail
 refine (wfind18_any A n cap c C HK.out x _ HA.out).mono ?_
 rintro r w1 ⟨⟨z0, z1, z2, s3, b0, rfl⟩, hb⟩
 have B1 := hide hb
 have zB1 := hb.size
 clear hb
 cases b0 with
 | false =>
  go_wp2_with fail
  go_ret
  exact ⟨⟨_, rfl⟩, B1.out.trans belT⟩
 | true =>
  go_wp2_with fail
  refine (wpar18_any A n cap c C HK.out x _ (HA.out.below (B1.out.trans belT))).mono ?_
  rintro r w2 ⟨⟨b2, rfl⟩, hb⟩
  have q2B : Below w1.heap.size w1 w2 := qB hb
  have q2z := hb.size
  try simp at q2z
  have q2t : w1.heap.size ≤ w2.heap.size := (by omega)
  obtain ⟨q2s0, q2n0_0, q2n0_1, q2n0_2⟩ := kB w2.heap.size w1.heap.size
  obtain ⟨q2c0_0, q2c0_1, q2c0_2, q2c0_3, q2f0⟩ := kC4 hb w1.heap.size
  simp [go_sem, *] at q2c0_0 q2c0_1 q2c0_2 q2c0_3 q2f0
  have q2o := belO q2B
  clear hb
  have B2 := hide (B1.out.trans (q2B.mono B1.out.size))
  cases b2 with
  | true =>
   go_wp2_with fail
   go_ret
   exact ⟨⟨_, rfl⟩, B2.out⟩
  | false =>
   go_wp2_with fail
   all_goals (go_ret; exact ⟨⟨_, rfl⟩, B2.out⟩)
end Go.Proofs.YtpghciiifnjimaaGreatDoor
