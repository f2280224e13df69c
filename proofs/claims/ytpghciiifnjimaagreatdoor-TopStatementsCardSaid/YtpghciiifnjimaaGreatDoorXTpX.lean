/- Texts laid together: TpX TpY TpW. -/
import Derived.Test.YtpghciiifnjimaaGreatDoorXTpV
import Derived.Test.YtpghciiifnjimaaGreatDoorXK0
namespace Go.Proofs.YtpghciiifnjimaaGreatDoor
set_option maxRecDepth 4000
set_option linter.unusedSimpArgs false
set_option linter.unusedVariables false
open Go.RowKit
def ck0 (ck : Nat → Tr) (v : Value) : Nat → Tr := fun j => if j = 0 then .lf v else ck j
theorem kn0 {ck : Nat → Tr} (kn : KnOK 11 ck) {z : Int} (hz : IIn z) : KnOK 11 (ck0 ck (.int .i64 z)) := fun j hj => by
 by_cases h : j = 0
 ·subst h
  exact ⟨z, rfl, hz⟩
 ·have e : ck0 ck (.int .i64 z) j = ck j := if_neg h
  rw [e]
  exact kn j hj
/-- A result that is an entry: its Id, some chain, the other cells as they were. -/
def NxR (x1 x2 x3 x4 x5 x6 x7 x8 : Value) (n : Nat) (w : World) (e : Ending) (w' : World) : Prop := ∃ z : Int, e = .returned (.agg #[.int .i64 ((n : Int) + 1), x1, x2, x3, x4, x5, x6, x7, x8, .int .u64 z]) ∧ 0 ≤ z ∧ z < 18446744073709551616 ∧ Below w.heap.size w w'
set_option maxRecDepth 8000 in
set_option maxHeartbeats 8000000 in
theorem wnext20_any (A : Option Addr) (n cap : Nat) (c : Nat → Nat → Tr) (C : Nat → Nat → Value) (hk : RowK 11 n c) {ck : Nat → Tr} (kn : KnOK 11 ck) (hS : EnS ck) (x0 x1 x2 x3 x4 x5 x6 x7 x8 x9 : Value) (w : World) (hA : RowT (Old w) w 11 A n c C) (hX : ElT (Old w) w 11 ck #[x0, x1, x2, x3, x4, x5, x6, x7, x8, x9]) :
  Calls Tryz.prog 154 #[.slice A n cap, .agg #[x0, x1, x2, x3, x4, x5, x6, x7, x8, x9]] w (NxR x1 x2 x3 x4 x5 x6 x7 x8 n w) := by
 have hn : n ≤ 2000000000000 := by have := hk.room; simp only [tby] at this; omega
 obtain ⟨z1, _, e1, _⟩ := rd_int (hX.rd 1 (by decide)) (kn 1 (by decide))
 replace e1 : x1 = _ := e1
 obtain ⟨z2, _, e2, _⟩ := rd_int (hX.rd 2 (by decide)) (kn 2 (by decide))
 replace e2 : x2 = _ := e2
 obtain ⟨z3, _, e3, _⟩ := rd_int (hX.rd 3 (by decide)) (kn 3 (by decide))
 replace e3 : x3 = _ := e3
 obtain ⟨z4, _, e4, _⟩ := rd_int (hX.rd 4 (by decide)) (kn 4 (by decide))
 replace e4 : x4 = _ := e4
 obtain ⟨z5, _, e5, _⟩ := rd_int (hX.rd 5 (by decide)) (kn 5 (by decide))
 replace e5 : x5 = _ := e5
 obtain ⟨z6, _, e6, _⟩ := rd_str (hX.rd 6 (by decide)) (kn 6 (by decide))
 replace e6 : x6 = _ := e6
 obtain ⟨z7, _, e7, _⟩ := rd_str (hX.rd 7 (by decide)) (kn 7 (by decide))
 replace e7 : x7 = _ := e7
 obtain ⟨n8, c8, _, _, A8, p8, C8, e8, _, _⟩ := rd_row (e := 10) (hX.rd 8 (by decide)) (kn 8 (by decide))
 replace e8 : x8 = _ := e8
 subst e1 e2 e3 e4 e5 e6 e7 e8
 have KN := hide (kn0 kn (z := (n : Int) + 1) ⟨by omega, by omega⟩)
 have HX := hide (show ElT (Old w) w 11 (ck0 ck (.int .i64 ((n : Int) + 1))) #[.int .i64 ((n : Int) + 1), .int .i64 z1, .int .i64 z2, .int .i64 z3, .int .i64 z4, .int .i64 z5, .string z6, .string z7, .slice A8 n8 p8, x9] from by
  have o := hX.ones
  refine ⟨rfl, ?_, fun j hj => ?_⟩
  ·simp only [Array.all_eq_true] at o ⊢
   intro i hi
   match i, hi with
   | 0, _ => rfl
   | 1, _ => exact o 1 (show 1 < 10 by decide)
   | 2, _ => exact o 2 (show 2 < 10 by decide)
   | 3, _ => exact o 3 (show 3 < 10 by decide)
   | 4, _ => exact o 4 (show 4 < 10 by decide)
   | 5, _ => exact o 5 (show 5 < 10 by decide)
   | 6, _ => exact o 6 (show 6 < 10 by decide)
   | 7, _ => exact o 7 (show 7 < 10 by decide)
   | 8, _ => exact o 8 (show 8 < 10 by decide)
   | 9, _ => exact o 9 (show 9 < 10 by decide)
  ·match j, hj with
   | 0, _ => rfl
   | 1, h => exact hX.rd 1 h
   | 2, h => exact hX.rd 2 h
   | 3, h => exact hX.rd 3 h
   | 4, h => exact hX.rd 4 h
   | 5, h => exact hX.rd 5 h
   | 6, h => exact hX.rd 6 h
   | 7, h => exact hX.rd 7 h
   | 8, h => exact hX.rd 8 h
   | 9, h => exact hX.rd 9 h)
 have HS := hide (show EnS (ck0 ck (.int .i64 ((n : Int) + 1))) from hS)
 have HK := hide hk
 have HA := hide hA
 have HO := hide hX.ones
 clear hk kn hS hA hX
 by_cases h0 : 0 < n
 ·obtain ⟨kk, hkk⟩ : ∃ kk, n = kk + 1 := ⟨n - 1, by omega⟩
  have d8 : decide (0 < n) = true := decide_eq_true h0
  have nw1 : IntKind.i64.wrap ((n : Int) - 1) = (kk : Int) := by rw [i64w]; unfold wrap64; omega
  have nw2 : IntKind.i64.wrap ((n : Int) + 1) = (n : Int) + 1 := by rw [i64w]; unfold wrap64; omega
  have hkk0 : (0 : Int) ≤ kk := by omega
  have hkk1 : (kk : Int) < n := by omega
  have HKN := hide (show kk < n by omega)
  obtain ⟨b, off, rfl, hbl, hc⟩ := HA.out.all (by decide) h0
  obtain ⟨zp, _, e9, p0, p1⟩ := rd_u64 (HA.out.rd kk 9 HKN.out (by decide)) (HK.out.wt kk 9 HKN.out (by decide))
  have c9 : w.cell? ⟨b, off + kk * 10 + 9, none⟩ = some (.int .u64 zp) := by have hcc := hc kk 9 HKN.out (by decide); rw [e9] at hcc; exact hcc
  have nb1 : ¬ w.heap.size = b := by omega
  have nb2 : ¬ w.heap.size + 1 = b := by omega
  have HP := hide (And.intro p0 p1)
  clear hkk hc e9 h0 p0 p1
  go_enter Tryz.func154, Tryz.ntmps154
  go_wp2_with fail
  refine (wenc19_any KN.out HS.out _ _ (HX.out.below belT)).mono ?_
  rintro r w1 ⟨a, ha, rfl, hb⟩
  have q1B : Below w.heap.size w w1 := qB hb
  have q1z := hb.size
  try simp at q1z
  have q1t : w.heap.size ≤ w1.heap.size := (by omega)
  obtain ⟨q1s0, q1n0_0, q1n0_1, q1n0_2⟩ := kB w1.heap.size w.heap.size
  obtain ⟨q1c0_0, q1c0_1, q1c0_2, q1c0_3, q1c0_4, q1c0_5, q1c0_6, q1c0_7, q1c0_8, q1c0_9, q1f0⟩ := kC10 hb w.heap.size
  simp [go_sem, *] at q1c0_0 q1c0_1 q1c0_2 q1c0_3 q1c0_4 q1c0_5 q1c0_6 q1c0_7 q1c0_8 q1c0_9 q1f0
  obtain ⟨q1s1, q1n1_0, q1n1_1, q1n1_2⟩ := kB w1.heap.size (w.heap.size + 1)
  obtain ⟨q1c1_0, q1c1_1, q1c1_2, q1c1_3, q1c1_4, q1c1_5, q1c1_6, q1c1_7, q1c1_8, q1c1_9, q1f1⟩ := kC10 hb (w.heap.size + 1)
  simp [go_sem, *] at q1c1_0 q1c1_1 q1c1_2 q1c1_3 q1c1_4 q1c1_5 q1c1_6 q1c1_7 q1c1_8 q1c1_9 q1f1
  have q1o := belO q1B
  clear hb
  have Q1 := hide q1B
  go_wp2_with fail
  refine (wchain8_any _ HP.out.1 HP.out.2 a (by omega) _).mono ?_
  rintro r w2 ⟨⟨z, rfl, y0, y1⟩, hb⟩
  have HZ := hide (And.intro y0 y1)
  have q2B : Below w1.heap.size w1 w2 := qB hb
  have q2z := hb.size
  try simp at q2z
  have q2t : w1.heap.size ≤ w2.heap.size := (by omega)
  obtain ⟨q2s0, q2n0_0, q2n0_1, q2n0_2⟩ := kB w2.heap.size w.heap.size
  obtain ⟨q2c0_0, q2c0_1, q2c0_2, q2c0_3, q2c0_4, q2c0_5, q2c0_6, q2c0_7, q2c0_8, q2c0_9, q2f0⟩ := kC10 hb w.heap.size
  simp [go_sem, *] at q2c0_0 q2c0_1 q2c0_2 q2c0_3 q2c0_4 q2c0_5 q2c0_6 q2c0_7 q2c0_8 q2c0_9 q2f0
  obtain ⟨q2s1, q2n1_0, q2n1_1, q2n1_2⟩ := kB w2.heap.size (w.heap.size + 1)
  obtain ⟨q2c1_0, q2c1_1, q2c1_2, q2c1_3, q2c1_4, q2c1_5, q2c1_6, q2c1_7, q2c1_8, q2c1_9, q2f1⟩ := kC10 hb (w.heap.size + 1)
  simp [go_sem, *] at q2c1_0 q2c1_1 q2c1_2 q2c1_3 q2c1_4 q2c1_5 q2c1_6 q2c1_7 q2c1_8 q2c1_9 q2f1
  have q2o := belO q2B
  clear hb q1o q1f1 q1c1_9 q1c1_8 q1c1_7 q1c1_6 q1c1_5 q1c1_4 q1c1_3 q1c1_2 q1c1_1 q1c1_0 q1s1 q1f0 q1c0_9 q1c0_8 q1c0_7 q1c0_6 q1c0_5 q1c0_4 q1c0_3 q1c0_2 q1c0_1 q1c0_0 q1s0 q1z q1B
  have Q2 := hide (Q1.out.trans (q2B.mono Q1.out.size))
  clear y0 y1
  go_wp2_with fail
  refine bodyPost_ret (by simp [results, Tryz.results154, go_sem, *] <;> rfl) rfl ?_
  exact ⟨z, rfl, HZ.out.1, HZ.out.2, Q2.out.trans belT⟩
 ·have d8 : decide (0 < n) = false := decide_eq_false h0
  have HP := hide (show (0 : Int) ≤ 0 ∧ (0 : Int) < 18446744073709551616 by decide)
  have nw2 : IntKind.i64.wrap ((n : Int) + 1) = (n : Int) + 1 := by rw [i64w]; unfold wrap64; omega
  have HN0 := hide h0
  clear h0
  go_enter Tryz.func154, Tryz.ntmps154
  go_wp2_with fail
  refine (wenc19_any KN.out HS.out _ _ (HX.out.below belT)).mono ?_
  rintro r w1 ⟨a, ha, rfl, hb⟩
  have q1B : Below w.heap.size w w1 := qB hb
  have q1z := hb.size
  try simp at q1z
  have q1t : w.heap.size ≤ w1.heap.size := (by omega)
  obtain ⟨q1s0, q1n0_0, q1n0_1, q1n0_2⟩ := kB w1.heap.size w.heap.size
  obtain ⟨q1c0_0, q1c0_1, q1c0_2, q1c0_3, q1c0_4, q1c0_5, q1c0_6, q1c0_7, q1c0_8, q1c0_9, q1f0⟩ := kC10 hb w.heap.size
  simp [go_sem, *] at q1c0_0 q1c0_1 q1c0_2 q1c0_3 q1c0_4 q1c0_5 q1c0_6 q1c0_7 q1c0_8 q1c0_9 q1f0
  obtain ⟨q1s1, q1n1_0, q1n1_1, q1n1_2⟩ := kB w1.heap.size (w.heap.size + 1)
  obtain ⟨q1c1_0, q1c1_1, q1c1_2, q1c1_3, q1c1_4, q1c1_5, q1c1_6, q1c1_7, q1c1_8, q1c1_9, q1f1⟩ := kC10 hb (w.heap.size + 1)
  simp [go_sem, *] at q1c1_0 q1c1_1 q1c1_2 q1c1_3 q1c1_4 q1c1_5 q1c1_6 q1c1_7 q1c1_8 q1c1_9 q1f1
  have q1o := belO q1B
  clear hb
  have Q1 := hide q1B
  go_wp2_with fail
  refine (wchain8_any _ HP.out.1 HP.out.2 a (by omega) _).mono ?_
  rintro r w2 ⟨⟨z, rfl, y0, y1⟩, hb⟩
  have HZ := hide (And.intro y0 y1)
  have q2B : Below w1.heap.size w1 w2 := qB hb
  have q2z := hb.size
  try simp at q2z
  have q2t : w1.heap.size ≤ w2.heap.size := (by omega)
  obtain ⟨q2s0, q2n0_0, q2n0_1, q2n0_2⟩ := kB w2.heap.size w.heap.size
  obtain ⟨q2c0_0, q2c0_1, q2c0_2, q2c0_3, q2c0_4, q2c0_5, q2c0_6, q2c0_7, q2c0_8, q2c0_9, q2f0⟩ := kC10 hb w.heap.size
  simp [go_sem, *] at q2c0_0 q2c0_1 q2c0_2 q2c0_3 q2c0_4 q2c0_5 q2c0_6 q2c0_7 q2c0_8 q2c0_9 q2f0
  obtain ⟨q2s1, q2n1_0, q2n1_1, q2n1_2⟩ := kB w2.heap.size (w.heap.size + 1)
  obtain ⟨q2c1_0, q2c1_1, q2c1_2, q2c1_3, q2c1_4, q2c1_5, q2c1_6, q2c1_7, q2c1_8, q2c1_9, q2f1⟩ := kC10 hb (w.heap.size + 1)
  simp [go_sem, *] at q2c1_0 q2c1_1 q2c1_2 q2c1_3 q2c1_4 q2c1_5 q2c1_6 q2c1_7 q2c1_8 q2c1_9 q2f1
  have q2o := belO q2B
  clear hb q1o q1f1 q1c1_9 q1c1_8 q1c1_7 q1c1_6 q1c1_5 q1c1_4 q1c1_3 q1c1_2 q1c1_1 q1c1_0 q1s1 q1f0 q1c0_9 q1c0_8 q1c0_7 q1c0_6 q1c0_5 q1c0_4 q1c0_3 q1c0_2 q1c0_1 q1c0_0 q1s0 q1z q1B
  have Q2 := hide (Q1.out.trans (q2B.mono Q1.out.size))
  clear y0 y1
  go_wp2_with fail
  refine bodyPost_ret (by simp [results, Tryz.results154, go_sem, *] <;> rfl) rfl ?_
  exact ⟨z, rfl, HZ.out.1, HZ.out.2, Q2.out.trans belT⟩
end Go.Proofs.YtpghciiifnjimaaGreatDoor
namespace Go.Proofs.YtpghciiifnjimaaGreatDoor
set_option maxRecDepth 4000
set_option linter.unusedSimpArgs false
set_option linter.unusedVariables false
open Go.RowKit
/-- What an entry that may be posted says. -/
def ExR (n : Nat) (c : Nat → Nat → Tr) (ck : Nat → Tr) : Prop := EnS ck ∧ ∀ m, n = m + 1 → intOf (lfv (c m 1)) ≤ intOf (lfv (ck 1))
set_option maxRecDepth 30000 in
set_option maxHeartbeats 8000000 in
theorem wexam20_any (A : Option Addr) (n cap : Nat) (c : Nat → Nat → Tr) (C : Nat → Nat → Value) (hk : RowK 11 n c) {ck : Nat → Tr} (kn : KnOK 11 ck) (x0 x1 x2 x3 x4 x5 x6 x7 x8 x9 : Value) (w : World) (hA : RowT (Old w) w 11 A n c C) (hX : ElT (Old w) w 11 ck #[x0, x1, x2, x3, x4, x5, x6, x7, x8, x9]) :
  Calls Tryz.prog 152 #[.slice A n cap, .agg #[x0, x1, x2, x3, x4, x5, x6, x7, x8, x9]] w (OkE (ExR n c ck) w) := by
 have hn : n ≤ 2000000000000 := by have := hk.room; simp only [tby] at this; omega
 obtain ⟨z0, q0, e0, _⟩ := rd_int (hX.rd 0 (by decide)) (kn 0 (by decide))
 replace e0 : x0 = _ := e0
 obtain ⟨z1, q1, e1, _⟩ := rd_int (hX.rd 1 (by decide)) (kn 1 (by decide))
 replace e1 : x1 = _ := e1
 obtain ⟨z2, q2, e2, _⟩ := rd_int (hX.rd 2 (by decide)) (kn 2 (by decide))
 replace e2 : x2 = _ := e2
 obtain ⟨z3, q3, e3, _⟩ := rd_int (hX.rd 3 (by decide)) (kn 3 (by decide))
 replace e3 : x3 = _ := e3
 obtain ⟨z4, q4, e4, _⟩ := rd_int (hX.rd 4 (by decide)) (kn 4 (by decide))
 replace e4 : x4 = _ := e4
 obtain ⟨z5, q5, e5, _⟩ := rd_int (hX.rd 5 (by decide)) (kn 5 (by decide))
 replace e5 : x5 = _ := e5
 obtain ⟨z6, _, e6, _⟩ := rd_str (hX.rd 6 (by decide)) (kn 6 (by decide))
 replace e6 : x6 = _ := e6
 obtain ⟨z7, _, e7, _⟩ := rd_str (hX.rd 7 (by decide)) (kn 7 (by decide))
 replace e7 : x7 = _ := e7
 obtain ⟨n8, c8, _, _, A8, p8, C8, e8, _, _⟩ := rd_row (e := 10) (hX.rd 8 (by decide)) (kn 8 (by decide))
 replace e8 : x8 = _ := e8
 obtain ⟨z9, _, e9, _⟩ := rd_u64 (hX.rd 9 (by decide)) (kn 9 (by decide))
 replace e9 : x9 = _ := e9
 subst e0 e1 e2 e3 e4 e5 e6 e7 e8 e9
 have HQ1 := hide q1
 have KN := hide kn
 have HX := hide hX
 have HK := hide hk
 have HA := hide hA
 clear hk kn hA hX q0 q1 q2 q3 q4 q5
 go_enter Tryz.func152, Tryz.ntmps152
 go_wp2_with fail
 refine (wcheck19_any KN.out _ _ (HX.out.below belT)).mono ?_
 rintro r w1 ⟨E, rfl, hE, hb⟩
 have HE := hide hE
 clear hE
 have q1B : Below w.heap.size w w1 := qB hb
 have q1z := hb.size
 try simp at q1z
 have q1t : w.heap.size ≤ w1.heap.size := (by omega)
 obtain ⟨q1s0, q1n0_0, q1n0_1, q1n0_2⟩ := kB w1.heap.size w.heap.size
 obtain ⟨q1c0_0, q1c0_1, q1c0_2, q1c0_3, q1c0_4, q1c0_5, q1c0_6, q1c0_7, q1c0_8, q1c0_9, q1f0⟩ := kC10 hb w.heap.size
 simp [go_sem, *] at q1c0_0 q1c0_1 q1c0_2 q1c0_3 q1c0_4 q1c0_5 q1c0_6 q1c0_7 q1c0_8 q1c0_9 q1f0
 have q1o := belO q1B
 clear hb
 have Q1 := hide q1B
 by_cases hz : E = 0
 ·have dE : (E != 0) = false := by simp [hz]
  have HS := hide (HE.out hz)
  clear hz
  go_wp2_with fail
  go_loopw [6] (fun v wr => KB n w1 v wr) (fun v _ => n - (intOf v).toNat)
  case atStart => exact ⟨0, by omega, rfl, Below.refl _ _⟩
  case round =>
   obtain ⟨k, hkn, rfl, hb⟩ := hrel
   have H0 := hide hb
   have q2B : Below w1.heap.size w1 wr := qB hb
   have q2z := hb.size
   try simp at q2z
   have q2t : w1.heap.size ≤ wr.heap.size := (by omega)
   obtain ⟨q2s0, q2n0_0, q2n0_1, q2n0_2⟩ := kB wr.heap.size w.heap.size
   obtain ⟨q2c0_0, q2c0_1, q2c0_2, q2c0_3, q2c0_4, q2c0_5, q2c0_6, q2c0_7, q2c0_8, q2c0_9, q2f0⟩ := kC10 hb w.heap.size
   simp [go_sem, *] at q2c0_0 q2c0_1 q2c0_2 q2c0_3 q2c0_4 q2c0_5 q2c0_6 q2c0_7 q2c0_8 q2c0_9 q2f0
   have q2o := belO q2B
   clear hb
   have QL := hide (Q1.out.trans (H0.out.mono Q1.out.size))
   by_cases hlt : k < n
   ·have hm : (k : Int) < n := by omega
    have hk0 : (0 : Int) ≤ k := by omega
    have HLT := hide hlt
    obtain ⟨b, off, rfl, hbl, hc⟩ := (HA.out.below QL.out).all (by decide) (by omega)
    obtain ⟨ys6, _, ye6, _⟩ := rd_str (HA.out.rd (k) 6 hlt (by decide)) (HK.out.wt (k) 6 hlt (by decide))
    have yc6 : wr.cell? ⟨b, off + k * 10 + 6, none⟩ = some (.string ys6) := by have hcc := hc (k) 6 hlt (by decide); rw [ye6] at hcc; exact hcc
    clear ye6
    clear hlt hkn hc
    go_wp2_with fail
    refine ord_start (SB (wr.heap.size) [] _) 8 (preB 0 8) (by kernel_rfl) (by kernel_rfl) (by kernel_rfl) SB.refl.drew (fun hHeld => ?_)
    refine oS (i := 0) (preB 1 7) rfl hHeld ?_
    (try simp only [Act.put, putS])
    refine oS (i := 1) (preB 2 6) rfl hHeld ?_
    (try simp only [Act.put, putS])
    refine oS (i := 2) (preB 3 5) rfl hHeld ?_
    (try simp only [Act.put, putS])
    refine oS (i := 3) (preB 4 4) rfl hHeld ?_
    (try simp only [Act.put, putS])
    refine oS (i := 4) (preB 5 3) rfl hHeld ?_
    (try simp only [Act.put, putS])
    refine oS (i := 5) (preB 6 2) rfl hHeld ?_
    (try simp only [Act.put, putS])
    refine oS (i := 6) (preB 7 1) rfl hHeld ?_
    (try simp only [Act.put, putS])
    refine oS (i := 7) (preB 8 0) rfl hHeld ?_
    (try simp only [Act.put, putS])
    refine wpAnyH_done (by kernel_rfl) ?_ _
    go_wp2_with fail
    all_goals first
     | (go_ret; exact ⟨_, rfl, fun h => absurd h (by decide), QL.out.trans belT⟩)
     | (go_roundw; (case rel => exact ⟨k + 1, HLT.out, by go_num, H0.out.trans belT⟩); (case measure => have := HLT.out; simp [intOf]; omega))
   ·obtain rfl : k = n := by omega
    clear hlt hkn
    by_cases h0 : 0 < k
    ·obtain ⟨kk, hkk⟩ : ∃ kk, k = kk + 1 := ⟨k - 1, by omega⟩
     have d8 : decide (0 < k) = true := decide_eq_true h0
     have d8i : decide ((0 : Int) < k) = true := decide_eq_true (by omega)
     have nw1 : IntKind.i64.wrap ((k : Int) - 1) = (kk : Int) := by rw [i64w]; unfold wrap64; omega
     have hkk0 : (0 : Int) ≤ kk := by omega
     have hkk1 : (kk : Int) < k := by omega
     have HKN := hide (show kk < k by omega)
     obtain ⟨b, off, rfl, hbl, hc⟩ := (HA.out.below QL.out).all (by decide) h0
     obtain ⟨y1, p1, f1, _⟩ := rd_int (HA.out.rd kk 1 HKN.out (by decide)) (HK.out.wt kk 1 HKN.out (by decide))
     have c1 : wr.cell? ⟨b, off + kk * 10 + 1, none⟩ = some (.int .i64 y1) := by have hcc := hc kk 1 HKN.out (by decide); rw [f1] at hcc; exact hcc
     have HW := hide (show y1 ≤ z1 → ExR k c ck from fun h => ⟨HS.out, fun m hm => by (have : m = kk := by omega); rw [this, p1, HQ1.out]; exact h⟩)
     clear hkk hc f1 p1 h0
     by_cases hzy : z1 < y1
     ·have dz : decide (z1 < y1) = true := decide_eq_true hzy
      clear hzy
      go_wp2_with fail
      refine ord_start (SB (wr.heap.size) [] _) 15 (preB 0 15) (by kernel_rfl) (by kernel_rfl) (by kernel_rfl) SB.refl.drew (fun hHeld => ?_)
      refine oS (i := 0) (preB 1 14) rfl hHeld ?_
      (try simp only [Act.put, putS])
      refine oS (i := 1) (preB 2 13) rfl hHeld ?_
      (try simp only [Act.put, putS])
      refine oS (i := 2) (preB 3 12) rfl hHeld ?_
      (try simp only [Act.put, putS])
      refine oS (i := 3) (preB 4 11) rfl hHeld ?_
      (try simp only [Act.put, putS])
      refine oS (i := 4) (preB 5 10) rfl hHeld ?_
      (try simp only [Act.put, putS])
      refine oS (i := 5) (preB 6 9) rfl hHeld ?_
      (try simp only [Act.put, putS])
      refine oS (i := 6) (preB 7 8) rfl hHeld ?_
      (try simp only [Act.put, putS])
      refine oS (i := 7) (preB 8 7) rfl hHeld ?_
      (try simp only [Act.put, putS])
      refine oS (i := 8) (preB 9 6) rfl hHeld ?_
      (try simp only [Act.put, putS])
      refine oS (i := 9) (preB 10 5) rfl hHeld ?_
      (try simp only [Act.put, putS])
      refine oS (i := 10) (preB 11 4) rfl hHeld ?_
      (try simp only [Act.put, putS])
      refine oS (i := 11) (preB 12 3) rfl hHeld ?_
      (try simp only [Act.put, putS])
      refine oS (i := 12) (preB 13 2) rfl hHeld ?_
      (try simp only [Act.put, putS])
      refine oS (i := 13) (preB 14 1) rfl hHeld ?_
      (try simp only [Act.put, putS])
      refine oS (i := 14) (preB 15 0) rfl hHeld ?_
      (try simp only [Act.put, putS])
      refine wpAnyH_done (by kernel_rfl) ?_ _
      go_wp2_with fail
      go_ret
      exact ⟨_, rfl, fun h => absurd h (by decide), QL.out.trans belT⟩
     ·have dz : decide (z1 < y1) = false := decide_eq_false hzy
      have HG := hide (HW.out (by omega))
      clear hzy
      go_wp2_with fail
      refine ord_start (SB (wr.heap.size) [] _) 15 (preB 0 15) (by kernel_rfl) (by kernel_rfl) (by kernel_rfl) SB.refl.drew (fun hHeld => ?_)
      refine oS (i := 0) (preB 1 14) rfl hHeld ?_
      (try simp only [Act.put, putS])
      refine oS (i := 1) (preB 2 13) rfl hHeld ?_
      (try simp only [Act.put, putS])
      refine oS (i := 2) (preB 3 12) rfl hHeld ?_
      (try simp only [Act.put, putS])
      refine oS (i := 3) (preB 4 11) rfl hHeld ?_
      (try simp only [Act.put, putS])
      refine oS (i := 4) (preB 5 10) rfl hHeld ?_
      (try simp only [Act.put, putS])
      refine oS (i := 5) (preB 6 9) rfl hHeld ?_
      (try simp only [Act.put, putS])
      refine oS (i := 6) (preB 7 8) rfl hHeld ?_
      (try simp only [Act.put, putS])
      refine oS (i := 7) (preB 8 7) rfl hHeld ?_
      (try simp only [Act.put, putS])
      refine oS (i := 8) (preB 9 6) rfl hHeld ?_
      (try simp only [Act.put, putS])
      refine oS (i := 9) (preB 10 5) rfl hHeld ?_
      (try simp only [Act.put, putS])
      refine oS (i := 10) (preB 11 4) rfl hHeld ?_
      (try simp only [Act.put, putS])
      refine oS (i := 11) (preB 12 3) rfl hHeld ?_
      (try simp only [Act.put, putS])
      refine oS (i := 12) (preB 13 2) rfl hHeld ?_
      (try simp only [Act.put, putS])
      refine oS (i := 13) (preB 14 1) rfl hHeld ?_
      (try simp only [Act.put, putS])
      refine oS (i := 14) (preB 15 0) rfl hHeld ?_
      (try simp only [Act.put, putS])
      refine wpAnyH_done (by kernel_rfl) ?_ _
      go_wp2_with fail
      all_goals (go_ret; exact ⟨_, rfl, fun h => by first | exact HG.out | exact absurd h (by decide), QL.out.trans belT⟩)
    ·have d8 : decide (0 < k) = false := decide_eq_false h0
     have HG := hide (show ExR k c ck from ⟨HS.out, fun m hm => by omega⟩)
     clear h0
     go_wp2_with fail
     refine ord_start (SB (wr.heap.size) [] _) 15 (preB 0 15) (by kernel_rfl) (by kernel_rfl) (by kernel_rfl) SB.refl.drew (fun hHeld => ?_)
     refine oS (i := 0) (preB 1 14) rfl hHeld ?_
     (try simp only [Act.put, putS])
     refine oS (i := 1) (preB 2 13) rfl hHeld ?_
     (try simp only [Act.put, putS])
     refine oS (i := 2) (preB 3 12) rfl hHeld ?_
     (try simp only [Act.put, putS])
     refine oS (i := 3) (preB 4 11) rfl hHeld ?_
     (try simp only [Act.put, putS])
     refine ord_skip (i := 4) (preB 5 10) rfl (by kernel_rfl) (by kernel_rfl) (by kernel_rfl) (by kernel_rfl) (fun _ _ _ h => h) hHeld (by rfl) ?_
     (try simp only [Act.put, putS])
     refine ord_skip (i := 5) (preB 6 9) rfl (by kernel_rfl) (by kernel_rfl) (by kernel_rfl) (by kernel_rfl) (fun _ _ _ h => h) hHeld (by rfl) ?_
     (try simp only [Act.put, putS])
     refine ord_skip (i := 6) (preB 7 8) rfl (by kernel_rfl) (by kernel_rfl) (by kernel_rfl) (by kernel_rfl) (fun _ _ _ h => h) hHeld (by rfl) ?_
     (try simp only [Act.put, putS])
     refine ord_skip (i := 7) (preB 8 7) rfl (by kernel_rfl) (by kernel_rfl) (by kernel_rfl) (by kernel_rfl) (fun _ _ _ h => h) hHeld (by rfl) ?_
     (try simp only [Act.put, putS])
     refine ord_skip (i := 8) (preB 9 6) rfl (by kernel_rfl) (by kernel_rfl) (by kernel_rfl) (by kernel_rfl) (fun _ _ _ h => h) hHeld (by rfl) ?_
     (try simp only [Act.put, putS])
     refine ord_skip (i := 9) (preB 10 5) rfl (by kernel_rfl) (by kernel_rfl) (by kernel_rfl) (by kernel_rfl) (fun _ _ _ h => h) hHeld (by rfl) ?_
     (try simp only [Act.put, putS])
     refine ord_skip (i := 10) (preB 11 4) rfl (by kernel_rfl) (by kernel_rfl) (by kernel_rfl) (by kernel_rfl) (fun _ _ _ h => h) hHeld (by rfl) ?_
     (try simp only [Act.put, putS])
     refine ord_skip (i := 11) (preB 12 3) rfl (by kernel_rfl) (by kernel_rfl) (by kernel_rfl) (by kernel_rfl) (fun _ _ _ h => h) hHeld (by rfl) ?_
     (try simp only [Act.put, putS])
     refine ord_skip (i := 12) (preB 13 2) rfl (by kernel_rfl) (by kernel_rfl) (by kernel_rfl) (by kernel_rfl) (fun _ _ _ h => h) hHeld (by rfl) ?_
     (try simp only [Act.put, putS])
     refine ord_skip (i := 13) (preB 14 1) rfl (by kernel_rfl) (by kernel_rfl) (by kernel_rfl) (by kernel_rfl) (fun _ _ _ h => h) hHeld (by rfl) ?_
     (try simp only [Act.put, putS])
     refine oS (i := 14) (preB 15 0) rfl hHeld ?_
     (try simp only [Act.put, putS])
     refine wpAnyH_done (by kernel_rfl) ?_ _
     go_wp2_with fail
     all_goals (go_ret; exact ⟨_, rfl, fun h => by first | exact HG.out | exact absurd h (by decide), QL.out.trans belT⟩)
 ·have dE : (E != 0) = true := by simpa using hz
  have HZ := hide hz
  clear hz
  go_wp2_with fail
  go_ret
  exact ⟨_, rfl, fun h => absurd h HZ.out, Q1.out⟩
end Go.Proofs.YtpghciiifnjimaaGreatDoor
namespace Go.Proofs.YtpghciiifnjimaaGreatDoor
set_option maxRecDepth 4000
set_option linter.unusedSimpArgs false
set_option linter.unusedVariables false
open Go.RowKit
set_option maxRecDepth 8000 in
set_option maxHeartbeats 4000000 in
theorem wslegs_any (A : Option Addr) (n cap : Nat) (c : Nat → Nat → Tr) (C : Nat → Nat → Value) (hk : RowK 10 n c) (B : Option Addr) (m cbp : Nat) (d : Nat → Nat → Tr) (D : Nat → Nat → Value) (hk2 : RowK 10 m d) (w : World) (hA : RowT (Old w) w 10 A n c C) (hB : RowT (Old w) w 10 B m d D) :
  Calls Tryz.prog 199 #[.slice A n cap, .slice B m cbp] w (SomB w) := by
 have HK := hide hk
 have HA := hide hA
 have HK2 := hide hk2
 have HB := hide hB
 have hn : n ≤ 140737488351232 := by have := hk.room; simp only [tby] at this; omega
 clear hk hA hk2 hB
 by_cases hnm : n = m
 ·subst hnm
  go_enter Tryz.func199, Tryz.ntmps199
  go_wp2_with fail
  go_loopw [5] (fun v wr => KB n w v wr) (fun v _ => n - (intOf v).toNat)
  case atStart => exact ⟨0, by omega, rfl, Below.refl _ _⟩
  case round =>
   obtain ⟨k, hkn, rfl, hb⟩ := hrel
   have H0 := hide hb
   by_cases hlt : k < n
   ·have hm : (k : Int) < n := by omega
    have hk0 : (0 : Int) ≤ k := by omega
    have HLT := hide hlt
    obtain ⟨b, off, rfl, hbl, hc⟩ := (HA.out.below hb).all (by decide) (by omega)
    obtain ⟨b2, off2, rfl, hbl2, hc2⟩ := (HB.out.below hb).all (by decide) (by omega)
    obtain ⟨z0, _, e0, _⟩ := rd_int (HA.out.rd k 0 hlt (by decide)) (HK.out.wt k 0 hlt (by decide))
    obtain ⟨z1, _, e1, _⟩ := rd_int (HA.out.rd k 1 hlt (by decide)) (HK.out.wt k 1 hlt (by decide))
    obtain ⟨s2, _, e2, _⟩ := rd_str (HA.out.rd k 2 hlt (by decide)) (HK.out.wt k 2 hlt (by decide))
    obtain ⟨y0, _, f0, _⟩ := rd_int (HB.out.rd k 0 hlt (by decide)) (HK2.out.wt k 0 hlt (by decide))
    obtain ⟨y1, _, f1, _⟩ := rd_int (HB.out.rd k 1 hlt (by decide)) (HK2.out.wt k 1 hlt (by decide))
    obtain ⟨t2, _, f2, _⟩ := rd_str (HB.out.rd k 2 hlt (by decide)) (HK2.out.wt k 2 hlt (by decide))
    have c0 : wr.cell? ⟨b, off + k * 3, none⟩ = some (.int .i64 z0) := by have hcc := hc k 0 hlt (by decide); rw [e0] at hcc; exact hcc
    have c1 : wr.cell? ⟨b, off + k * 3 + 1, none⟩ = some (.int .i64 z1) := by have hcc := hc k 1 hlt (by decide); rw [e1] at hcc; exact hcc
    have c2 : wr.cell? ⟨b, off + k * 3 + 2, none⟩ = some (.string s2) := by have hcc := hc k 2 hlt (by decide); rw [e2] at hcc; exact hcc
    have d0 : wr.cell? ⟨b2, off2 + k * 3, none⟩ = some (.int .i64 y0) := by have hcc := hc2 k 0 hlt (by decide); rw [f0] at hcc; exact hcc
    have d1 : wr.cell? ⟨b2, off2 + k * 3 + 1, none⟩ = some (.int .i64 y1) := by have hcc := hc2 k 1 hlt (by decide); rw [f1] at hcc; exact hcc
    have d2 : wr.cell? ⟨b2, off2 + k * 3 + 2, none⟩ = some (.string t2) := by have hcc := hc2 k 2 hlt (by decide); rw [f2] at hcc; exact hcc
    clear hc hc2 hlt hkn hb e0 e1 e2 f0 f1 f2
    obtain ⟨bb, hbb⟩ : ∃ bb : Bool, bb = (if z0 = y0 then if z1 = y1 then if s2.toList = t2.toList then false else true else true else true) := ⟨_, rfl⟩
    have HBB := hide hbb
    clear hbb
    go_wp2_with fail
    refine ord_start (SB (wr.heap.size) [] _) 9 (preB 0 9) (by kernel_rfl) (by kernel_rfl) (by kernel_rfl) SB.refl.drew (fun hHeld => ?_)
    refine oS (i := 0) (preB 1 8) rfl hHeld ?_
    (try simp only [Act.put, putS])
    refine oS (i := 1) (preB 2 7) rfl hHeld ?_
    (try simp only [Act.put, putS])
    refine oS (i := 2) (preB 3 6) rfl hHeld ?_
    (try simp only [Act.put, putS])
    refine oS (i := 3) (preB 4 5) rfl hHeld ?_
    (try simp only [Act.put, putS])
    refine oS (i := 4) (preB 5 4) rfl hHeld ?_
    (try simp only [Act.put, putS])
    refine oS (i := 5) (preB 6 3) rfl hHeld ?_
    (try simp only [Act.put, putS])
    refine oS (i := 6) (preB 7 2) rfl hHeld ?_
    (try simp only [Act.put, putS])
    refine oS (i := 7) (preB 8 1) rfl hHeld ?_
    (try simp only [Act.put, putS])
    refine oT (i := 8) (preB 9 0) (.bool bb) rfl hHeld (fun wx hSx => ?_) ?_
    ·(unfold SB at hSx; go_simp; (rw [HBB.out]; (repeat' split) <;> rfl))
    (try simp only [Act.put, putS])
    refine wpAnyH_done (by kernel_rfl) ?_ _
    go_wp2_with fail
    all_goals first
     | (go_ret; exact ⟨⟨_, rfl⟩, H0.out.trans belT⟩)
     | (go_roundw; (case rel => exact ⟨k + 1, HLT.out, by go_num, H0.out.trans belT⟩); (case measure => have := HLT.out; simp [intOf]; omega))
   ·obtain rfl : k = n := by omega
    clear hlt hkn hb
    go_wp2_with fail
    go_ret
    exact ⟨⟨_, rfl⟩, H0.out⟩
 ·have e3 : ((n : Int) != m) = true := by simp; omega
  have e4 : (n != m) = true := by simp; omega
  go_enter Tryz.func199, Tryz.ntmps199
  go_wp2_with fail
  go_ret
  exact ⟨⟨_, rfl⟩, by (repeat (first | (with_reducible first | exact Below.refl _ _ | assumption | refine Below.drew ?_) | ((with_reducible first | refine Below.alloc ?_ ?_ _ | refine Below.setCell ?_ ?_ _); rotate_left; (first | omega | (simp <;> omega)))))⟩
set_option maxRecDepth 8000 in
set_option maxHeartbeats 4000000 in
theorem wsame19_any {c1 c2 : Nat → Tr} (k1 : KnOK 11 c1) (k2 : KnOK 11 c2) (w : World) (X Y : Array Value) (hX : ElT (Old w) w 11 c1 X) (hY : ElT (Old w) w 11 c2 Y) : Calls Tryz.prog 153 #[.agg X, .agg Y] w (OkB (intOf (lfv (c1 0)) = intOf (lfv (c2 0))) w) := by
 have hXs : X.size = 10 := hX.size
 have hYs : Y.size = 10 := hY.size
 obtain ⟨z0, q0, e0, _⟩ := rd_int (hX.rd 0 (by decide)) (k1 0 (by decide))
 obtain ⟨y0, r0, f0, _⟩ := rd_int (hY.rd 0 (by decide)) (k2 0 (by decide))
 have g0 : X[0]? = some (.int .i64 z0) := at_eq hXs (by decide) e0
 have j0 : Y[0]? = some (.int .i64 y0) := at_eq hYs (by decide) f0
 obtain ⟨z1, _, e1, _⟩ := rd_int (hX.rd 1 (by decide)) (k1 1 (by decide))
 obtain ⟨y1, _, f1, _⟩ := rd_int (hY.rd 1 (by decide)) (k2 1 (by decide))
 have g1 : X[1]? = some (.int .i64 z1) := at_eq hXs (by decide) e1
 have j1 : Y[1]? = some (.int .i64 y1) := at_eq hYs (by decide) f1
 clear e1 f1
 obtain ⟨z2, _, e2, _⟩ := rd_int (hX.rd 2 (by decide)) (k1 2 (by decide))
 obtain ⟨y2, _, f2, _⟩ := rd_int (hY.rd 2 (by decide)) (k2 2 (by decide))
 have g2 : X[2]? = some (.int .i64 z2) := at_eq hXs (by decide) e2
 have j2 : Y[2]? = some (.int .i64 y2) := at_eq hYs (by decide) f2
 clear e2 f2
 obtain ⟨z3, _, e3, _⟩ := rd_int (hX.rd 3 (by decide)) (k1 3 (by decide))
 obtain ⟨y3, _, f3, _⟩ := rd_int (hY.rd 3 (by decide)) (k2 3 (by decide))
 have g3 : X[3]? = some (.int .i64 z3) := at_eq hXs (by decide) e3
 have j3 : Y[3]? = some (.int .i64 y3) := at_eq hYs (by decide) f3
 clear e3 f3
 obtain ⟨z4, _, e4, _⟩ := rd_int (hX.rd 4 (by decide)) (k1 4 (by decide))
 obtain ⟨y4, _, f4, _⟩ := rd_int (hY.rd 4 (by decide)) (k2 4 (by decide))
 have g4 : X[4]? = some (.int .i64 z4) := at_eq hXs (by decide) e4
 have j4 : Y[4]? = some (.int .i64 y4) := at_eq hYs (by decide) f4
 clear e4 f4
 obtain ⟨z5, _, e5, _⟩ := rd_int (hX.rd 5 (by decide)) (k1 5 (by decide))
 obtain ⟨y5, _, f5, _⟩ := rd_int (hY.rd 5 (by decide)) (k2 5 (by decide))
 have g5 : X[5]? = some (.int .i64 z5) := at_eq hXs (by decide) e5
 have j5 : Y[5]? = some (.int .i64 y5) := at_eq hYs (by decide) f5
 clear e5 f5
 obtain ⟨z6, _, e6, _⟩ := rd_str (hX.rd 6 (by decide)) (k1 6 (by decide))
 obtain ⟨y6, _, f6, _⟩ := rd_str (hY.rd 6 (by decide)) (k2 6 (by decide))
 have g6 : X[6]? = some (.string z6) := at_eq hXs (by decide) e6
 have j6 : Y[6]? = some (.string y6) := at_eq hYs (by decide) f6
 clear e6 f6
 obtain ⟨z7, _, e7, _⟩ := rd_str (hX.rd 7 (by decide)) (k1 7 (by decide))
 obtain ⟨y7, _, f7, _⟩ := rd_str (hY.rd 7 (by decide)) (k2 7 (by decide))
 have g7 : X[7]? = some (.string z7) := at_eq hXs (by decide) e7
 have j7 : Y[7]? = some (.string y7) := at_eq hYs (by decide) f7
 clear e7 f7
 obtain ⟨n, c, q8, hk, A, cap, C, e8, _, hA⟩ := rd_row (e := 10) (hX.rd 8 (by decide)) (k1 8 (by decide))
 obtain ⟨m, d, r8, hk2, B, cbp, D, f8, _, hB⟩ := rd_row (e := 10) (hY.rd 8 (by decide)) (k2 8 (by decide))
 have g8 : X[8]? = some (.slice A n cap) := at_eq hXs (by decide) e8
 have j8 : Y[8]? = some (.slice B m cbp) := at_eq hYs (by decide) f8
 obtain ⟨z9, _, e9, _⟩ := rd_u64 (hX.rd 9 (by decide)) (k1 9 (by decide))
 obtain ⟨y9, _, f9, _⟩ := rd_u64 (hY.rd 9 (by decide)) (k2 9 (by decide))
 have g9 : X[9]? = some (.int .u64 z9) := at_eq hXs (by decide) e9
 have j9 : Y[9]? = some (.int .u64 y9) := at_eq hYs (by decide) f9
 have HE := hide (show z0 = y0 → intOf (lfv (c1 0)) = intOf (lfv (c2 0)) from fun h => by rw [q0, r0]; exact h)
 have HK := hide hk
 have HA := hide hA
 have HK2 := hide hk2
 have HB := hide hB
 clear hk hk2 hA hB hX hY hXs hYs k1 k2 q0 r0 q8 r8 e0 f0 e8 f8 e9 f9
 by_cases h0 : z0 = y0
 ·have HZ := hide (HE.out h0)
  have d0 : (z0 == y0) = true := by simpa using h0
  clear h0
  go_enter Tryz.func153, Tryz.ntmps153
  go_wp2_with (go_at_call 199; refine (wslegs_any A n cap c C HK.out B m cbp d D HK2.out _ (HA.out.below belT) (HB.out.below belT)).mono ?_; rintro r w1 ⟨⟨b1, rfl⟩, hb⟩; have hB1 := hb)
  all_goals (go_ret; exact ⟨_, rfl, fun _ => HZ.out, by first | (refine Below.trans ?_ (hB1.mono (by simp; omega)); (repeat (first | (with_reducible first | exact Below.refl _ _ | assumption | refine Below.drew ?_) | ((with_reducible first | refine Below.alloc ?_ ?_ _ | refine Below.setCell ?_ ?_ _); rotate_left; (first | omega | (simp <;> omega)))))) | (repeat (first | (with_reducible first | exact Below.refl _ _ | assumption | refine Below.drew ?_) | ((with_reducible first | refine Below.alloc ?_ ?_ _ | refine Below.setCell ?_ ?_ _); rotate_left; (first | omega | (simp <;> omega)))))⟩)
 ·have d0 : (z0 == y0) = false := by simpa using h0
  clear h0
  go_enter Tryz.func153, Tryz.ntmps153
  go_wp2_with fail
  go_ret
  exact ⟨_, rfl, nofun, by (repeat (first | (with_reducible first | exact Below.refl _ _ | assumption | refine Below.drew ?_) | ((with_reducible first | refine Below.alloc ?_ ?_ _ | refine Below.setCell ?_ ?_ _); rotate_left; (first | omega | (simp <;> omega)))))⟩
end Go.Proofs.YtpghciiifnjimaaGreatDoor
