/- Texts laid together: ShA TpM Wb Tb Tc. -/
import Derived.Test.YtpghciiifnjimaaGreatDoorXNum
import Derived.Test.YtpghciiifnjimaaGreatDoorXTpL
import Derived.Test.YtpghciiifnjimaaGreatDoorXTrM
import Derived.Test.YtpghciiifnjimaaGreatDoorProg
import Derived.KernelRfl
import Derived.WalkSpells
import Derived.WalkLawsBesides
import Derived.Sort.WalkA
import Derived.Deep.QuietTactic
import Derived.BigQuiet
import Derived.Deep.RegionHeld3
import Derived.Deep.DeepCutAuto
import Derived.Test.YtpghciiifnjimaaGreatDoorXK0
namespace Go.Proofs.YtpghciiifnjimaaGreatDoor
set_option maxRecDepth 4000
set_option linter.unusedSimpArgs false
set_option linter.unusedVariables false
open Go.RowKit
/-- One step of the digest, in the walk's own words. -/
def hx (x : Int) (b : UInt8) : Int := IntKind.u64.wrap (bits BinOp.xor IntKind.u64 x (IntKind.u64.wrap (b.toNat : Int)) * 1099511628211)
def hext (h : Int) (l : List UInt8) : Int := l.foldl hx h
theorem hext_succ {h : Int} {s : ByteArray} {k : Nat} (hk : k < s.size) : hext h (s.data.toList.take (k + 1)) = hx (hext h (s.data.toList.take k)) s[k] := by
 have hk2 : k < s.data.toList.length := by simpa using hk
 rw [List.take_succ_eq_append_getElem hk2]
 unfold hext
 rw [List.foldl_append]
 simp; rfl
def ExtInv (h : Int) (s : ByteArray) (w : World) (v0 v8 : Value) (wr : World) : Prop :=
 ∃ k : Nat, k ≤ s.size ∧ v0 = .int .u64 (hext h (s.data.toList.take k)) ∧ v8 = .int .i64 k ∧ Below w.heap.size w wr
theorem dext_any (h : Int) (s : ByteArray) (hl : s.size ≤ 140737488355328) (w : World) :
  Calls Tryz.prog 190 #[.int .u64 h, .string s] w fun e w' => e = .returned (.int .u64 (hext h s.data.toList)) ∧ Below w.heap.size w w' := by
 go_enter Tryz.func190, Tryz.ntmps190
 go_wp2_with fail
 go_loopw [0, 8] (fun v0 v8 wr => ExtInv h s w v0 v8 wr) (fun _ v _ => s.size - (intOf v).toNat)
 case atStart => exact ⟨0, by omega, by simp [hext], rfl, by (repeat (first | (with_reducible first | exact Below.refl _ _ | assumption | refine Below.drew ?_) | ((with_reducible first | refine Below.alloc ?_ ?_ _ | refine Below.setCell ?_ ?_ _); rotate_left; (first | omega | (simp <;> omega)))))⟩
 case round =>
  obtain ⟨k, hk, rfl, rfl, hB⟩ := hrel
  by_cases hlt : k < s.size
  ·have hm1 : (k : Int) < s.size := by omega
   go_wp2_with fail
   go_roundw
   case rel => exact ⟨k + 1, by omega, by rw [hext_succ hlt]; rfl, by go_num, hB⟩
   case measure => simp [intOf]; omega
  ·have hm1 : ¬ (k : Int) < s.size := by omega
   have hkn : k = s.size := by omega
   have HE := hide (show hext h (s.data.toList.take k) = hext h s.data.toList from by rw [hkn, List.take_of_length_le (by simp)])
   clear hkn
   go_wp2_with fail
   go_ret
   exact ⟨by rw [← HE.out]; rfl, hB⟩
theorem rext_any (h : Int) (s : ByteArray) (hl : s.size ≤ 140737488355328) (w : World) :
  Calls Tryz.prog 244 #[.int .u64 h, .string s] w fun e w' => e = .returned (.int .u64 (hext h s.data.toList)) ∧ Below w.heap.size w w' := by
 go_enter Tryz.func244, Tryz.ntmps244
 go_wp2_with fail
 go_loopw [0, 5] (fun v0 v8 wr => ExtInv h s w v0 v8 wr) (fun _ v _ => s.size - (intOf v).toNat)
 case atStart => exact ⟨0, by omega, by simp [hext], rfl, by (repeat (first | (with_reducible first | exact Below.refl _ _ | assumption | refine Below.drew ?_) | ((with_reducible first | refine Below.alloc ?_ ?_ _ | refine Below.setCell ?_ ?_ _); rotate_left; (first | omega | (simp <;> omega)))))⟩
 case round =>
  obtain ⟨k, hk, rfl, rfl, hB⟩ := hrel
  by_cases hlt : k < s.size
  ·have hm1 : (k : Int) < s.size := by omega
   go_wp2_with fail
   go_roundw
   case rel => exact ⟨k + 1, by omega, by rw [hext_succ hlt]; rfl, by go_num, hB⟩
   case measure => simp [intOf]; omega
  ·have hm1 : ¬ (k : Int) < s.size := by omega
   have hkn : k = s.size := by omega
   have HE := hide (show hext h (s.data.toList.take k) = hext h s.data.toList from by rw [hkn, List.take_of_length_le (by simp)])
   clear hkn
   go_wp2_with fail
   go_ret
   exact ⟨by rw [← HE.out]; rfl, hB⟩
end Go.Proofs.YtpghciiifnjimaaGreatDoor
namespace Go.Proofs.YtpghciiifnjimaaGreatDoor
set_option maxRecDepth 4000
set_option linter.unusedSimpArgs false
set_option linter.unusedVariables false
open Go.RowKit
/-- What R10.right answers over any tree: some bool. -/
def RtAll : Prop := ∀ (ck : Nat → Tr), KnOK 5 ck → ∀ (w : World) (X : Array Value), ElT (Old w) w 5 ck X → Calls Tryz.prog 304 #[.agg X] w (SomB w)
set_option maxRecDepth 8000 in
set_option maxHeartbeats 4000000 in
theorem wval10_any (hR : RtAll) {ck : Nat → Tr} (kn : KnOK 5 ck) (w : World) (X : Array Value) (hX : ElT (Old w) w 5 ck X) : Calls Tryz.prog 275 #[.agg X] w (SomE w) := by
 obtain ⟨x0, x1, x2, x3, rfl⟩ := arr4 (show X.size = 4 from hX.size)
 have HX := hide hX
 have HKN := hide kn
 have HR := hide (hR ck kn)
 have HNM := hide (treeE nm_expr kn)
 clear hX kn hR
 go_enter Tryz.func275, Tryz.ntmps275
 go_wp2_with fail
 refine (wgr10_any HKN.out _ _ 64 (HX.out.below belT) (by decide) (by decide)).mono ?_
 rintro r w1 ⟨b1, rfl, hq, hb⟩
 have HQ := hide hq
 clear hq
 have q1B : Below w.heap.size w w1 := qB hb
 have q1z := hb.size
 try simp at q1z
 have q1t : w.heap.size ≤ w1.heap.size := (by omega)
 obtain ⟨q1s0, q1n0_0, q1n0_1, q1n0_2⟩ := kB w1.heap.size w.heap.size
 obtain ⟨q1c0_0, q1c0_1, q1c0_2, q1c0_3, q1f0⟩ := kC4 hb w.heap.size
 simp [go_sem, *] at q1c0_0 q1c0_1 q1c0_2 q1c0_3 q1f0
 have q1o := belO q1B
 clear hb
 have B1 := hide q1B
 cases b1 with
 | true =>
  go_wp2_with fail
  go_ret
  exact ⟨⟨_, rfl⟩, B1.out⟩
 | false =>
  have HN := hide (HQ.out rfl)
  go_wp2_with fail
  refine (wdepth_any HKN.out _ _ (HX.out.below B1.out)).mono ?_
  rintro r w2 ⟨⟨z2, rfl⟩, hb⟩
  have B2 := hide (B1.out.trans (hb.mono B1.out.size))
  have q2B : Below w1.heap.size w1 w2 := qB hb
  have q2z := hb.size
  try simp at q2z
  have q2t : w1.heap.size ≤ w2.heap.size := (by omega)
  obtain ⟨q2s0, q2n0_0, q2n0_1, q2n0_2⟩ := kB w2.heap.size w.heap.size
  obtain ⟨q2c0_0, q2c0_1, q2c0_2, q2c0_3, q2f0⟩ := kC4 hb w.heap.size
  simp [go_sem, *] at q2c0_0 q2c0_1 q2c0_2 q2c0_3 q2f0
  have q2o := belO q2B
  clear hb q1o q1f0 q1c0_3 q1c0_2 q1c0_1 q1c0_0 q1s0 q1z q1B
  by_cases h8 : 8 < z2
  ·go_wp2_with fail
   go_ret
   exact ⟨⟨_, rfl⟩, B2.out⟩
  go_wp2_with fail
  refine (HR.out _ _ (HX.out.below B2.out)).mono ?_
  rintro r w3 ⟨⟨b3, rfl⟩, hb⟩
  have B3 := hide (B2.out.trans (hb.mono B2.out.size))
  have q3B : Below w2.heap.size w2 w3 := qB hb
  have q3z := hb.size
  try simp at q3z
  have q3t : w2.heap.size ≤ w3.heap.size := (by omega)
  obtain ⟨q3s0, q3n0_0, q3n0_1, q3n0_2⟩ := kB w3.heap.size w.heap.size
  obtain ⟨q3c0_0, q3c0_1, q3c0_2, q3c0_3, q3f0⟩ := kC4 hb w.heap.size
  simp [go_sem, *] at q3c0_0 q3c0_1 q3c0_2 q3c0_3 q3f0
  have q3o := belO q3B
  clear hb q2o q2f0 q2c0_3 q2c0_2 q2c0_1 q2c0_0 q2s0 q2z q2B
  cases b3 with
  | false =>
   go_wp2_with fail
   go_ret
   exact ⟨⟨_, rfl⟩, B3.out⟩
  | true =>
   go_wp2_with fail
   refine (HNM.out _ _ (HX.out.below B3.out) (by have := HN.out; omega)).mono ?_
   rintro r w4 ⟨A, n, c, rfl, hn, hc, hs, hb⟩
   have B4 := hide (B3.out.trans (hb.mono B3.out.size))
   have HS := hide hs
   have hn2 : n ≤ 100 := by have := HN.out; omega
   clear hs hb hn
   go_wp2_with fail
   go_loopw [4] (fun v wr => KB n w4 v wr) (fun v _ => n - (intOf v).toNat)
   case atStart => exact ⟨0, by omega, rfl, Below.refl _ _⟩
   case round =>
    obtain ⟨k, hk, rfl, hb⟩ := hrel
    have H0 := hide hb
    have BL := hide (B4.out.trans (hb.mono B4.out.size))
    by_cases hlt : k < n
    ·have hm : (k : Int) < n := by omega
     have hk0 : (0 : Int) ≤ k := by omega
     have HLT := hide hlt
     obtain ⟨b, off, s, rfl, hbl, hc5⟩ := (HS.out.below hb).at hlt
     clear hlt hk hb
     go_wp2_with fail
     refine (wvar10_any s _).mono ?_
     rintro r w5 ⟨⟨b5, rfl⟩, hb⟩
     cases b5 with
     | false =>
      go_wp2_with fail
      go_ret
      exact ⟨⟨_, rfl⟩, BL.out.trans (hb.mono BL.out.size)⟩
     | true =>
      go_wp2_with fail
      go_roundw
      case rel => exact ⟨k + 1, HLT.out, by go_num, H0.out.trans (hb.mono H0.out.size)⟩
      case measure => have := HLT.out; simp [intOf]; omega
    ·obtain rfl : k = n := by omega
     clear hlt hk hb
     go_wp2_with fail
     go_ret
     exact ⟨⟨_, rfl⟩, BL.out⟩
set_option maxRecDepth 8000 in
set_option maxHeartbeats 4000000 in
theorem wof11_any (hR : RtAll) {ck : Nat → Tr} (kn : KnOK 5 ck) (w : World) (X : Array Value) (V : Option Addr) (nv pv : Nat) (hX : ElT (Old w) w 5 ck X) (hnv : nv ≤ 1000) (hV : VRow w V nv) : Calls Tryz.prog 241 #[.agg X, .slice V nv pv] w (TuE w) := by
 obtain ⟨x0, x1, x2, x3, rfl⟩ := arr4 (show X.size = 4 from hX.size)
 have HX := hide hX
 have HV := hide hV
 have HKN := hide kn
 have HR := hide hR
 clear hX kn hR hV
 go_enter Tryz.func241, Tryz.ntmps241
 go_wp2_with fail
 refine (wval10_any HR.out HKN.out _ _ (HX.out.below belT)).mono ?_
 rintro r w1 ⟨⟨z1, rfl⟩, hb⟩
 have q1B : Below w.heap.size w w1 := qB hb
 have q1z := hb.size
 try simp at q1z
 have q1t : w.heap.size ≤ w1.heap.size := (by omega)
 obtain ⟨q1s0, q1n0_0, q1n0_1, q1n0_2⟩ := kB w1.heap.size w.heap.size
 obtain ⟨q1c0_0, q1c0_1, q1c0_2, q1c0_3, q1f0⟩ := kC4 hb w.heap.size
 simp [go_sem, *] at q1c0_0 q1c0_1 q1c0_2 q1c0_3 q1f0
 have q1o := belO q1B
 clear hb
 have B1 := hide q1B
 by_cases h0 : z1 = 0
 ·subst h0
  go_wp2_with fail
  refine (treeE of_expr HKN.out _ _ V nv pv (HX.out.below B1.out) hnv (HV.out.below B1.out)).mono ?_
  rintro r w2 ⟨⟨z2, f2, rfl⟩, hb⟩
  go_wp2_with fail
  all_goals ((first | go_ret | go_ret2) <;> exact ⟨⟨_, _, rfl⟩, B1.out.trans (hb.mono B1.out.size)⟩)
 ·have d0 : (z1 != 0) = true := by simpa using h0
  clear h0
  go_wp2_with fail
  all_goals ((first | go_ret | go_ret2) <;> exact ⟨⟨_, _, rfl⟩, B1.out⟩)
set_option maxRecDepth 8000 in
set_option maxHeartbeats 4000000 in
theorem wcheck11_any (hR : RtAll) {ck : Nat → Tr} (kn : KnOK 5 ck) (w : World) (X : Array Value) (V : Option Addr) (nv pv : Nat) (t : Int) (hX : ElT (Old w) w 5 ck X) (hnv : nv ≤ 1000) (hV : VRow w V nv) : Calls Tryz.prog 196 #[.agg X, .slice V nv pv, .int .i64 t] w (SomE w) := by
 obtain ⟨x0, x1, x2, x3, rfl⟩ := arr4 (show X.size = 4 from hX.size)
 have HX := hide hX
 have HV := hide hV
 have HKN := hide kn
 have HR := hide hR
 clear hX kn hR hV
 go_enter Tryz.func196, Tryz.ntmps196
 go_wp2_with fail
 refine (wof11_any HR.out HKN.out _ _ V nv pv (HX.out.below belT) hnv (HV.out.below belT)).mono ?_
 rintro r w1 ⟨⟨z1, f1, rfl⟩, hb⟩
 have q1B : Below w.heap.size w w1 := qB hb
 have q1z := hb.size
 try simp at q1z
 have q1t : w.heap.size ≤ w1.heap.size := (by omega)
 have q1o := belO q1B
 clear hb
 go_wp2_with fail
 all_goals (go_ret; exact ⟨⟨_, rfl⟩, q1B⟩)
def VarR (w : World) (e : Ending) (w' : World) : Prop := ∃ V n c, e = .returned (.slice V n c) ∧ n ≤ 1000 ∧ VRow w' V n ∧ Below w.heap.size w w'
set_option maxRecDepth 8000 in
theorem wvars15_any (w : World) : Calls Tryz.prog 197 #[] w (VarR w) := by
 go_enter Tryz.func197, Tryz.ntmps197
 go_wp2_with fail
 go_ret
 refine ⟨_, _, _, rfl, by omega, fun _ => ⟨w.heap.size, 0, rfl, by simp, fun k hk => ?_⟩, by (repeat (first | (with_reducible first | exact Below.refl _ _ | assumption | refine Below.drew ?_) | ((with_reducible first | refine Below.alloc ?_ ?_ _ | refine Below.setCell ?_ ?_ _); rotate_left; (first | omega | (simp <;> omega)))))⟩
 match k, hk with
 | 0, _ => exact ⟨_, _, by simp [go_sem]; rfl, by simp [go_sem]; rfl⟩
 | 1, _ => exact ⟨_, _, by simp [go_sem]; rfl, by simp [go_sem]; rfl⟩
 | 2, _ => exact ⟨_, _, by simp [go_sem]; rfl, by simp [go_sem]; rfl⟩
 | 3, _ => exact ⟨_, _, by simp [go_sem]; rfl, by simp [go_sem]; rfl⟩
 | 4, _ => exact ⟨_, _, by simp [go_sem]; rfl, by simp [go_sem]; rfl⟩
 | 5, _ => exact ⟨_, _, by simp [go_sem]; rfl, by simp [go_sem]; rfl⟩
 | 6, _ => exact ⟨_, _, by simp [go_sem]; rfl, by simp [go_sem]; rfl⟩
end Go.Proofs.YtpghciiifnjimaaGreatDoor
namespace Go.Proofs.YtpghciiifnjimaaGreatDoor
set_option maxRecDepth 4000
set_option linter.unusedSimpArgs false
set_option linter.unusedVariables false
open Go.RowKit
theorem ret_int {k : IntKind} {a b : Int} (h : a = b) : Ending.returned (.int k a) = .returned (.int k b) := by rw [h]
end Go.Proofs.YtpghciiifnjimaaGreatDoor
namespace Go.Proofs.YtpghciiifnjimaaGreatDoor
set_option maxRecDepth 4000
set_option linter.unusedSimpArgs false
set_option linter.unusedVariables false
open Go.RowKit
def CheckInv (n : Nat) (f g : Nat → Int) (w : World) (v : Value) (wr : World) : Prop :=
 ∃ k : Nat, k ≤ n ∧ v = .int .i64 k ∧ allB k f g ∧ Below w.heap.size w wr
end Go.Proofs.YtpghciiifnjimaaGreatDoor
namespace Go.Proofs.YtpghciiifnjimaaGreatDoor
set_option maxRecDepth 4000
set_option linter.unusedSimpArgs false
set_option linter.unusedVariables false
open Go.RowKit
def RCheckInv2 (n : Nat) (f : Nat → Int) (w : World) (v : Value) (wr : World) : Prop :=
 ∃ m : Nat, (m + 1 ≤ n ∨ m = 0) ∧ v = .int .i64 (m + 1 : Nat) ∧ ascB (m + 1) f ∧ Below w.heap.size w wr
set_option maxHeartbeats 2000000 in
theorem rcheck_any (A : Option Addr) (n c : Nat) (f g : Nat → Int) (hl : n ≤ 140737488355328) (w : World) (hr : Row2 w A n f g) :
  Calls Tryz.prog 195 #[.slice A n c] w fun e w' => e = .returned (.int .i64 (chk n f g)) ∧ Below w.heap.size w w' := by
 by_cases hn : 6 < n
 ·have HC := hide (chk_5 (f := f) (g := g) hn)
  go_enter Tryz.func195, Tryz.ntmps195
  go_wp2_with fail
  go_ret
  exact ⟨ret_int HC.out.symm, by (repeat (first | (with_reducible first | exact Below.refl _ _ | assumption | refine Below.drew ?_) | ((with_reducible first | refine Below.alloc ?_ ?_ _ | refine Below.setCell ?_ ?_ _); rotate_left; (first | omega | (simp <;> omega)))))⟩
 have hn := Nat.not_lt.1 hn
 go_enter Tryz.func195, Tryz.ntmps195
 go_wp2_with fail
 go_loopw [3] (fun v wr => CheckInv n f g w v wr) (fun v _ => n - (intOf v).toNat)
 case atStart => exact ⟨0, by omega, rfl, fun j hj => by omega, Below.refl _ _⟩
 case round =>
  obtain ⟨k, hk, rfl, ha, hB⟩ := hrel
  have HA := hide ha
  clear ha
  have hzB := hB.size
  by_cases hlt : k < n
  ·obtain ⟨b, off, rfl, hbl, hc⟩ := (hr.below hB) (by omega)
   obtain ⟨c0, c1⟩ := hc k hlt
   clear hc
   by_cases hin : inB (f k) (g k)
   ·have HD := hide (allB_succ HA.out hin)
    obtain ⟨i1, i2, i3, i4⟩ := hin
    go_wp2_with fail
    go_roundw
    case rel => exact ⟨k + 1, by omega, by go_num, HD.out, by (repeat (first | (with_reducible first | exact Below.refl _ _ | assumption | refine Below.drew ?_) | ((with_reducible first | refine Below.alloc ?_ ?_ _ | refine Below.setCell ?_ ?_ _); rotate_left; (first | omega | (simp <;> omega)))))⟩
    case measure => simp [intOf]; omega
   ·have HD := hide (chk_1 hn hlt hin)
    have HI := hide hin
    clear hin
    go_wp2_with fail
    all_goals first
     | (go_ret; exact ⟨ret_int HD.out.symm, by (repeat (first | (with_reducible first | exact Below.refl _ _ | assumption | refine Below.drew ?_) | ((with_reducible first | refine Below.alloc ?_ ?_ _ | refine Below.setCell ?_ ?_ _); rotate_left; (first | omega | (simp <;> omega)))))⟩)
     | (exfalso; exact HI.out ⟨by omega, by omega, by omega, by omega⟩)
  ·have hkn : k = n := by omega
   subst hkn
   clear hlt hk hzB
   go_wp2_with fail
   go_loopw [4] (fun v wx => RCheckInv2 k f w v wx) (fun v _ => k - (intOf v).toNat)
   case atStart => exact ⟨0, by omega, rfl, fun j hj => by omega, hB⟩
   case round =>
    obtain ⟨m, hm, rfl, ha, hBx⟩ := hrel
    have HS := hide ha
    clear ha
    have hzB := hBx.size
    by_cases hlt : m + 1 < k
    ·obtain ⟨b, off, rfl, hbl, hc⟩ := (hr.below hBx) (by omega)
     obtain ⟨c0, c1⟩ := hc (m + 1) hlt
     obtain ⟨d0, d1⟩ := hc m (by omega)
     clear hc
     have hw : IntKind.i64.wrap (m : Int) = m := by rw [IntKind.wrap_i64]; omega
     have hm1 : (m : Int) < k := by omega
     have hm2 : (m : Int) + 1 < k := by omega
     have hm3 : (0 : Int) ≤ (m : Int) + 1 := by omega
     by_cases hlt2 : f m < f (m + 1)
     ·have HD := hide (ascB_succ (by omega) HS.out hlt2)
      go_wp2_with fail
      refine ord_start (SB (wr.heap.size) [] _) 12 (preB 0 12) (by kernel_rfl) (by kernel_rfl) (by kernel_rfl) SB.refl.drew (fun hHeld => ?_)
      refine oS (i := 0) (preB 1 11) rfl hHeld ?_
      (try simp only [Act.put, putS])
      refine oS (i := 1) (preB 2 10) rfl hHeld ?_
      (try simp only [Act.put, putS])
      refine oS (i := 2) (preB 3 9) rfl hHeld ?_
      (try simp only [Act.put, putS])
      refine oS (i := 3) (preB 4 8) rfl hHeld ?_
      (try simp only [Act.put, putS])
      refine oS (i := 4) (preB 5 7) rfl hHeld ?_
      (try simp only [Act.put, putS])
      refine oS (i := 5) (preB 6 6) rfl hHeld ?_
      (try simp only [Act.put, putS])
      refine oS (i := 6) (preB 7 5) rfl hHeld ?_
      (try simp only [Act.put, putS])
      refine oS (i := 7) (preB 8 4) rfl hHeld ?_
      (try simp only [Act.put, putS])
      refine oS (i := 8) (preB 9 3) rfl hHeld ?_
      (try simp only [Act.put, putS])
      refine oS (i := 9) (preB 10 2) rfl hHeld ?_
      (try simp only [Act.put, putS])
      refine oS (i := 10) (preB 11 1) rfl hHeld ?_
      (try simp only [Act.put, putS])
      refine oS (i := 11) (preB 12 0) rfl hHeld ?_
      (try simp only [Act.put, putS])
      refine wpAnyH_done (by kernel_rfl) ?_ _
      go_wp2_with fail
      go_roundw
      case rel => exact ⟨m + 1, by omega, by go_num, HD.out, by (repeat (first | (with_reducible first | exact Below.refl _ _ | assumption | refine Below.drew ?_) | ((with_reducible first | refine Below.alloc ?_ ?_ _ | refine Below.setCell ?_ ?_ _); rotate_left; (first | omega | (simp <;> omega)))))⟩
      case measure => simp [intOf]; omega
     ·have HD := hide (chk_10 (k := m + 1) hn HA.out (by omega) hlt (by simpa using hlt2))
      have hlt3 := Int.not_lt.1 hlt2
      clear hlt2
      go_wp2_with fail
      refine ord_start (SB (wr.heap.size) [] _) 12 (preB 0 12) (by kernel_rfl) (by kernel_rfl) (by kernel_rfl) SB.refl.drew (fun hHeld => ?_)
      refine oS (i := 0) (preB 1 11) rfl hHeld ?_
      (try simp only [Act.put, putS])
      refine oS (i := 1) (preB 2 10) rfl hHeld ?_
      (try simp only [Act.put, putS])
      refine oS (i := 2) (preB 3 9) rfl hHeld ?_
      (try simp only [Act.put, putS])
      refine oS (i := 3) (preB 4 8) rfl hHeld ?_
      (try simp only [Act.put, putS])
      refine oS (i := 4) (preB 5 7) rfl hHeld ?_
      (try simp only [Act.put, putS])
      refine oS (i := 5) (preB 6 6) rfl hHeld ?_
      (try simp only [Act.put, putS])
      refine oS (i := 6) (preB 7 5) rfl hHeld ?_
      (try simp only [Act.put, putS])
      refine oS (i := 7) (preB 8 4) rfl hHeld ?_
      (try simp only [Act.put, putS])
      refine oS (i := 8) (preB 9 3) rfl hHeld ?_
      (try simp only [Act.put, putS])
      refine oS (i := 9) (preB 10 2) rfl hHeld ?_
      (try simp only [Act.put, putS])
      refine oS (i := 10) (preB 11 1) rfl hHeld ?_
      (try simp only [Act.put, putS])
      refine oS (i := 11) (preB 12 0) rfl hHeld ?_
      (try simp only [Act.put, putS])
      refine wpAnyH_done (by kernel_rfl) ?_ _
      go_wp2_with fail
      go_ret
      exact ⟨ret_int HD.out.symm, by (repeat (first | (with_reducible first | exact Below.refl _ _ | assumption | refine Below.drew ?_) | ((with_reducible first | refine Below.alloc ?_ ?_ _ | refine Below.setCell ?_ ?_ _); rotate_left; (first | omega | (simp <;> omega)))))⟩
    ·have HS2 := hide (show ascB k f from fun j hj => HS.out j (by omega))
     by_cases h0 : 0 < k
     ·obtain ⟨b, off, rfl, hbl, hc⟩ := (hr.below hBx) h0
      obtain ⟨c0, c1⟩ := hc 0 h0
      simp only [Nat.zero_mul, Nat.add_zero] at c0 c1
      clear hc
      have h0' : (0 : Int) < k := by omega
      by_cases hz : f 0 = 0
      ·have HD := hide (chk_0 (g := g) hn HA.out HS2.out fun _ => hz)
       have hzb : (f 0 == 0) = true := beq_iff_eq.2 hz
       clear hz
       go_wp2_with fail
       go_ret
       exact ⟨ret_int HD.out.symm, by (repeat (first | (with_reducible first | exact Below.refl _ _ | assumption | refine Below.drew ?_) | ((with_reducible first | refine Below.alloc ?_ ?_ _ | refine Below.setCell ?_ ?_ _); rotate_left; (first | omega | (simp <;> omega)))))⟩
      ·have HD := hide (chk_01 (g := g) hn HA.out HS2.out h0 hz)
       have hzb : (f 0 == 0) = false := beq_eq_false_iff_ne.2 hz
       clear hz
       go_wp2_with fail
       go_ret
       exact ⟨ret_int HD.out.symm, by (repeat (first | (with_reducible first | exact Below.refl _ _ | assumption | refine Below.drew ?_) | ((with_reducible first | refine Below.alloc ?_ ?_ _ | refine Below.setCell ?_ ?_ _); rotate_left; (first | omega | (simp <;> omega)))))⟩
     ·have HD := hide (chk_0 (g := g) hn HA.out HS2.out fun h => absurd h h0)
      obtain rfl : k = 0 := by omega
      go_wp2_with fail
      go_ret
      exact ⟨ret_int HD.out.symm, by (repeat (first | (with_reducible first | exact Below.refl _ _ | assumption | refine Below.drew ?_) | ((with_reducible first | refine Below.alloc ?_ ?_ _ | refine Below.setCell ?_ ?_ _); rotate_left; (first | omega | (simp <;> omega)))))⟩
end Go.Proofs.YtpghciiifnjimaaGreatDoor
