/- Texts laid together: Ga Gb. -/
import Derived.Test.YtdjlaiilngechaaGreatDoorXTf
import Derived.Test.YtdjlaiilngechaaGreatDoorXWc
import Derived.Test.YtdjlaiilngechaaGreatDoorXKeep
import Derived.Test.YtdjlaiilngechaaGreatDoorXRc
import Derived.Deep.LoopGhost
import Derived.Test.YtdjlaiilngechaaGreatDoorXK0
namespace Go.Proofs.YtdjlaiilngechaaGreatDoor
set_option maxRecDepth 4000
set_option linter.unusedSimpArgs false
set_option linter.unusedVariables false
open Go.RowKit
def GrInv (n : Nat) (f g : Nat → Int) (t : Int) (w : World) (v : Value) (wr : World) : Prop :=
 ∃ k : Nat, k ≤ n ∧ v = .int .i64 k ∧ allS k f g ∧ Below w.heap.size w wr ∧ w.heap.size + 1 < wr.heap.size ∧
  (wr.cell? ⟨w.heap.size, 0, none⟩ = some (.int .i64 0) ∧ wr.cell? ⟨w.heap.size, 1, none⟩ = some (.int .u64 0) ∧ ∀ o, wr.frozen? ⟨w.heap.size, o, none⟩ = false) ∧
  (wr.cell? ⟨w.heap.size + 1, 0, none⟩ = some (.int .i64 (hiW (gsum f g t k))) ∧ wr.cell? ⟨w.heap.size + 1, 1, none⟩ = some (.int .u64 (loW (gsum f g t k))) ∧ ∀ o, wr.frozen? ⟨w.heap.size + 1, o, none⟩ = false)
set_option maxHeartbeats 1000000 in
theorem tgrains_any (A : Option Addr) (n c : Nat) (f g : Nat → Int) (t : Int) (hl : n ≤ 140737488355328) (w : World) (hr : Row2 w A n f g) (hib : IB n f g) :
  Calls Tryz.prog 124 #[.slice A n c, .int .i64 t] w fun e w' => e = .returned (.tuple #[.agg #[.int .i64 (hiW (grR n f g t)), .int .u64 (loW (grR n f g t))], .int .i64 (grE n f g t)]) ∧ Below w.heap.size w w' := by
 by_cases hn : 6 < n
 ·have HC := hide (gr_5 (f := f) (g := g) (t := t) hn)
  go_enter Tryz.func124, Tryz.ntmps124
  go_wp2_with fail
  refine bodyPost_ret (by simp [results, Tryz.results124, go_sem, *] <;> rfl) rfl ⟨?_, ?_⟩
  ·rw [HC.out.1, HC.out.2]; rfl
  (repeat (first | (with_reducible first | exact Below.refl _ _ | assumption | refine Below.drew ?_) | ((with_reducible first | refine Below.alloc ?_ ?_ _ | refine Below.setCell ?_ ?_ _); rotate_left; (first | omega | (simp <;> omega)))))
 have hn := Nat.not_lt.1 hn
 by_cases ht : wtOk t
 ·have HIB := hide hib
  have HT := hide ht
  obtain ⟨t1, t2⟩ := ht
  clear hib
  go_enter Tryz.func124, Tryz.ntmps124
  go_wp2_with fail
  go_loopw [24] (fun v wr => GrInv n f g t w v wr) (fun v _ => n - (intOf v).toNat)
  case atStart =>
   refine ⟨0, by omega, rfl, fun j hj => by omega, by (repeat (first | (with_reducible first | exact Below.refl _ _ | assumption | refine Below.drew ?_) | ((with_reducible first | refine Below.alloc ?_ ?_ _ | refine Below.setCell ?_ ?_ _); rotate_left; (first | omega | (simp <;> omega))))), by simp, ⟨by simp [go_sem], by simp [go_sem], by simp [go_sem]⟩, ⟨by simp [go_sem, gsum, hiW], by simp [go_sem, gsum, loW], by simp [go_sem]⟩⟩
  case round =>
   obtain ⟨k, hk, rfl, ha, hB, hz, ⟨ca0, ca1, caf⟩, ⟨cb0, cb1, cbf⟩⟩ := hrel
   have HA := hide ha
   clear ha
   have hzB := hB.size
   have hz0 : w.heap.size < wr.heap.size := by omega
   have hnn0 : ¬ wr.heap.size = w.heap.size := by omega
   have hnn1 : ¬ wr.heap.size = w.heap.size + 1 := by omega
   have hnn2 : ¬ wr.heap.size + 1 = w.heap.size := by omega
   have hnn3 : ¬ wr.heap.size + 1 = w.heap.size + 1 := by omega
   by_cases hlt : k < n
   ·obtain ⟨bb, off, rfl, hbl, hc⟩ := hr (by omega)
    have c0 := (hB.cell (p := ⟨bb, off + k * 2, none⟩) hbl).trans (hc k hlt).1
    have c1 := (hB.cell (p := ⟨bb, off + k * 2 + 1, none⟩) hbl).trans (hc k hlt).2
    clear hc
    by_cases hin : inS (f k) (g k)
    ·have HD := hide (allS_succ HA.out hin)
     have HF := hide (fitR_of (gterm_win (HIB.out k hlt).1 hin HT.out))
     have HG := hide (fitR_of (show WIn (gsum f g t k + f k * g k * t) from gsum_win (k := k + 1) (by omega) (fun j hj => (HIB.out j (by omega)).1) HD.out HT.out))
     have hw1 := gmul_win (HIB.out k hlt).1 hin
     have hw2 := gterm_win (HIB.out k hlt).1 hin HT.out
     have hw3 := gsum_win (k := k) (by omega) (fun j hj => (HIB.out j (by omega)).1) HA.out HT.out
     obtain ⟨i1, i2, i3⟩ := hin
     have hi2 := (HIB.out k hlt).1.2
     go_wp2_with fail
     refine (wmul_any (f k) (g k) (by omega) hi2 (by omega) (by omega) _).mono ?_
     rintro e w1 ⟨rfl, hb⟩
     have q1B : Below w.heap.size w w1 := qB hb
     have q1z := hb.size
     try simp at q1z
     have q1t : w.heap.size ≤ w1.heap.size := (by omega)
     obtain ⟨q1s0, q1n0_0, q1n0_1, q1n0_2⟩ := kB w1.heap.size w.heap.size
     obtain ⟨q1c0_0, q1c0_1, q1f0⟩ := kC2 hb w.heap.size
     simp [go_sem, *] at q1c0_0 q1c0_1 q1f0
     obtain ⟨q1s1, q1n1_0, q1n1_1, q1n1_2⟩ := kB w1.heap.size (w.heap.size + 1)
     obtain ⟨q1c1_0, q1c1_1, q1f1⟩ := kC2 hb (w.heap.size + 1)
     simp [go_sem, *] at q1c1_0 q1c1_1 q1f1
     obtain ⟨q1s2, q1n2_0, q1n2_1, q1n2_2⟩ := kB w1.heap.size wr.heap.size
     obtain ⟨q1c2_0, q1c2_1, q1f2⟩ := kC2 hb wr.heap.size
     simp [go_sem, *] at q1c2_0 q1c2_1 q1f2
     have q1o := belO q1B
     clear hb
     go_wp2_with fail
     refine (scale_any (f k * g k) t hw1 (by omega) (by omega) _).mono ?_
     rintro e w2 ⟨rfl, hb⟩
     rw [HF.out]
     have q2B : Below w.heap.size w w2 := qB hb
     have q2z := hb.size
     try simp at q2z
     have q2t : w.heap.size ≤ w2.heap.size := (by omega)
     obtain ⟨q2s0, q2n0_0, q2n0_1, q2n0_2⟩ := kB w2.heap.size w.heap.size
     obtain ⟨q2c0_0, q2c0_1, q2f0⟩ := kC2 hb w.heap.size
     simp [go_sem, *] at q2c0_0 q2c0_1 q2f0
     obtain ⟨q2s1, q2n1_0, q2n1_1, q2n1_2⟩ := kB w2.heap.size (w.heap.size + 1)
     obtain ⟨q2c1_0, q2c1_1, q2f1⟩ := kC2 hb (w.heap.size + 1)
     simp [go_sem, *] at q2c1_0 q2c1_1 q2f1
     have q2o := belO q2B
     clear hb q1o q1f2 q1c2_1 q1c2_0 q1s2 q1f1 q1c1_1 q1c1_0 q1s1 q1f0 q1c0_1 q1c0_0 q1s0 q1z q1B
     go_wp2_with fail
     refine (wadd_any _ _ hw3 hw2 _).mono ?_
     rintro e w3 ⟨rfl, hb⟩
     rw [HG.out]
     have q3B : Below w.heap.size w w3 := qB hb
     have q3z := hb.size
     try simp at q3z
     have q3t : w.heap.size ≤ w3.heap.size := (by omega)
     obtain ⟨q3s0, q3n0_0, q3n0_1, q3n0_2⟩ := kB w3.heap.size w.heap.size
     obtain ⟨q3c0_0, q3c0_1, q3f0⟩ := kC2 hb w.heap.size
     simp [go_sem, *] at q3c0_0 q3c0_1 q3f0
     obtain ⟨q3s1, q3n1_0, q3n1_1, q3n1_2⟩ := kB w3.heap.size (w.heap.size + 1)
     obtain ⟨q3c1_0, q3c1_1, q3f1⟩ := kC2 hb (w.heap.size + 1)
     simp [go_sem, *] at q3c1_0 q3c1_1 q3f1
     have q3o := belO q3B
     clear hb q2o q2f1 q2c1_1 q2c1_0 q2s1 q2f0 q2c0_1 q2c0_0 q2s0 q2z q2B
     go_wp2_with fail
     go_roundw
     case rel => exact ⟨k + 1, by omega, by go_num, HD.out, by (repeat (first | (with_reducible first | exact Below.refl _ _ | assumption | refine Below.drew ?_) | ((with_reducible first | refine Below.alloc ?_ ?_ _ | refine Below.setCell ?_ ?_ _); rotate_left; (first | omega | (simp <;> omega))))), by simp; omega, ⟨by simp [go_sem, *], by simp [go_sem, *], by simp [go_sem, *]⟩, ⟨by simp [go_sem, gsum, *], by simp [go_sem, gsum, *], by simp [go_sem, *]⟩⟩
     case measure => simp [intOf]; omega
    ·have HD := hide (gr_1 (t := t) hn (fun h => hin (h.1 k hlt)))
     have HI := hide hin
     clear hin
     go_wp2_with fail
     all_goals first
      | (exfalso; exact HI.out ⟨by omega, by omega, by omega⟩)
      | (refine bodyPost_ret (by simp [results, Tryz.results124, go_sem, *] <;> rfl) rfl ⟨?_, ?_⟩; (· rw [HD.out.1, HD.out.2]; rfl); (· (repeat (first | (with_reducible first | exact Below.refl _ _ | assumption | refine Below.drew ?_) | ((with_reducible first | refine Below.alloc ?_ ?_ _ | refine Below.setCell ?_ ?_ _); rotate_left; (first | omega | (simp <;> omega)))))))
   ·have hkn : k = n := by omega
    subst hkn
    have HD := hide (gr_0 (t := t) hn ⟨HA.out, HT.out⟩)
    go_wp2_with fail
    refine bodyPost_ret (by simp [results, Tryz.results124, go_sem, *] <;> rfl) rfl ⟨?_, ?_⟩
    ·rw [HD.out.1, HD.out.2]
    (repeat (first | (with_reducible first | exact Below.refl _ _ | assumption | refine Below.drew ?_) | ((with_reducible first | refine Below.alloc ?_ ?_ _ | refine Below.setCell ?_ ?_ _); rotate_left; (first | omega | (simp <;> omega)))))
 ·have HD := hide (gr_1 (f := f) (g := g) hn (fun h => ht h.2))
  have HI := hide ht
  clear ht
  go_enter Tryz.func124, Tryz.ntmps124
  go_wp2_with fail
  all_goals first
   | (exfalso; exact HI.out ⟨by omega, by omega⟩)
   | (refine bodyPost_ret (by simp [results, Tryz.results124, go_sem, *] <;> rfl) rfl ⟨?_, ?_⟩; (· rw [HD.out.1, HD.out.2]; rfl); (· (repeat (first | (with_reducible first | exact Below.refl _ _ | assumption | refine Below.drew ?_) | ((with_reducible first | refine Below.alloc ?_ ?_ _ | refine Below.setCell ?_ ?_ _); rotate_left; (first | omega | (simp <;> omega)))))))
end Go.Proofs.YtdjlaiilngechaaGreatDoor
namespace Go.Proofs.YtdjlaiilngechaaGreatDoor
set_option maxRecDepth 4000
set_option linter.unusedSimpArgs false
set_option linter.unusedVariables false
open Go.RowKit
def RGrInv1 (n : Nat) (f g : Nat → Int) (w : World) (v : Value) (wr : World) : Prop :=
 ∃ k : Nat, k ≤ n ∧ v = .int .i64 k ∧ allS k f g ∧ Below w.heap.size w wr ∧ w.heap.size < wr.heap.size ∧
  (wr.cell? ⟨w.heap.size, 0, none⟩ = some (.int .i64 0) ∧ wr.cell? ⟨w.heap.size, 1, none⟩ = some (.int .u64 0) ∧ ∀ o, wr.frozen? ⟨w.heap.size, o, none⟩ = false)
/-- In the second loop: s is the block of the sum. -/
def RGrInv2 (n : Nat) (f g : Nat → Int) (t : Int) (w : World) (s : Nat) (fuel : Nat) (v : Value) (wr : World) : Prop :=
 ∃ k : Nat, k ≤ n ∧ fuel = n - k ∧ v = .int .i64 k ∧ Below w.heap.size w wr ∧ w.heap.size < s ∧ s < wr.heap.size ∧
  (wr.cell? ⟨w.heap.size, 0, none⟩ = some (.int .i64 0) ∧ wr.cell? ⟨w.heap.size, 1, none⟩ = some (.int .u64 0) ∧ ∀ o, wr.frozen? ⟨w.heap.size, o, none⟩ = false) ∧
  (wr.cell? ⟨s, 0, none⟩ = some (.int .i64 (hiW (gsum f g t k))) ∧ wr.cell? ⟨s, 1, none⟩ = some (.int .u64 (loW (gsum f g t k))) ∧ ∀ o, wr.frozen? ⟨s, o, none⟩ = false)
def RGrCut (x : Int) (z : Int) (w : World) (s : Nat) (v9 : Value) (wx : World) : Prop :=
 ∃ p, v9 = .pointer (some ⟨p, 0, none⟩) ∧ (wx.cell? ⟨p, 0, none⟩ = some (.int .i64 (hiW x)) ∧ wx.cell? ⟨p, 1, none⟩ = some (.int .u64 (loW x))) ∧
  Below w.heap.size w wx ∧ w.heap.size < s ∧ s < wx.heap.size ∧ p < wx.heap.size ∧
  (wx.cell? ⟨w.heap.size, 0, none⟩ = some (.int .i64 0) ∧ wx.cell? ⟨w.heap.size, 1, none⟩ = some (.int .u64 0) ∧ ∀ o, wx.frozen? ⟨w.heap.size, o, none⟩ = false) ∧
  (wx.cell? ⟨s, 0, none⟩ = some (.int .i64 (hiW z)) ∧ wx.cell? ⟨s, 1, none⟩ = some (.int .u64 (loW z)) ∧ ∀ o, wx.frozen? ⟨s, o, none⟩ = false)
set_option maxHeartbeats 2000000 in
theorem rgrains_any (A : Option Addr) (n c : Nat) (f g : Nat → Int) (t : Int) (hl : n ≤ 140737488355328) (w : World) (hr : Row2 w A n f g) (hib : IB n f g) :
  Calls Tryz.prog 88 #[.slice A n c, .int .i64 t] w fun e w' => e = .returned (.tuple #[.agg #[.int .i64 (hiW (grR n f g t)), .int .u64 (loW (grR n f g t))], .int .i64 (grE n f g t)]) ∧ Below w.heap.size w w' := by
 by_cases hn : 6 < n
 ·have HC := hide (gr_5 (f := f) (g := g) (t := t) hn)
  go_enter Tryz.func88, Tryz.ntmps88
  go_wp2_with fail
  refine bodyPost_ret (by simp [results, Tryz.results88, go_sem, *] <;> rfl) rfl ⟨?_, ?_⟩
  ·rw [HC.out.1, HC.out.2]; rfl
  (repeat (first | (with_reducible first | exact Below.refl _ _ | assumption | refine Below.drew ?_) | ((with_reducible first | refine Below.alloc ?_ ?_ _ | refine Below.setCell ?_ ?_ _); rotate_left; (first | omega | (simp <;> omega)))))
 have hn := Nat.not_lt.1 hn
 have HIB := hide hib
 clear hib
 go_enter Tryz.func88, Tryz.ntmps88
 go_wp2_with fail
 go_loopw [6] (fun v wr => RGrInv1 n f g w v wr) (fun v _ => n - (intOf v).toNat)
 case atStart => exact ⟨0, by omega, rfl, fun j hj => by omega, by (repeat (first | (with_reducible first | exact Below.refl _ _ | assumption | refine Below.drew ?_) | ((with_reducible first | refine Below.alloc ?_ ?_ _ | refine Below.setCell ?_ ?_ _); rotate_left; (first | omega | (simp <;> omega))))), by simp, ⟨by simp [go_sem], by simp [go_sem], by simp [go_sem]⟩⟩
 case round =>
  obtain ⟨k, hk, rfl, ha, hB, hz, ⟨ca0, ca1, caf⟩⟩ := hrel
  have HA := hide ha
  clear ha
  have hzB := hB.size
  by_cases hlt : k < n
  ·obtain ⟨bb, off, rfl, hbl, hc⟩ := hr (by omega)
   have c0 := (hB.cell (p := ⟨bb, off + k * 2, none⟩) hbl).trans (hc k hlt).1
   have c1 := (hB.cell (p := ⟨bb, off + k * 2 + 1, none⟩) hbl).trans (hc k hlt).2
   clear hc
   by_cases hin : inS (f k) (g k)
   ·have HD := hide (allS_succ HA.out hin)
    obtain ⟨i1, i2, i3⟩ := hin
    go_wp2_with fail
    go_roundw
    case rel => exact ⟨k + 1, by omega, by go_num, HD.out, hB, hz, ⟨ca0, ca1, caf⟩⟩
    case measure => simp [intOf]; omega
   ·have HD := hide (gr_1 (t := t) hn (fun h => hin (h.1 k hlt)))
    have HI := hide hin
    clear hin
    go_wp2_with fail
    all_goals first
     | (exfalso; exact HI.out ⟨by omega, by omega, by omega⟩)
     | (refine bodyPost_ret (by simp [results, Tryz.results88, go_sem, *] <;> rfl) rfl ⟨?_, ?_⟩; (· rw [HD.out.1, HD.out.2]; rfl); (· (repeat (first | (with_reducible first | exact Below.refl _ _ | assumption | refine Below.drew ?_) | ((with_reducible first | refine Below.alloc ?_ ?_ _ | refine Below.setCell ?_ ?_ _); rotate_left; (first | omega | (simp <;> omega)))))))
  ·have hkn : k = n := by omega
   subst hkn
   clear hlt hk
   by_cases ht : wtOk t
   ·have HT := hide ht
    obtain ⟨t1, t2⟩ := ht
    go_wp2_with fail
    obtain ⟨s, hs, hs1⟩ : ∃ s, s = wr.heap.size ∧ w.heap.size < s := ⟨_, rfl, hz⟩
    rw [← hs]
    have HS := hide hs
    go_loopg [8] k (fun fuel v wx => RGrInv2 k f g t w s fuel v wx)
    case atStart =>
     subst hs
     exact ⟨0, by omega, by omega, rfl, by (repeat (first | (with_reducible first | exact Below.refl _ _ | assumption | refine Below.drew ?_) | ((with_reducible first | refine Below.alloc ?_ ?_ _ | refine Below.setCell ?_ ?_ _); rotate_left; (first | omega | (simp <;> omega))))), hs1, by simp, ⟨by simp [go_sem, *], by simp [go_sem, *], by simp [go_sem, *]⟩, ⟨by simp [go_sem, gsum, hiW], by simp [go_sem, gsum, loW], by simp [go_sem]⟩⟩
    case round =>
     clear hs
     obtain ⟨j, hj, hfu, rfl, hBx, _, hsx, ⟨ca0, ca1, caf⟩, ⟨cb0, cb1, cbf⟩⟩ := hrel
     have HFU := hide hfu
     clear hfu
     have hzB := hBx.size
     have hz0 : w.heap.size < wr.heap.size := by omega
     have hnn0 : ¬ wr.heap.size = w.heap.size := by omega
     have hnn1 : ¬ wr.heap.size = s := by omega
     have hnn2 : ¬ wr.heap.size + 1 = w.heap.size := by omega
     have hnn3 : ¬ wr.heap.size + 1 = s := by omega
     by_cases hlt : j < k
     ·obtain ⟨bb, off, rfl, hbl, hc⟩ := hr (by omega)
      have c0 := (hBx.cell (p := ⟨bb, off + j * 2, none⟩) hbl).trans (hc j hlt).1
      have c1 := (hBx.cell (p := ⟨bb, off + j * 2 + 1, none⟩) hbl).trans (hc j hlt).2
      clear hc
      have hm1 : (j : Int) < k := by omega
      have hin := HA.out j hlt
      have HF := hide (fitR_of (gterm_win (HIB.out j hlt).1 hin HT.out))
      have HD : Hid (allS (j + 1) f g) := fun i hi => HA.out i (by omega)
      have HG := hide (fitR_of (show WIn (gsum f g t j + f j * g j * t) from gsum_win (k := j + 1) (by omega) (fun i hi => (HIB.out i (by omega)).1) HD.out HT.out))
      have hw1 := gmul_win (HIB.out j hlt).1 hin
      have hw2 := gterm_win (HIB.out j hlt).1 hin HT.out
      have hw3 := gsum_win (k := j) (by omega) (fun i hi => (HIB.out i (by omega)).1) (fun i hi => HA.out i (by omega)) HT.out
      obtain ⟨i1, i2, i3⟩ := hin
      have hi2 := (HIB.out j hlt).1.2
      go_upto_region 14 with fail
      go_cut [9] (fun v9 wx => RGrCut (f j * g j * t) (gsum f g t j) w s v9 wx)
      case first =>
       refine ord_start (SB (w.heap.size) [] _) 19 (preB 0 19) (by kernel_rfl) (by kernel_rfl) (by kernel_rfl) SB.refl.drew (fun hHeld => ?_)
       refine oS (i := 0) (preB 1 18) rfl hHeld ?_
       (try simp only [Act.put, putS])
       refine oS (i := 1) (preB 2 17) rfl hHeld ?_
       (try simp only [Act.put, putS])
       refine oS (i := 2) (preB 3 16) rfl hHeld ?_
       (try simp only [Act.put, putS])
       refine oS (i := 3) (preB 4 15) rfl hHeld ?_
       (try simp only [Act.put, putS])
       refine oS (i := 4) (preB 5 14) rfl hHeld ?_
       (try simp only [Act.put, putS])
       refine oS (i := 5) (preB 6 13) rfl hHeld ?_
       (try simp only [Act.put, putS])
       refine oS (i := 6) (preB 7 12) rfl hHeld ?_
       (try simp only [Act.put, putS])
       refine oS (i := 7) (preB 8 11) rfl hHeld ?_
       (try simp only [Act.put, putS])
       refine oS (i := 8) (preB 9 10) rfl hHeld ?_
       (try simp only [Act.put, putS])
       refine oS (i := 9) (preB 10 9) rfl hHeld ?_
       (try simp only [Act.put, putS])
       refine oS (i := 11) #[true, true, true, true, true, true, true, true, true, true, false, true, false, false, false, false, false, false, false] rfl hHeld ?_
       (try simp only [Act.put, putS])
       refine wpAnyH_ready (rs := [10, 16]) (by kernel_rfl) (by simp) ?_
       refine ord_run (i := 10) (preB 12 7) rfl (by kernel_rfl) (by rfl) (fun K hK => ?_) ?_
       ·go_simp
        go_wp2_with (go_at_call 34; refine (rmul_any (f j) (g j) (by omega) hi2 (by omega) (by omega) _).mono ?_; rintro e w1 ⟨rfl, hb⟩; (first | (have q1B : Below w.heap.size w w1 := qB hb; have q1z := hb.size; (try simp at q1z); have q1t : w.heap.size ≤ w1.heap.size := (by omega); have q1s0 : w.heap.size < w1.heap.size := (by omega); obtain ⟨q1n0_0, q1n0_1, q1n0_2⟩ := kN q1s0; obtain ⟨q1c0_0, q1c0_1, q1f0⟩ := kC2 hb w.heap.size; simp [go_sem, *] at q1c0_0 q1c0_1 q1f0; have q1s1 : s < w1.heap.size := (by omega); obtain ⟨q1n1_0, q1n1_1, q1n1_2⟩ := kN q1s1; obtain ⟨q1c1_0, q1c1_1, q1f1⟩ := kC2 hb s; simp [go_sem, *] at q1c1_0 q1c1_1 q1f1; have q1s2 : wr.heap.size < w1.heap.size := (by omega); obtain ⟨q1n2_0, q1n2_1, q1n2_2⟩ := kN q1s2; obtain ⟨q1c2_0, q1c2_1, q1f2⟩ := kC2 hb wr.heap.size; simp [go_sem, *] at q1c2_0 q1c2_1 q1f2; have q1o := belO q1B; have hbS := hb; have hbS1 := hb; clear hb) | (have q1B : Below w.heap.size w w1 := qB hb; have q1z := hb.size; (try simp at q1z); have q1t : w.heap.size ≤ w1.heap.size := (by omega); have q1s0 : w.heap.size < w1.heap.size := (by omega); obtain ⟨q1n0_0, q1n0_1, q1n0_2⟩ := kN q1s0; obtain ⟨q1c0_0, q1c0_1, q1f0⟩ := kC2 hb w.heap.size; simp [go_sem, *] at q1c0_0 q1c0_1 q1f0; have q1s1 : s < w1.heap.size := (by omega); obtain ⟨q1n1_0, q1n1_1, q1n1_2⟩ := kN q1s1; obtain ⟨q1c1_0, q1c1_1, q1f1⟩ := kC2 hb s; simp [go_sem, *] at q1c1_0 q1c1_1 q1f1; have q1o := belO q1B; have hbS := hb; have hbS1 := hb; clear hb)))
        refine hK.out _ _ ?_ (fun hHeld => ?_)
        ·exact sbT
        clear hK K
        (try simp only [Act.put, putS])
        refine wpAnyH_ready (rs := [12, 16]) (by kernel_rfl) (by simp) ?_
        refine ord_run (i := 12) (preB 13 6) rfl (by kernel_rfl) (by rfl) (fun K hK => ?_) ?_
        ·go_simp
         go_wp2_with (go_at_call 62; refine (rscale_any (f j * g j) t hw1 (by omega) (by omega) _).mono ?_; rintro e w2 ⟨rfl, hb⟩; rw [HF.out]; (first | (have q2B : Below w.heap.size w w2 := qB hb; have q2z := hb.size; (try simp at q2z); have q2t : w.heap.size ≤ w2.heap.size := (by omega); have q2s0 : w.heap.size < w2.heap.size := (by omega); obtain ⟨q2n0_0, q2n0_1, q2n0_2⟩ := kN q2s0; obtain ⟨q2c0_0, q2c0_1, q2f0⟩ := kC2 hb w.heap.size; simp [go_sem, *] at q2c0_0 q2c0_1 q2f0; have q2s1 : s < w2.heap.size := (by omega); obtain ⟨q2n1_0, q2n1_1, q2n1_2⟩ := kN q2s1; obtain ⟨q2c1_0, q2c1_1, q2f1⟩ := kC2 hb s; simp [go_sem, *] at q2c1_0 q2c1_1 q2f1; have q2s2 : w1.heap.size < w2.heap.size := (by omega); obtain ⟨q2n2_0, q2n2_1, q2n2_2⟩ := kN q2s2; obtain ⟨q2c2_0, q2c2_1, q2f2⟩ := kC2 hb w1.heap.size; simp [go_sem, *] at q2c2_0 q2c2_1 q2f2; have q2o := belO q2B; have hbS := hb; have hbS2 := hb; clear hb) | (have q2B : Below w.heap.size w w2 := qB hb; have q2z := hb.size; (try simp at q2z); have q2t : w.heap.size ≤ w2.heap.size := (by omega); have q2s0 : w.heap.size < w2.heap.size := (by omega); obtain ⟨q2n0_0, q2n0_1, q2n0_2⟩ := kN q2s0; obtain ⟨q2c0_0, q2c0_1, q2f0⟩ := kC2 hb w.heap.size; simp [go_sem, *] at q2c0_0 q2c0_1 q2f0; have q2s1 : s < w2.heap.size := (by omega); obtain ⟨q2n1_0, q2n1_1, q2n1_2⟩ := kN q2s1; obtain ⟨q2c1_0, q2c1_1, q2f1⟩ := kC2 hb s; simp [go_sem, *] at q2c1_0 q2c1_1 q2f1; have q2s2 : wr.heap.size < w2.heap.size := (by omega); obtain ⟨q2n2_0, q2n2_1, q2n2_2⟩ := kN q2s2; obtain ⟨q2c2_0, q2c2_1, q2f2⟩ := kC2 hb wr.heap.size; simp [go_sem, *] at q2c2_0 q2c2_1 q2f2; have q2o := belO q2B; have hbS := hb; have hbS2 := hb; clear hb) | (have q2B : Below w.heap.size w w2 := qB hb; have q2z := hb.size; (try simp at q2z); have q2t : w.heap.size ≤ w2.heap.size := (by omega); have q2s0 : w.heap.size < w2.heap.size := (by omega); obtain ⟨q2n0_0, q2n0_1, q2n0_2⟩ := kN q2s0; obtain ⟨q2c0_0, q2c0_1, q2f0⟩ := kC2 hb w.heap.size; simp [go_sem, *] at q2c0_0 q2c0_1 q2f0; have q2s1 : s < w2.heap.size := (by omega); obtain ⟨q2n1_0, q2n1_1, q2n1_2⟩ := kN q2s1; obtain ⟨q2c1_0, q2c1_1, q2f1⟩ := kC2 hb s; simp [go_sem, *] at q2c1_0 q2c1_1 q2f1; have q2o := belO q2B; have hbS := hb; have hbS2 := hb; clear hb)))
         refine hK.out _ _ ?_ (fun hHeld => ?_)
         ·exact sbT
         clear hK K
         (try simp only [Act.put, putS])
         refine oS (i := 13) (preB 14 5) rfl hHeld ?_
         (try simp only [Act.put, putS])
         refine oS (i := 14) (preB 15 4) rfl hHeld ?_
         (try simp only [Act.put, putS])
         refine oS (i := 15) (preB 16 3) rfl hHeld ?_
         (try simp only [Act.put, putS])
         refine wpAnyH_ready (rs := [16]) (by kernel_rfl) (by simp) ?_
         refine ord_run (i := 16) (preB 17 2) rfl (by kernel_rfl) (by rfl) (fun K hK => ?_) AllReadyH.nil
         go_simp
         refine hK.out _ _ ?_ (fun hHeld => ?_)
         ·exact sbT
         clear hK K
         (try simp only [Act.put, putS])
         refine wpAnyH_ready (rs := [17]) (by kernel_rfl) (by simp) ?_
         refine ord_run (i := 17) (preB 18 1) rfl (by kernel_rfl) (by rfl) (fun K hK => ?_) AllReadyH.nil
         go_simp
         refine hK.out _ _ ?_ (fun hHeld => ?_)
         ·exact sbT
         clear hK K
         (try simp only [Act.put, putS])
         refine oS (i := 18) (preB 19 0) rfl hHeld ?_
         (try simp only [Act.put, putS])
         refine wpAnyH_done (by kernel_rfl) ?_ _
         go_wp2_with fail; go_meet; exact ⟨_, rfl, ⟨(by simp [go_sem, *]), (by simp [go_sem, *])⟩, belT, hs1, (by first | omega | (simp <;> omega)), (by first | omega | (simp <;> omega)), ⟨(by simp [go_sem, *]), (by simp [go_sem, *]), (by simp [go_sem, *])⟩, ⟨(by simp [go_sem, *]), (by simp [go_sem, *]), (by simp [go_sem, *])⟩⟩
        refine ord_run (i := 16) #[true, true, true, true, true, true, true, true, true, true, true, true, false, false, false, false, true, false, false] rfl (by kernel_rfl) (by rfl) (fun K hK => ?_) ?_
        ·go_simp
         refine hK.out _ _ ?_ (fun hHeld => ?_)
         ·exact sbT
         clear hK K
         (try simp only [Act.put, putS])
         refine wpAnyH_ready (rs := [12]) (by kernel_rfl) (by simp) ?_
         refine ord_run (i := 12) #[true, true, true, true, true, true, true, true, true, true, true, true, true, false, false, false, true, false, false] rfl (by kernel_rfl) (by rfl) (fun K hK => ?_) AllReadyH.nil
         go_simp
         go_wp2_with (go_at_call 62; refine (rscale_any (f j * g j) t hw1 (by omega) (by omega) _).mono ?_; rintro e w2 ⟨rfl, hb⟩; rw [HF.out]; (first | (have q2B : Below w.heap.size w w2 := qB hb; have q2z := hb.size; (try simp at q2z); have q2t : w.heap.size ≤ w2.heap.size := (by omega); have q2s0 : w.heap.size < w2.heap.size := (by omega); obtain ⟨q2n0_0, q2n0_1, q2n0_2⟩ := kN q2s0; obtain ⟨q2c0_0, q2c0_1, q2f0⟩ := kC2 hb w.heap.size; simp [go_sem, *] at q2c0_0 q2c0_1 q2f0; have q2s1 : s < w2.heap.size := (by omega); obtain ⟨q2n1_0, q2n1_1, q2n1_2⟩ := kN q2s1; obtain ⟨q2c1_0, q2c1_1, q2f1⟩ := kC2 hb s; simp [go_sem, *] at q2c1_0 q2c1_1 q2f1; have q2s2 : w1.heap.size < w2.heap.size := (by omega); obtain ⟨q2n2_0, q2n2_1, q2n2_2⟩ := kN q2s2; obtain ⟨q2c2_0, q2c2_1, q2f2⟩ := kC2 hb w1.heap.size; simp [go_sem, *] at q2c2_0 q2c2_1 q2f2; have q2o := belO q2B; have hbS := hb; have hbS2 := hb; clear hb) | (have q2B : Below w.heap.size w w2 := qB hb; have q2z := hb.size; (try simp at q2z); have q2t : w.heap.size ≤ w2.heap.size := (by omega); have q2s0 : w.heap.size < w2.heap.size := (by omega); obtain ⟨q2n0_0, q2n0_1, q2n0_2⟩ := kN q2s0; obtain ⟨q2c0_0, q2c0_1, q2f0⟩ := kC2 hb w.heap.size; simp [go_sem, *] at q2c0_0 q2c0_1 q2f0; have q2s1 : s < w2.heap.size := (by omega); obtain ⟨q2n1_0, q2n1_1, q2n1_2⟩ := kN q2s1; obtain ⟨q2c1_0, q2c1_1, q2f1⟩ := kC2 hb s; simp [go_sem, *] at q2c1_0 q2c1_1 q2f1; have q2s2 : wr.heap.size < w2.heap.size := (by omega); obtain ⟨q2n2_0, q2n2_1, q2n2_2⟩ := kN q2s2; obtain ⟨q2c2_0, q2c2_1, q2f2⟩ := kC2 hb wr.heap.size; simp [go_sem, *] at q2c2_0 q2c2_1 q2f2; have q2o := belO q2B; have hbS := hb; have hbS2 := hb; clear hb) | (have q2B : Below w.heap.size w w2 := qB hb; have q2z := hb.size; (try simp at q2z); have q2t : w.heap.size ≤ w2.heap.size := (by omega); have q2s0 : w.heap.size < w2.heap.size := (by omega); obtain ⟨q2n0_0, q2n0_1, q2n0_2⟩ := kN q2s0; obtain ⟨q2c0_0, q2c0_1, q2f0⟩ := kC2 hb w.heap.size; simp [go_sem, *] at q2c0_0 q2c0_1 q2f0; have q2s1 : s < w2.heap.size := (by omega); obtain ⟨q2n1_0, q2n1_1, q2n1_2⟩ := kN q2s1; obtain ⟨q2c1_0, q2c1_1, q2f1⟩ := kC2 hb s; simp [go_sem, *] at q2c1_0 q2c1_1 q2f1; have q2o := belO q2B; have hbS := hb; have hbS2 := hb; clear hb)))
         refine hK.out _ _ ?_ (fun hHeld => ?_)
         ·exact sbT
         clear hK K
         (try simp only [Act.put, putS])
         refine oS (i := 13) #[true, true, true, true, true, true, true, true, true, true, true, true, true, true, false, false, true, false, false] rfl hHeld ?_
         (try simp only [Act.put, putS])
         refine oS (i := 14) #[true, true, true, true, true, true, true, true, true, true, true, true, true, true, true, false, true, false, false] rfl hHeld ?_
         (try simp only [Act.put, putS])
         refine oS (i := 15) (preB 17 2) rfl hHeld ?_
         (try simp only [Act.put, putS])
         refine wpAnyH_ready (rs := [17]) (by kernel_rfl) (by simp) ?_
         refine ord_run (i := 17) (preB 18 1) rfl (by kernel_rfl) (by rfl) (fun K hK => ?_) AllReadyH.nil
         go_simp
         refine hK.out _ _ ?_ (fun hHeld => ?_)
         ·exact sbT
         clear hK K
         (try simp only [Act.put, putS])
         refine oS (i := 18) (preB 19 0) rfl hHeld ?_
         (try simp only [Act.put, putS])
         refine wpAnyH_done (by kernel_rfl) ?_ _
         go_wp2_with fail; go_meet; exact ⟨_, rfl, ⟨(by simp [go_sem, *]), (by simp [go_sem, *])⟩, belT, hs1, (by first | omega | (simp <;> omega)), (by first | omega | (simp <;> omega)), ⟨(by simp [go_sem, *]), (by simp [go_sem, *]), (by simp [go_sem, *])⟩, ⟨(by simp [go_sem, *]), (by simp [go_sem, *]), (by simp [go_sem, *])⟩⟩
        exact AllReadyH.nil
       refine ord_run (i := 16) #[true, true, true, true, true, true, true, true, true, true, false, true, false, false, false, false, true, false, false] rfl (by kernel_rfl) (by rfl) (fun K hK => ?_) ?_
       ·go_simp
        refine hK.out _ _ ?_ (fun hHeld => ?_)
        ·exact sbT
        clear hK K
        (try simp only [Act.put, putS])
        refine wpAnyH_ready (rs := [10]) (by kernel_rfl) (by simp) ?_
        refine ord_run (i := 10) #[true, true, true, true, true, true, true, true, true, true, true, true, false, false, false, false, true, false, false] rfl (by kernel_rfl) (by rfl) (fun K hK => ?_) AllReadyH.nil
        go_simp
        go_wp2_with (go_at_call 34; refine (rmul_any (f j) (g j) (by omega) hi2 (by omega) (by omega) _).mono ?_; rintro e w1 ⟨rfl, hb⟩; (first | (have q1B : Below w.heap.size w w1 := qB hb; have q1z := hb.size; (try simp at q1z); have q1t : w.heap.size ≤ w1.heap.size := (by omega); have q1s0 : w.heap.size < w1.heap.size := (by omega); obtain ⟨q1n0_0, q1n0_1, q1n0_2⟩ := kN q1s0; obtain ⟨q1c0_0, q1c0_1, q1f0⟩ := kC2 hb w.heap.size; simp [go_sem, *] at q1c0_0 q1c0_1 q1f0; have q1s1 : s < w1.heap.size := (by omega); obtain ⟨q1n1_0, q1n1_1, q1n1_2⟩ := kN q1s1; obtain ⟨q1c1_0, q1c1_1, q1f1⟩ := kC2 hb s; simp [go_sem, *] at q1c1_0 q1c1_1 q1f1; have q1s2 : wr.heap.size < w1.heap.size := (by omega); obtain ⟨q1n2_0, q1n2_1, q1n2_2⟩ := kN q1s2; obtain ⟨q1c2_0, q1c2_1, q1f2⟩ := kC2 hb wr.heap.size; simp [go_sem, *] at q1c2_0 q1c2_1 q1f2; have q1o := belO q1B; have hbS := hb; have hbS1 := hb; clear hb) | (have q1B : Below w.heap.size w w1 := qB hb; have q1z := hb.size; (try simp at q1z); have q1t : w.heap.size ≤ w1.heap.size := (by omega); have q1s0 : w.heap.size < w1.heap.size := (by omega); obtain ⟨q1n0_0, q1n0_1, q1n0_2⟩ := kN q1s0; obtain ⟨q1c0_0, q1c0_1, q1f0⟩ := kC2 hb w.heap.size; simp [go_sem, *] at q1c0_0 q1c0_1 q1f0; have q1s1 : s < w1.heap.size := (by omega); obtain ⟨q1n1_0, q1n1_1, q1n1_2⟩ := kN q1s1; obtain ⟨q1c1_0, q1c1_1, q1f1⟩ := kC2 hb s; simp [go_sem, *] at q1c1_0 q1c1_1 q1f1; have q1o := belO q1B; have hbS := hb; have hbS1 := hb; clear hb)))
        refine hK.out _ _ ?_ (fun hHeld => ?_)
        ·exact sbT
        clear hK K
        (try simp only [Act.put, putS])
        refine wpAnyH_ready (rs := [12]) (by kernel_rfl) (by simp) ?_
        refine ord_run (i := 12) #[true, true, true, true, true, true, true, true, true, true, true, true, true, false, false, false, true, false, false] rfl (by kernel_rfl) (by rfl) (fun K hK => ?_) AllReadyH.nil
        go_simp
        go_wp2_with (go_at_call 62; refine (rscale_any (f j * g j) t hw1 (by omega) (by omega) _).mono ?_; rintro e w2 ⟨rfl, hb⟩; rw [HF.out]; (first | (have q2B : Below w.heap.size w w2 := qB hb; have q2z := hb.size; (try simp at q2z); have q2t : w.heap.size ≤ w2.heap.size := (by omega); have q2s0 : w.heap.size < w2.heap.size := (by omega); obtain ⟨q2n0_0, q2n0_1, q2n0_2⟩ := kN q2s0; obtain ⟨q2c0_0, q2c0_1, q2f0⟩ := kC2 hb w.heap.size; simp [go_sem, *] at q2c0_0 q2c0_1 q2f0; have q2s1 : s < w2.heap.size := (by omega); obtain ⟨q2n1_0, q2n1_1, q2n1_2⟩ := kN q2s1; obtain ⟨q2c1_0, q2c1_1, q2f1⟩ := kC2 hb s; simp [go_sem, *] at q2c1_0 q2c1_1 q2f1; have q2s2 : w1.heap.size < w2.heap.size := (by omega); obtain ⟨q2n2_0, q2n2_1, q2n2_2⟩ := kN q2s2; obtain ⟨q2c2_0, q2c2_1, q2f2⟩ := kC2 hb w1.heap.size; simp [go_sem, *] at q2c2_0 q2c2_1 q2f2; have q2o := belO q2B; have hbS := hb; have hbS2 := hb; clear hb) | (have q2B : Below w.heap.size w w2 := qB hb; have q2z := hb.size; (try simp at q2z); have q2t : w.heap.size ≤ w2.heap.size := (by omega); have q2s0 : w.heap.size < w2.heap.size := (by omega); obtain ⟨q2n0_0, q2n0_1, q2n0_2⟩ := kN q2s0; obtain ⟨q2c0_0, q2c0_1, q2f0⟩ := kC2 hb w.heap.size; simp [go_sem, *] at q2c0_0 q2c0_1 q2f0; have q2s1 : s < w2.heap.size := (by omega); obtain ⟨q2n1_0, q2n1_1, q2n1_2⟩ := kN q2s1; obtain ⟨q2c1_0, q2c1_1, q2f1⟩ := kC2 hb s; simp [go_sem, *] at q2c1_0 q2c1_1 q2f1; have q2s2 : wr.heap.size < w2.heap.size := (by omega); obtain ⟨q2n2_0, q2n2_1, q2n2_2⟩ := kN q2s2; obtain ⟨q2c2_0, q2c2_1, q2f2⟩ := kC2 hb wr.heap.size; simp [go_sem, *] at q2c2_0 q2c2_1 q2f2; have q2o := belO q2B; have hbS := hb; have hbS2 := hb; clear hb) | (have q2B : Below w.heap.size w w2 := qB hb; have q2z := hb.size; (try simp at q2z); have q2t : w.heap.size ≤ w2.heap.size := (by omega); have q2s0 : w.heap.size < w2.heap.size := (by omega); obtain ⟨q2n0_0, q2n0_1, q2n0_2⟩ := kN q2s0; obtain ⟨q2c0_0, q2c0_1, q2f0⟩ := kC2 hb w.heap.size; simp [go_sem, *] at q2c0_0 q2c0_1 q2f0; have q2s1 : s < w2.heap.size := (by omega); obtain ⟨q2n1_0, q2n1_1, q2n1_2⟩ := kN q2s1; obtain ⟨q2c1_0, q2c1_1, q2f1⟩ := kC2 hb s; simp [go_sem, *] at q2c1_0 q2c1_1 q2f1; have q2o := belO q2B; have hbS := hb; have hbS2 := hb; clear hb)))
        refine hK.out _ _ ?_ (fun hHeld => ?_)
        ·exact sbT
        clear hK K
        (try simp only [Act.put, putS])
        refine oS (i := 13) #[true, true, true, true, true, true, true, true, true, true, true, true, true, true, false, false, true, false, false] rfl hHeld ?_
        (try simp only [Act.put, putS])
        refine oS (i := 14) #[true, true, true, true, true, true, true, true, true, true, true, true, true, true, true, false, true, false, false] rfl hHeld ?_
        (try simp only [Act.put, putS])
        refine oS (i := 15) (preB 17 2) rfl hHeld ?_
        (try simp only [Act.put, putS])
        refine wpAnyH_ready (rs := [17]) (by kernel_rfl) (by simp) ?_
        refine ord_run (i := 17) (preB 18 1) rfl (by kernel_rfl) (by rfl) (fun K hK => ?_) AllReadyH.nil
        go_simp
        refine hK.out _ _ ?_ (fun hHeld => ?_)
        ·exact sbT
        clear hK K
        (try simp only [Act.put, putS])
        refine oS (i := 18) (preB 19 0) rfl hHeld ?_
        (try simp only [Act.put, putS])
        refine wpAnyH_done (by kernel_rfl) ?_ _
        go_wp2_with fail; go_meet; exact ⟨_, rfl, ⟨(by simp [go_sem, *]), (by simp [go_sem, *])⟩, belT, hs1, (by first | omega | (simp <;> omega)), (by first | omega | (simp <;> omega)), ⟨(by simp [go_sem, *]), (by simp [go_sem, *]), (by simp [go_sem, *])⟩, ⟨(by simp [go_sem, *]), (by simp [go_sem, *]), (by simp [go_sem, *])⟩⟩
       exact AllReadyH.nil
      case rest =>
       obtain ⟨p, rfl, ⟨cp0, cp1⟩, hBy, _, hsy, hpy, ⟨cy0, cy1, cyf⟩, ⟨cz0, cz1, czf⟩⟩ := hcut
       have hzB := hBy.size
       have hnm0 : ¬ wc.heap.size = w.heap.size := by omega
       have hnm1 : ¬ wc.heap.size = s := by omega
       have hnm2 : ¬ wc.heap.size + 1 = w.heap.size := by omega
       have hnm3 : ¬ wc.heap.size + 1 = s := by omega
       go_wp2_with fail
       refine (radd_any _ _ hw3 hw2 _).mono ?_
       rintro e w1 ⟨rfl, hb⟩
       rw [HG.out]
       have q1B : Below w.heap.size w w1 := qB hb
       have q1z := hb.size
       try simp at q1z
       have q1t : w.heap.size ≤ w1.heap.size := (by omega)
       obtain ⟨q1s0, q1n0_0, q1n0_1, q1n0_2⟩ := kB w1.heap.size w.heap.size
       obtain ⟨q1c0_0, q1c0_1, q1f0⟩ := kC2 hb w.heap.size
       simp [go_sem, *] at q1c0_0 q1c0_1 q1f0
       obtain ⟨q1s1, q1n1_0, q1n1_1, q1n1_2⟩ := kB w1.heap.size s
       obtain ⟨q1c1_0, q1c1_1, q1f1⟩ := kC2 hb s
       simp [go_sem, *] at q1c1_0 q1c1_1 q1f1
       have q1o := belO q1B
       clear hb
       go_wp2_with fail
       go_roundg (k - (j + 1))
       case rel => exact ⟨j + 1, by omega, rfl, by go_num, by (repeat (first | (with_reducible first | exact Below.refl _ _ | assumption | refine Below.drew ?_) | ((with_reducible first | refine Below.alloc ?_ ?_ _ | refine Below.setCell ?_ ?_ _); rotate_left; (first | omega | (simp <;> omega))))), hs1, by first | omega | (simp <;> omega), ⟨by simp [go_sem, *], by simp [go_sem, *], by simp [go_sem, *]⟩, ⟨by simp [go_sem, gsum, *], by simp [go_sem, gsum, *], by simp [go_sem, *]⟩⟩
       case measure => have := HFU.out; omega
     ·have hjk : j = k := by omega
      subst hjk
      have HD := hide (gr_0 (t := t) hn ⟨HA.out, HT.out⟩)
      go_wp2_with fail
      refine bodyPost_ret (by simp [results, Tryz.results88, go_sem, *] <;> rfl) rfl ⟨?_, ?_⟩
      ·rw [HD.out.1, HD.out.2]
      (repeat (first | (with_reducible first | exact Below.refl _ _ | assumption | refine Below.drew ?_) | ((with_reducible first | refine Below.alloc ?_ ?_ _ | refine Below.setCell ?_ ?_ _); rotate_left; (first | omega | (simp <;> omega)))))
   ·have HD := hide (gr_1 (f := f) (g := g) hn (fun h => ht h.2))
    have HI := hide ht
    clear ht
    go_wp2_with fail
    all_goals first
     | (exfalso; exact HI.out ⟨by omega, by omega⟩)
     | (refine bodyPost_ret (by simp [results, Tryz.results88, go_sem, *] <;> rfl) rfl ⟨?_, ?_⟩; (· rw [HD.out.1, HD.out.2]; rfl); (· (repeat (first | (with_reducible first | exact Below.refl _ _ | assumption | refine Below.drew ?_) | ((with_reducible first | refine Below.alloc ?_ ?_ _ | refine Below.setCell ?_ ?_ _); rotate_left; (first | omega | (simp <;> omega)))))))
end Go.Proofs.YtdjlaiilngechaaGreatDoor
