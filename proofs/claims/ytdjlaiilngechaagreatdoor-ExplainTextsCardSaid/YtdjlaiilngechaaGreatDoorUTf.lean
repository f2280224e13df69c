/- Texts laid together: Tf Ga. -/
import Derived.Test.YtdjlaiilngechaaGreatDoorUTd
import Derived.Test.YtdjlaiilngechaaGreatDoorUWc
import Derived.Test.YtdjlaiilngechaaGreatDoorUTierM
import Derived.Test.YtdjlaiilngechaaGreatDoorUK0
namespace Go.Proofs.YtdjlaiilngechaaGreatDoor
set_option maxRecDepth 4000
set_option linter.unusedSimpArgs false
set_option linter.unusedVariables false
open Go.RowKit
theorem slRet_one {w w1 : World} {a r : Int} {t : TypeId} (hB : Below w.heap.size w w1) :
  SlRetF [(a, r)] w (.returned (.slice (some ⟨w1.heap.size, 0, none⟩) 1 1)) (w1.alloc (.cells #[.int .i64 a, .int .i64 r] t)) := by
 refine ⟨some ⟨w1.heap.size, 0, none⟩, 1, rfl, fun _ => ⟨w1.heap.size, 0, rfl, by simp, fun k hk => ?_⟩, hB.alloc hB.size _, fun _ b off e => by cases e; exact hB.size⟩
 obtain rfl : k = 0 := by simp at hk; exact hk
 exact ⟨by simp [go_sem, fsts], by simp [go_sem, snds]⟩
set_option maxHeartbeats 400000 in
theorem tslices_nil (A : Option Addr) (n c : Nat) (f g : Nat → Int) (m : Bool) (b : Int) (b1 : -9223372036854775808 ≤ b) (b2 : b ≤ 9223372036854775807) (hl : n ≤ 140737488355328) (h : n = 0 ∨ chk n f g ≠ 0 ∨ tsz b = 0) (w : World) (hr : Row2 w A n f g) :
  Calls Tryz.prog 85 #[.slice A n c, .bool m, .int .i64 b] w (SlRetF [] w) := by
 by_cases h0 : n = 0
 ·subst h0
  clear h
  go_enter Tryz.func85, Tryz.ntmps85
  go_wp2_with fail
  refine (tsize_any b b1 b2 _).mono ?_
  rintro e w1 ⟨rfl, rfl⟩
  go_wp2_with fail
  go_ret
  exact slRet_nil (Below.refl _ _)
 have hnb : ((n : Int) == 0) = false := beq_eq_false_iff_ne.2 (by omega)
 by_cases hc0 : chk n f g = 0
 ·have hz0 : tsz b = 0 := by omega
  have hzb : (tsz b == 0) = true := beq_iff_eq.2 hz0
  have HC := hide hc0
  clear hc0 hz0 h h0
  go_enter Tryz.func85, Tryz.ntmps85
  go_wp2_with fail
  refine (tsize_any b b1 b2 _).mono ?_
  rintro e w1 ⟨rfl, rfl⟩
  go_wp2_with fail
  refine (tcheck_any A n c f g hl _ hr).mono ?_
  rintro e w1 ⟨rfl, hb⟩
  rw [HC.out]
  have q1B : Below w.heap.size w w1 := qB hb
  have q1z := hb.size
  try simp at q1z
  have q1t : w.heap.size ≤ w1.heap.size := (by omega)
  have q1o := belO q1B
  clear hb
  go_wp2_with fail
  go_ret
  exact slRet_nil q1B
 ·have hcb : (chk n f g == 0) = false := beq_eq_false_iff_ne.2 hc0
  clear hc0 h h0
  go_enter Tryz.func85, Tryz.ntmps85
  go_wp2_with fail
  refine (tsize_any b b1 b2 _).mono ?_
  rintro e w1 ⟨rfl, rfl⟩
  go_wp2_with fail
  refine (tcheck_any A n c f g hl _ hr).mono ?_
  rintro e w1 ⟨rfl, hb⟩
  have q1B : Below w.heap.size w w1 := qB hb
  have q1z := hb.size
  try simp at q1z
  have q1t : w.heap.size ≤ w1.heap.size := (by omega)
  have q1o := belO q1B
  clear hb
  go_wp2_with fail
  go_ret
  exact slRet_nil q1B
set_option maxHeartbeats 400000 in
theorem tslices_one (A : Option Addr) (n c : Nat) (f g : Nat → Int) (b : Int) (b1 : -9223372036854775808 ≤ b) (b2 : b ≤ 9223372036854775807) (hn0 : 0 < n) (hc0 : chk n f g = 0) (hz0 : tsz b ≠ 0) (w : World) (hr : Row2 w A n f g) :
  Calls Tryz.prog 85 #[.slice A n c, .bool false, .int .i64 b] w (SlRetF [(tsz b, rate n f g b)] w) := by
 have hn := (chk_ok hc0).1
 have hzb : (tsz b == 0) = false := beq_eq_false_iff_ne.2 hz0
 have hnb : ((n : Int) == 0) = false := beq_eq_false_iff_ne.2 (by omega)
 have HC := hide hc0
 clear hc0 hz0
 go_enter Tryz.func85, Tryz.ntmps85
 go_wp2_with fail
 refine (tsize_any b b1 b2 _).mono ?_
 rintro e w1 ⟨rfl, rfl⟩
 go_wp2_with fail
 refine (tcheck_any A n c f g (by omega) _ hr).mono ?_
 rintro e w1 ⟨rfl, hb⟩
 rw [HC.out]
 have q1B : Below w.heap.size w w1 := qB hb
 have q1z := hb.size
 try simp at q1z
 have q1t : w.heap.size ≤ w1.heap.size := (by omega)
 have q1o := belO q1B
 clear hb
 go_wp2_with fail
 refine (trate_any A n c f g b b1 b2 (by omega) _ (hr.below q1B)).mono ?_
 rintro e w2 ⟨rfl, hb⟩
 have q2B := q1B.trans (hb.mono q1t)
 clear hb
 go_wp2_with fail
 go_ret
 exact slRet_one q2B
/-- tier.Slices: the parts of a balance. -/
theorem tslices_new (A : Option Addr) (n c : Nat) (f g : Nat → Int) (m : Bool) (b : Int) (b1 : -9223372036854775808 ≤ b) (b2 : b ≤ 9223372036854775807) (hl : n ≤ 140737488355328) (w : World) (hr : Row2 w A n f g) :
  Calls Tryz.prog 85 #[.slice A n c, .bool m, .int .i64 b] w (SlRetF (slices n f g m b (rate n f g b)) w) := by
 by_cases h : n = 0 ∨ chk n f g ≠ 0 ∨ tsz b = 0
 ·rw [slices_nil h]
  exact tslices_nil A n c f g m b b1 b2 hl h w hr
 ·have h0 : 0 < n := by omega
  have h1 : chk n f g = 0 := by omega
  have h2 : tsz b ≠ 0 := by omega
  cases m
  ·rw [slices_one h0 h1 h2]
   exact tslices_one A n c f g b b1 b2 h0 h1 h2 w hr
  ·rw [slices_all h0 h1 h2]
   exact tslices_all A n c f g b b1 b2 h0 h1 h2 w hr
theorem tslices_any (A : Option Addr) (n c : Nat) (f g : Nat → Int) (m : Bool) (b : Int) (b1 : -9223372036854775808 ≤ b) (b2 : b ≤ 9223372036854775807) (hl : n ≤ 140737488355328) (w : World) (hr : Row2 w A n f g) :
  Calls Tryz.prog 85 #[.slice A n c, .bool m, .int .i64 b] w (SlRet (slices n f g m b (rate n f g b)) w) :=
 (tslices_new A n c f g m b b1 b2 hl w hr).mono fun _ _ h => h.weak
end Go.Proofs.YtdjlaiilngechaaGreatDoor
namespace Go.Proofs.YtdjlaiilngechaaGreatDoor
set_option maxRecDepth 4000
set_option linter.unusedSimpArgs false
set_option linter.unusedVariables false
open Go.RowKit
def GrInv (n : Nat) (f g : Nat → Int) (t : Int) (w : World) (v : Value) (wr : World) : Prop :=
 ∃ k : Nat, k ≤ n ∧ v = .int .i64 k ∧ allS k f g ∧ Below w.heap.size w wr ∧ w.heap.size + 1 < wr.heap.size ∧
  (wr.cell? ⟨w.heap.size, 0, none⟩ = some (.int .i64 0) ∧ wr.cell? ⟨w.heap.size, 1, none⟩ = some (.int .u64 0) ∧ ∀ o, wr.frozen? ⟨w.heap.size, o, none⟩ = false) ∧
  (wr.cell? ⟨w.heap.size + 1, 0, none⟩ = some (.int .i64 (hiW (gsum f g t k))) ∧ wr.cell? ⟨w.heap.size + 1, 1, none⟩ = some (.int .u64 (loW (gsum f g t k))) ∧ ∀ o, wr.frozen? ⟨w.heap.size + 1, o, none⟩ = false)
set_option maxHeartbeats 1000000 in
theorem tgrains_any (A : Option Addr) (n c : Nat) (f g : Nat → Int) (t : Int) (hl : n ≤ 140737488355328) (w : World) (hr : Row2 w A n f g) (hib : IB n f g) :
  Calls Tryz.prog 124 #[.slice A n c, .int .i64 t] w fun e w' => e = .returned (.tuple #[.agg #[.int .i64 (hiW (grR n f g t)), .int .u64 (loW (grR n f g t))], .int .i64 (grE n f g t)]) ∧ Below w.heap.size w w' := by
 by_cases hn : 6 < n
 ·have HC := hide (gr_5 (f := f) (g := g) (t := t) hn)
  go_enter Tryz.func124, Tryz.ntmps124
  go_wp2_with fail
  refine bodyPost_ret (by simp [results, Tryz.results124, go_sem, *] <;> rfl) rfl ⟨?_, ?_⟩
  ·rw [HC.out.1, HC.out.2]; rfl
  (repeat (first | (with_reducible first | exact Below.refl _ _ | assumption | refine Below.drew ?_) | ((with_reducible first | refine Below.alloc ?_ ?_ _ | refine Below.setCell ?_ ?_ _); rotate_left; (first | omega | (simp <;> omega)))))
 have hn := Nat.not_lt.1 hn
 by_cases ht : wtOk t
 ·have HIB := hide hib
  have HT := hide ht
  obtain ⟨t1, t2⟩ := ht
  clear hib
  go_enter Tryz.func124, Tryz.ntmps124
  go_wp2_with fail
  go_loopw [24] (fun v wr => GrInv n f g t w v wr) (fun v _ => n - (intOf v).toNat)
  case atStart =>
   refine ⟨0, by omega, rfl, fun j hj => by omega, by (repeat (first | (with_reducible first | exact Below.refl _ _ | assumption | refine Below.drew ?_) | ((with_reducible first | refine Below.alloc ?_ ?_ _ | refine Below.setCell ?_ ?_ _); rotate_left; (first | omega | (simp <;> omega))))), by simp, ⟨by simp [go_sem], by simp [go_sem], by simp [go_sem]⟩, ⟨by simp [go_sem, gsum, hiW], by simp [go_sem, gsum, loW], by simp [go_sem]⟩⟩
  case round =>
   obtain ⟨k, hk, rfl, ha, hB, hz, ⟨ca0, ca1, caf⟩, ⟨cb0, cb1, cbf⟩⟩ := hrel
   have HA := hide ha
   clear ha
   have hzB := hB.size
   have hz0 : w.heap.size < wr.heap.size := by omega
   have hnn0 : ¬ wr.heap.size = w.heap.size := by omega
   have hnn1 : ¬ wr.heap.size = w.heap.size + 1 := by omega
   have hnn2 : ¬ wr.heap.size + 1 = w.heap.size := by omega
   have hnn3 : ¬ wr.heap.size + 1 = w.heap.size + 1 := by omega
   by_cases hlt : k < n
   ·obtain ⟨bb, off, rfl, hbl, hc⟩ := hr (by omega)
    have c0 := (hB.cell (p := ⟨bb, off + k * 2, none⟩) hbl).trans (hc k hlt).1
    have c1 := (hB.cell (p := ⟨bb, off + k * 2 + 1, none⟩) hbl).trans (hc k hlt).2
    clear hc
    by_cases hin : inS (f k) (g k)
    ·have HD := hide (allS_succ HA.out hin)
     have HF := hide (fitR_of (gterm_win (HIB.out k hlt).1 hin HT.out))
     have HG := hide (fitR_of (show WIn (gsum f g t k + f k * g k * t) from gsum_win (k := k + 1) (by omega) (fun j hj => (HIB.out j (by omega)).1) HD.out HT.out))
     have hw1 := gmul_win (HIB.out k hlt).1 hin
     have hw2 := gterm_win (HIB.out k hlt).1 hin HT.out
     have hw3 := gsum_win (k := k) (by omega) (fun j hj => (HIB.out j (by omega)).1) HA.out HT.out
     obtain ⟨i1, i2, i3⟩ := hin
     have hi2 := (HIB.out k hlt).1.2
     go_wp2_with fail
     refine (wmul_any (f k) (g k) (by omega) hi2 (by omega) (by omega) _).mono ?_
     rintro e w1 ⟨rfl, hb⟩
     have q1B : Below w.heap.size w w1 := qB hb
     have q1z := hb.size
     try simp at q1z
     have q1t : w.heap.size ≤ w1.heap.size := (by omega)
     obtain ⟨q1s0, q1n0_0, q1n0_1, q1n0_2⟩ := kB w1.heap.size w.heap.size
     obtain ⟨q1c0_0, q1c0_1, q1f0⟩ := kC2 hb w.heap.size
     simp [go_sem, *] at q1c0_0 q1c0_1 q1f0
     obtain ⟨q1s1, q1n1_0, q1n1_1, q1n1_2⟩ := kB w1.heap.size (w.heap.size + 1)
     obtain ⟨q1c1_0, q1c1_1, q1f1⟩ := kC2 hb (w.heap.size + 1)
     simp [go_sem, *] at q1c1_0 q1c1_1 q1f1
     obtain ⟨q1s2, q1n2_0, q1n2_1, q1n2_2⟩ := kB w1.heap.size wr.heap.size
     obtain ⟨q1c2_0, q1c2_1, q1f2⟩ := kC2 hb wr.heap.size
     simp [go_sem, *] at q1c2_0 q1c2_1 q1f2
     have q1o := belO q1B
     clear hb
     go_wp2_with fail
     refine (scale_any (f k * g k) t hw1 (by omega) (by omega) _).mono ?_
     rintro e w2 ⟨rfl, hb⟩
     rw [HF.out]
     have q2B : Below w.heap.size w w2 := qB hb
     have q2z := hb.size
     try simp at q2z
     have q2t : w.heap.size ≤ w2.heap.size := (by omega)
     obtain ⟨q2s0, q2n0_0, q2n0_1, q2n0_2⟩ := kB w2.heap.size w.heap.size
     obtain ⟨q2c0_0, q2c0_1, q2f0⟩ := kC2 hb w.heap.size
     simp [go_sem, *] at q2c0_0 q2c0_1 q2f0
     obtain ⟨q2s1, q2n1_0, q2n1_1, q2n1_2⟩ := kB w2.heap.size (w.heap.size + 1)
     obtain ⟨q2c1_0, q2c1_1, q2f1⟩ := kC2 hb (w.heap.size + 1)
     simp [go_sem, *] at q2c1_0 q2c1_1 q2f1
     have q2o := belO q2B
     clear hb q1o q1f2 q1c2_1 q1c2_0 q1s2 q1f1 q1c1_1 q1c1_0 q1s1 q1f0 q1c0_1 q1c0_0 q1s0 q1z q1B
     go_wp2_with fail
     refine (wadd_any _ _ hw3 hw2 _).mono ?_
     rintro e w3 ⟨rfl, hb⟩
     rw [HG.out]
     have q3B : Below w.heap.size w w3 := qB hb
     have q3z := hb.size
     try simp at q3z
     have q3t : w.heap.size ≤ w3.heap.size := (by omega)
     obtain ⟨q3s0, q3n0_0, q3n0_1, q3n0_2⟩ := kB w3.heap.size w.heap.size
     obtain ⟨q3c0_0, q3c0_1, q3f0⟩ := kC2 hb w.heap.size
     simp [go_sem, *] at q3c0_0 q3c0_1 q3f0
     obtain ⟨q3s1, q3n1_0, q3n1_1, q3n1_2⟩ := kB w3.heap.size (w.heap.size + 1)
     obtain ⟨q3c1_0, q3c1_1, q3f1⟩ := kC2 hb (w.heap.size + 1)
     simp [go_sem, *] at q3c1_0 q3c1_1 q3f1
     have q3o := belO q3B
     clear hb q2o q2f1 q2c1_1 q2c1_0 q2s1 q2f0 q2c0_1 q2c0_0 q2s0 q2z q2B
     go_wp2_with fail
     go_roundw
     case rel => exact ⟨k + 1, by omega, by go_num, HD.out, by (repeat (first | (with_reducible first | exact Below.refl _ _ | assumption | refine Below.drew ?_) | ((with_reducible first | refine Below.alloc ?_ ?_ _ | refine Below.setCell ?_ ?_ _); rotate_left; (first | omega | (simp <;> omega))))), by simp; omega, ⟨by simp [go_sem, *], by simp [go_sem, *], by simp [go_sem, *]⟩, ⟨by simp [go_sem, gsum, *], by simp [go_sem, gsum, *], by simp [go_sem, *]⟩⟩
     case measure => simp [intOf]; omega
    ·have HD := hide (gr_1 (t := t) hn (fun h => hin (h.1 k hlt)))
     have HI := hide hin
     clear hin
     go_wp2_with fail
     all_goals first
      | (exfalso; exact HI.out ⟨by omega, by omega, by omega⟩)
      | (refine bodyPost_ret (by simp [results, Tryz.results124, go_sem, *] <;> rfl) rfl ⟨?_, ?_⟩; (· rw [HD.out.1, HD.out.2]; rfl); (· (repeat (first | (with_reducible first | exact Below.refl _ _ | assumption | refine Below.drew ?_) | ((with_reducible first | refine Below.alloc ?_ ?_ _ | refine Below.setCell ?_ ?_ _); rotate_left; (first | omega | (simp <;> omega)))))))
   ·have hkn : k = n := by omega
    subst hkn
    have HD := hide (gr_0 (t := t) hn ⟨HA.out, HT.out⟩)
    go_wp2_with fail
    refine bodyPost_ret (by simp [results, Tryz.results124, go_sem, *] <;> rfl) rfl ⟨?_, ?_⟩
    ·rw [HD.out.1, HD.out.2]
    (repeat (first | (with_reducible first | exact Below.refl _ _ | assumption | refine Below.drew ?_) | ((with_reducible first | refine Below.alloc ?_ ?_ _ | refine Below.setCell ?_ ?_ _); rotate_left; (first | omega | (simp <;> omega)))))
 ·have HD := hide (gr_1 (f := f) (g := g) hn (fun h => ht h.2))
  have HI := hide ht
  clear ht
  go_enter Tryz.func124, Tryz.ntmps124
  go_wp2_with fail
  all_goals first
   | (exfalso; exact HI.out ⟨by omega, by omega⟩)
   | (refine bodyPost_ret (by simp [results, Tryz.results124, go_sem, *] <;> rfl) rfl ⟨?_, ?_⟩; (· rw [HD.out.1, HD.out.2]; rfl); (· (repeat (first | (with_reducible first | exact Below.refl _ _ | assumption | refine Below.drew ?_) | ((with_reducible first | refine Below.alloc ?_ ?_ _ | refine Below.setCell ?_ ?_ _); rotate_left; (first | omega | (simp <;> omega)))))))
end Go.Proofs.YtdjlaiilngechaaGreatDoor
