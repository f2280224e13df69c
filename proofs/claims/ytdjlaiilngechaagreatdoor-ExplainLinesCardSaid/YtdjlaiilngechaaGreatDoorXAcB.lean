/- Texts laid together: AcB. -/
import Derived.Test.YtdjlaiilngechaaGreatDoorXDaM
import Derived.Test.YtdjlaiilngechaaGreatDoorXAcM
import Derived.BigQuiet
namespace Go.Proofs.YtdjlaiilngechaaGreatDoor
set_option maxRecDepth 4000
set_option linter.unusedSimpArgs false
set_option linter.unusedVariables false
open Go.RowKit
theorem thr_no1 {f : Int} (t : Int) (h : vday f = false) : thr f t = 0 := if_neg fun hh => by rw [h] at hh; cases hh.1
theorem thr_no2 (f : Int) {t : Int} (h : vday t = false) : thr f t = 0 := if_neg fun hh => by rw [h] at hh; cases hh.2
theorem thr_yes {f t : Int} (h1 : vday f = true) (h2 : vday t = true) : thr f t = 360 * (cY t - cY f) + 30 * (cM t - cM f) + min (cD t) 30 - min (cD f) 30 := if_pos ⟨h1, h2⟩
theorem min30_lt {x : Int} (h : x ≤ 30) : min x 30 = x := by omega
theorem min30_ge {x : Int} (h : 30 < x) : min x 30 = 30 := by omega
theorem wgt_no (ba : Int) {day : Int} (h : vday day = false) : wgt ba day = 0 := if_pos h
theorem wgt_1 {ba day : Int} (h : vday day = true) (b : ba = 1) : wgt ba day = 4453 := by unfold wgt; rw [if_neg (by rw [h]; decide), if_pos b]
theorem wgt_2 {ba day : Int} (h : vday day = true) (b : ba = 2) : wgt ba day = 4392 := by unfold wgt; rw [if_neg (by rw [h]; decide), if_neg (by omega), if_pos b]
theorem wgt_3y {ba day : Int} (h : vday day = true) (b : ba = 3) (l : lpB (cY day) = true) : wgt ba day = 4380 := by unfold wgt; rw [if_neg (by rw [h]; decide), if_neg (by omega), if_neg (by omega), if_pos b, if_pos l]
theorem wgt_3n {ba day : Int} (h : vday day = true) (b : ba = 3) (l : lpB (cY day) = false) : wgt ba day = 4392 := by unfold wgt; rw [if_neg (by rw [h]; decide), if_neg (by omega), if_neg (by omega), if_pos b, if_neg (by rw [l]; decide)]
theorem wgt_4 {ba day : Int} (h : vday day = true) (b : ba = 4) : wgt ba day = thr day (day + 1) * 4453 := by unfold wgt; rw [if_neg (by rw [h]; decide), if_neg (by omega), if_neg (by omega), if_neg (by omega), if_pos b]
theorem wgt_5 {ba day : Int} (h : vday day = true) (b1 : ¬ ba = 1) (b2 : ¬ ba = 2) (b3 : ¬ ba = 3) (b4 : ¬ ba = 4) : wgt ba day = 0 := by unfold wgt; rw [if_neg (by rw [h]; decide), if_neg b1, if_neg b2, if_neg b3, if_neg b4]
set_option maxRecDepth 4000 in
set_option maxHeartbeats 2000000 in
theorem thirty_any (f t : Int) (w : World) : Calls Tryz.prog 130 #[.int .i64 f, .int .i64 t] w fun e w' => e = .returned (.int .i64 (thr f t)) ∧ Below w.heap.size w w' := by
 cases hf : vday f with
 | false =>
  have HT := hide (thr_no1 t hf)
  have HF := hide hf
  clear hf
  go_enter Tryz.func130, Tryz.ntmps130
  go_wp2_with fail
  refine (valid_any f _).mono ?_
  rintro e w9 ⟨rfl, rfl⟩
  rw [HF.out]
  go_wp2_with fail
  go_ret
  exact ⟨by rw [HT.out]; rfl, by (repeat (first | (with_reducible first | exact Below.refl _ _ | assumption | refine Below.drew ?_) | ((with_reducible first | refine Below.alloc ?_ ?_ _ | refine Below.setCell ?_ ?_ _); rotate_left; (first | omega | (simp <;> omega)))))⟩
 | true =>
  have HF := hide hf
  clear hf
  cases ht : vday t with
  | false =>
   have HT := hide (thr_no2 f ht)
   have HG := hide ht
   clear ht
   go_enter Tryz.func130, Tryz.ntmps130
   go_wp2_with fail
   refine (valid_any f _).mono ?_
   rintro e w9 ⟨rfl, rfl⟩
   rw [HF.out]
   go_wp2_with fail
   refine (valid_any t _).mono ?_
   rintro e w9 ⟨rfl, rfl⟩
   rw [HG.out]
   go_wp2_with fail
   go_ret
   exact ⟨by rw [HT.out]; rfl, by (repeat (first | (with_reducible first | exact Below.refl _ _ | assumption | refine Below.drew ?_) | ((with_reducible first | refine Below.alloc ?_ ?_ _ | refine Below.setCell ?_ ?_ _); rotate_left; (first | omega | (simp <;> omega)))))⟩
  | true =>
   have HG := hide ht
   clear ht
   have HT := hide (thr_yes HF.out HG.out)
   have hA := civ_bds HF.out
   have hB := civ_bds HG.out
   obtain ⟨y1, hy1⟩ : ∃ y, y = cY f := ⟨_, rfl⟩
   obtain ⟨m1, hm1⟩ : ∃ y, y = cM f := ⟨_, rfl⟩
   obtain ⟨d1, hd1⟩ : ∃ y, y = cD f := ⟨_, rfl⟩
   obtain ⟨y2, hy2⟩ : ∃ y, y = cY t := ⟨_, rfl⟩
   obtain ⟨m2, hm2⟩ : ∃ y, y = cM t := ⟨_, rfl⟩
   obtain ⟨d2, hd2⟩ : ∃ y, y = cD t := ⟨_, rfl⟩
   have HC := hide (civil_any f)
   have HD := hide (civil_any t)
   unfold CivRet at HC HD
   rw [← hy1, ← hm1, ← hd1] at HC HT hA
   rw [← hy2, ← hm2, ← hd2] at HD HT hB
   clear hy1 hm1 hd1 hy2 hm2 hd2
   obtain ⟨p1, p2, p3, p4, p5, p6⟩ := hA
   obtain ⟨r1, r2, r3, r4, r5, r6⟩ := hB
   by_cases k1 : d1 ≤ 30
   ·have e1 := min30_lt k1
    have g1 : d1 ≤ 30 := by omega
    by_cases k2 : d2 ≤ 30
    ·have e2 := min30_lt k2
     have g2 : d2 ≤ 30 := by omega
     rw [e1, e2] at HT
     (try rw [Int.add_sub_cancel] at HT)
     go_enter Tryz.func130, Tryz.ntmps130
     go_wp2_with fail
     refine (valid_any f _).mono ?_
     rintro e w9 ⟨rfl, rfl⟩
     rw [HF.out]
     go_wp2_with fail
     refine (valid_any t _).mono ?_
     rintro e w9 ⟨rfl, rfl⟩
     rw [HG.out]
     go_wp2_with fail
     refine (HC.out _).mono ?_
     rintro e w1 ⟨rfl, b1⟩
     go_wp2_with fail
     refine (HD.out _).mono ?_
     rintro e w2 ⟨rfl, b2⟩
     have b3 := b1.trans (b2.mono b1.size)
     go_wp2_with fail
     go_ret
     exact ⟨by rw [HT.out]; try rfl, by (repeat (first | (with_reducible first | exact Below.refl _ _ | assumption | refine Below.drew ?_) | ((with_reducible first | refine Below.alloc ?_ ?_ _ | refine Below.setCell ?_ ?_ _); rotate_left; (first | omega | (simp <;> omega)))))⟩
    ·have e2 := min30_ge (Int.not_le.1 k2)
     have g2 : 30 < d2 := by omega
     rw [e1, e2] at HT
     (try rw [Int.add_sub_cancel] at HT)
     go_enter Tryz.func130, Tryz.ntmps130
     go_wp2_with fail
     refine (valid_any f _).mono ?_
     rintro e w9 ⟨rfl, rfl⟩
     rw [HF.out]
     go_wp2_with fail
     refine (valid_any t _).mono ?_
     rintro e w9 ⟨rfl, rfl⟩
     rw [HG.out]
     go_wp2_with fail
     refine (HC.out _).mono ?_
     rintro e w1 ⟨rfl, b1⟩
     go_wp2_with fail
     refine (HD.out _).mono ?_
     rintro e w2 ⟨rfl, b2⟩
     have b3 := b1.trans (b2.mono b1.size)
     go_wp2_with fail
     go_ret
     exact ⟨by rw [HT.out]; try rfl, by (repeat (first | (with_reducible first | exact Below.refl _ _ | assumption | refine Below.drew ?_) | ((with_reducible first | refine Below.alloc ?_ ?_ _ | refine Below.setCell ?_ ?_ _); rotate_left; (first | omega | (simp <;> omega)))))⟩
   ·have e1 := min30_ge (Int.not_le.1 k1)
    have g1 : 30 < d1 := by omega
    by_cases k2 : d2 ≤ 30
    ·have e2 := min30_lt k2
     have g2 : d2 ≤ 30 := by omega
     rw [e1, e2] at HT
     (try rw [Int.add_sub_cancel] at HT)
     go_enter Tryz.func130, Tryz.ntmps130
     go_wp2_with fail
     refine (valid_any f _).mono ?_
     rintro e w9 ⟨rfl, rfl⟩
     rw [HF.out]
     go_wp2_with fail
     refine (valid_any t _).mono ?_
     rintro e w9 ⟨rfl, rfl⟩
     rw [HG.out]
     go_wp2_with fail
     refine (HC.out _).mono ?_
     rintro e w1 ⟨rfl, b1⟩
     go_wp2_with fail
     refine (HD.out _).mono ?_
     rintro e w2 ⟨rfl, b2⟩
     have b3 := b1.trans (b2.mono b1.size)
     go_wp2_with fail
     go_ret
     exact ⟨by rw [HT.out]; try rfl, by (repeat (first | (with_reducible first | exact Below.refl _ _ | assumption | refine Below.drew ?_) | ((with_reducible first | refine Below.alloc ?_ ?_ _ | refine Below.setCell ?_ ?_ _); rotate_left; (first | omega | (simp <;> omega)))))⟩
    ·have e2 := min30_ge (Int.not_le.1 k2)
     have g2 : 30 < d2 := by omega
     rw [e1, e2] at HT
     (try rw [Int.add_sub_cancel] at HT)
     go_enter Tryz.func130, Tryz.ntmps130
     go_wp2_with fail
     refine (valid_any f _).mono ?_
     rintro e w9 ⟨rfl, rfl⟩
     rw [HF.out]
     go_wp2_with fail
     refine (valid_any t _).mono ?_
     rintro e w9 ⟨rfl, rfl⟩
     rw [HG.out]
     go_wp2_with fail
     refine (HC.out _).mono ?_
     rintro e w1 ⟨rfl, b1⟩
     go_wp2_with fail
     refine (HD.out _).mono ?_
     rintro e w2 ⟨rfl, b2⟩
     have b3 := b1.trans (b2.mono b1.size)
     go_wp2_with fail
     go_ret
     exact ⟨by rw [HT.out]; try rfl, by (repeat (first | (with_reducible first | exact Below.refl _ _ | assumption | refine Below.drew ?_) | ((with_reducible first | refine Below.alloc ?_ ?_ _ | refine Below.setCell ?_ ?_ _); rotate_left; (first | omega | (simp <;> omega)))))⟩
set_option maxRecDepth 4000 in
set_option maxHeartbeats 2000000 in
theorem rthirty_any (f t : Int) (w : World) : Calls Tryz.prog 95 #[.int .i64 f, .int .i64 t] w fun e w' => e = .returned (.int .i64 (thr f t)) ∧ Below w.heap.size w w' := by
 cases hf : vday f with
 | false =>
  have HT := hide (thr_no1 t hf)
  have HF := hide hf
  clear hf
  go_enter Tryz.func95, Tryz.ntmps95
  go_wp2_with fail
  refine (rvalid_any f _).mono ?_
  rintro e w9 ⟨rfl, rfl⟩
  rw [HF.out]
  go_wp2_with fail
  go_ret
  exact ⟨by rw [HT.out]; rfl, by (repeat (first | (with_reducible first | exact Below.refl _ _ | assumption | refine Below.drew ?_) | ((with_reducible first | refine Below.alloc ?_ ?_ _ | refine Below.setCell ?_ ?_ _); rotate_left; (first | omega | (simp <;> omega)))))⟩
 | true =>
  have HF := hide hf
  clear hf
  cases ht : vday t with
  | false =>
   have HT := hide (thr_no2 f ht)
   have HG := hide ht
   clear ht
   go_enter Tryz.func95, Tryz.ntmps95
   go_wp2_with fail
   refine (rvalid_any f _).mono ?_
   rintro e w9 ⟨rfl, rfl⟩
   rw [HF.out]
   go_wp2_with fail
   refine (rvalid_any t _).mono ?_
   rintro e w9 ⟨rfl, rfl⟩
   rw [HG.out]
   go_wp2_with fail
   go_ret
   exact ⟨by rw [HT.out]; rfl, by (repeat (first | (with_reducible first | exact Below.refl _ _ | assumption | refine Below.drew ?_) | ((with_reducible first | refine Below.alloc ?_ ?_ _ | refine Below.setCell ?_ ?_ _); rotate_left; (first | omega | (simp <;> omega)))))⟩
  | true =>
   have HG := hide ht
   clear ht
   have HT := hide (thr_yes HF.out HG.out)
   have hA := civ_bds HF.out
   have hB := civ_bds HG.out
   obtain ⟨y1, hy1⟩ : ∃ y, y = cY f := ⟨_, rfl⟩
   obtain ⟨m1, hm1⟩ : ∃ y, y = cM f := ⟨_, rfl⟩
   obtain ⟨d1, hd1⟩ : ∃ y, y = cD f := ⟨_, rfl⟩
   obtain ⟨y2, hy2⟩ : ∃ y, y = cY t := ⟨_, rfl⟩
   obtain ⟨m2, hm2⟩ : ∃ y, y = cM t := ⟨_, rfl⟩
   obtain ⟨d2, hd2⟩ : ∃ y, y = cD t := ⟨_, rfl⟩
   have HC := hide (rcivil_any f)
   have HD := hide (rcivil_any t)
   unfold CivRet at HC HD
   rw [← hy1, ← hm1, ← hd1] at HC HT hA
   rw [← hy2, ← hm2, ← hd2] at HD HT hB
   clear hy1 hm1 hd1 hy2 hm2 hd2
   obtain ⟨p1, p2, p3, p4, p5, p6⟩ := hA
   obtain ⟨r1, r2, r3, r4, r5, r6⟩ := hB
   by_cases k1 : d1 ≤ 30
   ·have e1 := min30_lt k1
    have g1 : d1 ≤ 30 := by omega
    by_cases k2 : d2 ≤ 30
    ·have e2 := min30_lt k2
     have g2 : d2 ≤ 30 := by omega
     rw [e1, e2] at HT
     (try rw [Int.add_sub_cancel] at HT)
     go_enter Tryz.func95, Tryz.ntmps95
     go_wp2_with fail
     refine (rvalid_any f _).mono ?_
     rintro e w9 ⟨rfl, rfl⟩
     rw [HF.out]
     go_wp2_with fail
     refine (rvalid_any t _).mono ?_
     rintro e w9 ⟨rfl, rfl⟩
     rw [HG.out]
     go_wp2_with fail
     refine (HC.out _).mono ?_
     rintro e w1 ⟨rfl, b1⟩
     go_wp2_with fail
     refine (HD.out _).mono ?_
     rintro e w2 ⟨rfl, b2⟩
     have b3 := b1.trans (b2.mono b1.size)
     go_wp2_with fail
     go_ret
     exact ⟨by rw [HT.out]; try rfl, by (repeat (first | (with_reducible first | exact Below.refl _ _ | assumption | refine Below.drew ?_) | ((with_reducible first | refine Below.alloc ?_ ?_ _ | refine Below.setCell ?_ ?_ _); rotate_left; (first | omega | (simp <;> omega)))))⟩
    ·have e2 := min30_ge (Int.not_le.1 k2)
     have g2 : 30 < d2 := by omega
     rw [e1, e2] at HT
     (try rw [Int.add_sub_cancel] at HT)
     go_enter Tryz.func95, Tryz.ntmps95
     go_wp2_with fail
     refine (rvalid_any f _).mono ?_
     rintro e w9 ⟨rfl, rfl⟩
     rw [HF.out]
     go_wp2_with fail
     refine (rvalid_any t _).mono ?_
     rintro e w9 ⟨rfl, rfl⟩
     rw [HG.out]
     go_wp2_with fail
     refine (HC.out _).mono ?_
     rintro e w1 ⟨rfl, b1⟩
     go_wp2_with fail
     refine (HD.out _).mono ?_
     rintro e w2 ⟨rfl, b2⟩
     have b3 := b1.trans (b2.mono b1.size)
     go_wp2_with fail
     go_ret
     exact ⟨by rw [HT.out]; try rfl, by (repeat (first | (with_reducible first | exact Below.refl _ _ | assumption | refine Below.drew ?_) | ((with_reducible first | refine Below.alloc ?_ ?_ _ | refine Below.setCell ?_ ?_ _); rotate_left; (first | omega | (simp <;> omega)))))⟩
   ·have e1 := min30_ge (Int.not_le.1 k1)
    have g1 : 30 < d1 := by omega
    by_cases k2 : d2 ≤ 30
    ·have e2 := min30_lt k2
     have g2 : d2 ≤ 30 := by omega
     rw [e1, e2] at HT
     (try rw [Int.add_sub_cancel] at HT)
     go_enter Tryz.func95, Tryz.ntmps95
     go_wp2_with fail
     refine (rvalid_any f _).mono ?_
     rintro e w9 ⟨rfl, rfl⟩
     rw [HF.out]
     go_wp2_with fail
     refine (rvalid_any t _).mono ?_
     rintro e w9 ⟨rfl, rfl⟩
     rw [HG.out]
     go_wp2_with fail
     refine (HC.out _).mono ?_
     rintro e w1 ⟨rfl, b1⟩
     go_wp2_with fail
     refine (HD.out _).mono ?_
     rintro e w2 ⟨rfl, b2⟩
     have b3 := b1.trans (b2.mono b1.size)
     go_wp2_with fail
     go_ret
     exact ⟨by rw [HT.out]; try rfl, by (repeat (first | (with_reducible first | exact Below.refl _ _ | assumption | refine Below.drew ?_) | ((with_reducible first | refine Below.alloc ?_ ?_ _ | refine Below.setCell ?_ ?_ _); rotate_left; (first | omega | (simp <;> omega)))))⟩
    ·have e2 := min30_ge (Int.not_le.1 k2)
     have g2 : 30 < d2 := by omega
     rw [e1, e2] at HT
     (try rw [Int.add_sub_cancel] at HT)
     go_enter Tryz.func95, Tryz.ntmps95
     go_wp2_with fail
     refine (rvalid_any f _).mono ?_
     rintro e w9 ⟨rfl, rfl⟩
     rw [HF.out]
     go_wp2_with fail
     refine (rvalid_any t _).mono ?_
     rintro e w9 ⟨rfl, rfl⟩
     rw [HG.out]
     go_wp2_with fail
     refine (HC.out _).mono ?_
     rintro e w1 ⟨rfl, b1⟩
     go_wp2_with fail
     refine (HD.out _).mono ?_
     rintro e w2 ⟨rfl, b2⟩
     have b3 := b1.trans (b2.mono b1.size)
     go_wp2_with fail
     go_ret
     exact ⟨by rw [HT.out]; try rfl, by (repeat (first | (with_reducible first | exact Below.refl _ _ | assumption | refine Below.drew ?_) | ((with_reducible first | refine Below.alloc ?_ ?_ _ | refine Below.setCell ?_ ?_ _); rotate_left; (first | omega | (simp <;> omega)))))⟩
set_option maxHeartbeats 2000000 in
theorem weight_any (ba day : Int) (w : World) : Calls Tryz.prog 86 #[.int .i64 ba, .int .i64 day] w fun e w' => e = .returned (.int .i64 (wgt ba day)) ∧ Below w.heap.size w w' := by
 cases hf : vday day with
 | false =>
  have HT := hide (wgt_no ba hf)
  have HF := hide hf
  clear hf
  go_enter Tryz.func86, Tryz.ntmps86
  go_wp2_with fail
  refine (valid_any day _).mono ?_
  rintro e w9 ⟨rfl, rfl⟩
  rw [HF.out]
  go_wp2_with fail
  go_ret
  exact ⟨by rw [HT.out]; rfl, by (repeat (first | (with_reducible first | exact Below.refl _ _ | assumption | refine Below.drew ?_) | ((with_reducible first | refine Below.alloc ?_ ?_ _ | refine Below.setCell ?_ ?_ _); rotate_left; (first | omega | (simp <;> omega)))))⟩
 | true =>
  have HF := hide hf
  have HV := hide (vday_iff.1 hf)
  clear hf
  have z1 : day + 1 ≤ 9223372036854775807 := by have := HV.out; omega
  have z2 : -9223372036854775808 ≤ day + 1 := by have := HV.out; omega
  by_cases b1 : ba = 1
  ·have k1 : (ba == 1) = true := beq_iff_eq.2 b1
   have HT := hide (wgt_1 HF.out b1)
   have k2 : (ba == 2) = false := beq_eq_false_iff_ne.2 (by omega)
   have k3 : (ba == 3) = false := beq_eq_false_iff_ne.2 (by omega)
   have k4 : (ba == 4) = false := beq_eq_false_iff_ne.2 (by omega)
   clear b1
   go_enter Tryz.func86, Tryz.ntmps86
   go_wp2_with fail
   refine (valid_any day _).mono ?_
   rintro e w9 ⟨rfl, rfl⟩
   rw [HF.out]
   go_wp2_with fail
   refine (civil_any day _).mono ?_
   rintro e w1 ⟨rfl, b1⟩
   go_wp2_with fail
   go_ret
   exact ⟨by rw [HT.out]; try rfl, by (repeat (first | (with_reducible first | exact Below.refl _ _ | assumption | refine Below.drew ?_) | ((with_reducible first | refine Below.alloc ?_ ?_ _ | refine Below.setCell ?_ ?_ _); rotate_left; (first | omega | (simp <;> omega)))))⟩
  ·have k1 : (ba == 1) = false := beq_eq_false_iff_ne.2 b1
   by_cases b2 : ba = 2
   ·have k2 : (ba == 2) = true := beq_iff_eq.2 b2
    have HT := hide (wgt_2 HF.out b2)
    have k1 : (ba == 1) = false := beq_eq_false_iff_ne.2 (by omega)
    have k3 : (ba == 3) = false := beq_eq_false_iff_ne.2 (by omega)
    have k4 : (ba == 4) = false := beq_eq_false_iff_ne.2 (by omega)
    clear b2
    go_enter Tryz.func86, Tryz.ntmps86
    go_wp2_with fail
    refine (valid_any day _).mono ?_
    rintro e w9 ⟨rfl, rfl⟩
    rw [HF.out]
    go_wp2_with fail
    refine (civil_any day _).mono ?_
    rintro e w1 ⟨rfl, b1⟩
    go_wp2_with fail
    go_ret
    exact ⟨by rw [HT.out]; try rfl, by (repeat (first | (with_reducible first | exact Below.refl _ _ | assumption | refine Below.drew ?_) | ((with_reducible first | refine Below.alloc ?_ ?_ _ | refine Below.setCell ?_ ?_ _); rotate_left; (first | omega | (simp <;> omega)))))⟩
   ·have k2 : (ba == 2) = false := beq_eq_false_iff_ne.2 b2
    by_cases b3 : ba = 3
    ·have k3 : (ba == 3) = true := beq_iff_eq.2 b3
     have k4 : (ba == 4) = false := beq_eq_false_iff_ne.2 (by omega)
     cases hl : lpB (cY day) with
     | true =>
      have HT := hide (wgt_3y HF.out b3 hl)
      have HL := hide hl
      clear b1 b2 b3 hl
      go_enter Tryz.func86, Tryz.ntmps86
      go_wp2_with fail
      refine (valid_any day _).mono ?_
      rintro e w9 ⟨rfl, rfl⟩
      rw [HF.out]
      go_wp2_with fail
      refine (civil_any day _).mono ?_
      rintro e w1 ⟨rfl, b1⟩
      go_wp2_with fail
      refine (leap_any (cY day) _).mono ?_
      rintro e w2 ⟨rfl, rfl⟩
      rw [HL.out]
      go_wp2_with fail
      go_ret
      exact ⟨by rw [HT.out]; try rfl, by (repeat (first | (with_reducible first | exact Below.refl _ _ | assumption | refine Below.drew ?_) | ((with_reducible first | refine Below.alloc ?_ ?_ _ | refine Below.setCell ?_ ?_ _); rotate_left; (first | omega | (simp <;> omega)))))⟩
     | false =>
      have HT := hide (wgt_3n HF.out b3 hl)
      have HL := hide hl
      clear b1 b2 b3 hl
      go_enter Tryz.func86, Tryz.ntmps86
      go_wp2_with fail
      refine (valid_any day _).mono ?_
      rintro e w9 ⟨rfl, rfl⟩
      rw [HF.out]
      go_wp2_with fail
      refine (civil_any day _).mono ?_
      rintro e w1 ⟨rfl, b1⟩
      go_wp2_with fail
      refine (leap_any (cY day) _).mono ?_
      rintro e w2 ⟨rfl, rfl⟩
      rw [HL.out]
      go_wp2_with fail
      go_ret
      exact ⟨by rw [HT.out]; try rfl, by (repeat (first | (with_reducible first | exact Below.refl _ _ | assumption | refine Below.drew ?_) | ((with_reducible first | refine Below.alloc ?_ ?_ _ | refine Below.setCell ?_ ?_ _); rotate_left; (first | omega | (simp <;> omega)))))⟩
    ·have k3 : (ba == 3) = false := beq_eq_false_iff_ne.2 b3
     by_cases b4 : ba = 4
     ·have k4 : (ba == 4) = true := beq_iff_eq.2 b4
      have HT := hide (wgt_4 HF.out b4)
      have HB := thr_bd day (day + 1)
      clear b1 b2 b3 b4
      go_enter Tryz.func86, Tryz.ntmps86
      go_wp2_with fail
      refine (valid_any day _).mono ?_
      rintro e w9 ⟨rfl, rfl⟩
      rw [HF.out]
      go_wp2_with fail
      refine (civil_any day _).mono ?_
      rintro e w1 ⟨rfl, b1⟩
      go_wp2_with fail
      refine (thirty_any day (day + 1) _).mono ?_
      rintro e w2 ⟨rfl, b2⟩
      have b3 := b1.trans (b2.mono b1.size)
      obtain ⟨T, hT⟩ : ∃ T, T = thr day (day + 1) := ⟨_, rfl⟩
      rw [← hT] at HB HT ⊢
      obtain ⟨u1, u2⟩ := HB
      go_wp2_with fail
      go_ret
      exact ⟨by rw [HT.out]; go_num, by (repeat (first | (with_reducible first | exact Below.refl _ _ | assumption | refine Below.drew ?_) | ((with_reducible first | refine Below.alloc ?_ ?_ _ | refine Below.setCell ?_ ?_ _); rotate_left; (first | omega | (simp <;> omega)))))⟩
     ·have k4 : (ba == 4) = false := beq_eq_false_iff_ne.2 b4
      have HT := hide (wgt_5 HF.out b1 b2 b3 b4)
      clear b1 b2 b3 b4
      go_enter Tryz.func86, Tryz.ntmps86
      go_wp2_with fail
      refine (valid_any day _).mono ?_
      rintro e w9 ⟨rfl, rfl⟩
      rw [HF.out]
      go_wp2_with fail
      refine (civil_any day _).mono ?_
      rintro e w1 ⟨rfl, b1⟩
      go_wp2_with fail
      go_ret
      exact ⟨by rw [HT.out]; try rfl, by (repeat (first | (with_reducible first | exact Below.refl _ _ | assumption | refine Below.drew ?_) | ((with_reducible first | refine Below.alloc ?_ ?_ _ | refine Below.setCell ?_ ?_ _); rotate_left; (first | omega | (simp <;> omega)))))⟩
set_option maxHeartbeats 2000000 in
theorem rweight_any (ba day : Int) (w : World) : Calls Tryz.prog 58 #[.int .i64 ba, .int .i64 day] w fun e w' => e = .returned (.int .i64 (wgt ba day)) ∧ Below w.heap.size w w' := by
 cases hf : vday day with
 | false =>
  have HT := hide (wgt_no ba hf)
  have HF := hide hf
  clear hf
  go_enter Tryz.func58, Tryz.ntmps58
  go_wp2_with fail
  refine (rvalid_any day _).mono ?_
  rintro e w9 ⟨rfl, rfl⟩
  rw [HF.out]
  go_wp2_with fail
  go_ret
  exact ⟨by rw [HT.out]; rfl, by (repeat (first | (with_reducible first | exact Below.refl _ _ | assumption | refine Below.drew ?_) | ((with_reducible first | refine Below.alloc ?_ ?_ _ | refine Below.setCell ?_ ?_ _); rotate_left; (first | omega | (simp <;> omega)))))⟩
 | true =>
  have HF := hide hf
  have HV := hide (vday_iff.1 hf)
  clear hf
  have z1 : day + 1 ≤ 9223372036854775807 := by have := HV.out; omega
  have z2 : -9223372036854775808 ≤ day + 1 := by have := HV.out; omega
  by_cases b1 : ba = 1
  ·have k1 : (ba == 1) = true := beq_iff_eq.2 b1
   have HT := hide (wgt_1 HF.out b1)
   have k2 : (ba == 2) = false := beq_eq_false_iff_ne.2 (by omega)
   have k3 : (ba == 3) = false := beq_eq_false_iff_ne.2 (by omega)
   have k4 : (ba == 4) = false := beq_eq_false_iff_ne.2 (by omega)
   clear b1
   go_enter Tryz.func58, Tryz.ntmps58
   go_wp2_with fail
   refine (rvalid_any day _).mono ?_
   rintro e w9 ⟨rfl, rfl⟩
   rw [HF.out]
   go_wp2_with fail
   go_ret
   exact ⟨by rw [HT.out]; try rfl, by (repeat (first | (with_reducible first | exact Below.refl _ _ | assumption | refine Below.drew ?_) | ((with_reducible first | refine Below.alloc ?_ ?_ _ | refine Below.setCell ?_ ?_ _); rotate_left; (first | omega | (simp <;> omega)))))⟩
  ·have k1 : (ba == 1) = false := beq_eq_false_iff_ne.2 b1
   by_cases b2 : ba = 2
   ·have k2 : (ba == 2) = true := beq_iff_eq.2 b2
    have HT := hide (wgt_2 HF.out b2)
    have k1 : (ba == 1) = false := beq_eq_false_iff_ne.2 (by omega)
    have k3 : (ba == 3) = false := beq_eq_false_iff_ne.2 (by omega)
    have k4 : (ba == 4) = false := beq_eq_false_iff_ne.2 (by omega)
    clear b2
    go_enter Tryz.func58, Tryz.ntmps58
    go_wp2_with fail
    refine (rvalid_any day _).mono ?_
    rintro e w9 ⟨rfl, rfl⟩
    rw [HF.out]
    go_wp2_with fail
    go_ret
    exact ⟨by rw [HT.out]; try rfl, by (repeat (first | (with_reducible first | exact Below.refl _ _ | assumption | refine Below.drew ?_) | ((with_reducible first | refine Below.alloc ?_ ?_ _ | refine Below.setCell ?_ ?_ _); rotate_left; (first | omega | (simp <;> omega)))))⟩
   ·have k2 : (ba == 2) = false := beq_eq_false_iff_ne.2 b2
    by_cases b3 : ba = 3
    ·have k3 : (ba == 3) = true := beq_iff_eq.2 b3
     have k4 : (ba == 4) = false := beq_eq_false_iff_ne.2 (by omega)
     cases hl : lpB (cY day) with
     | true =>
      have HT := hide (wgt_3y HF.out b3 hl)
      have HL := hide hl
      clear b1 b2 b3 hl
      go_enter Tryz.func58, Tryz.ntmps58
      go_wp2_with fail
      refine (rvalid_any day _).mono ?_
      rintro e w9 ⟨rfl, rfl⟩
      rw [HF.out]
      go_wp2_with fail
      refine (rcivil_any day _).mono ?_
      rintro e w1 ⟨rfl, b1⟩
      go_wp2_with fail
      refine (rleap_any (cY day) _).mono ?_
      rintro e w2 ⟨rfl, rfl⟩
      rw [HL.out]
      go_wp2_with fail
      go_ret
      exact ⟨by rw [HT.out]; try rfl, by (repeat (first | (with_reducible first | exact Below.refl _ _ | assumption | refine Below.drew ?_) | ((with_reducible first | refine Below.alloc ?_ ?_ _ | refine Below.setCell ?_ ?_ _); rotate_left; (first | omega | (simp <;> omega)))))⟩
     | false =>
      have HT := hide (wgt_3n HF.out b3 hl)
      have HL := hide hl
      clear b1 b2 b3 hl
      go_enter Tryz.func58, Tryz.ntmps58
      go_wp2_with fail
      refine (rvalid_any day _).mono ?_
      rintro e w9 ⟨rfl, rfl⟩
      rw [HF.out]
      go_wp2_with fail
      refine (rcivil_any day _).mono ?_
      rintro e w1 ⟨rfl, b1⟩
      go_wp2_with fail
      refine (rleap_any (cY day) _).mono ?_
      rintro e w2 ⟨rfl, rfl⟩
      rw [HL.out]
      go_wp2_with fail
      go_ret
      exact ⟨by rw [HT.out]; try rfl, by (repeat (first | (with_reducible first | exact Below.refl _ _ | assumption | refine Below.drew ?_) | ((with_reducible first | refine Below.alloc ?_ ?_ _ | refine Below.setCell ?_ ?_ _); rotate_left; (first | omega | (simp <;> omega)))))⟩
    ·have k3 : (ba == 3) = false := beq_eq_false_iff_ne.2 b3
     by_cases b4 : ba = 4
     ·have k4 : (ba == 4) = true := beq_iff_eq.2 b4
      have HT := hide (wgt_4 HF.out b4)
      have HB := thr_bd day (day + 1)
      clear b1 b2 b3 b4
      go_enter Tryz.func58, Tryz.ntmps58
      go_wp2_with fail
      refine (rvalid_any day _).mono ?_
      rintro e w9 ⟨rfl, rfl⟩
      rw [HF.out]
      go_wp2_with fail
      refine (rthirty_any day (day + 1) _).mono ?_
      rintro e w2 ⟨rfl, b2⟩
      obtain ⟨T, hT⟩ : ∃ T, T = thr day (day + 1) := ⟨_, rfl⟩
      rw [← hT] at HB HT ⊢
      obtain ⟨u1, u2⟩ := HB
      go_wp2_with fail
      go_ret
      exact ⟨by rw [HT.out]; go_num, by (repeat (first | (with_reducible first | exact Below.refl _ _ | assumption | refine Below.drew ?_) | ((with_reducible first | refine Below.alloc ?_ ?_ _ | refine Below.setCell ?_ ?_ _); rotate_left; (first | omega | (simp <;> omega)))))⟩
     ·have k4 : (ba == 4) = false := beq_eq_false_iff_ne.2 b4
      have HT := hide (wgt_5 HF.out b1 b2 b3 b4)
      clear b1 b2 b3 b4
      go_enter Tryz.func58, Tryz.ntmps58
      go_wp2_with fail
      refine (rvalid_any day _).mono ?_
      rintro e w9 ⟨rfl, rfl⟩
      rw [HF.out]
      go_wp2_with fail
      go_ret
      exact ⟨by rw [HT.out]; try rfl, by (repeat (first | (with_reducible first | exact Below.refl _ _ | assumption | refine Below.drew ?_) | ((with_reducible first | refine Below.alloc ?_ ?_ _ | refine Below.setCell ?_ ?_ _); rotate_left; (first | omega | (simp <;> omega)))))⟩
end Go.Proofs.YtdjlaiilngechaaGreatDoor
