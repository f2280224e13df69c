/- Texts laid together: Wc Wd. -/
import Derived.Test.YtdjlaiilngechaaGreatDoorXWa
import Derived.Test.YtdjlaiilngechaaGreatDoorXReg
import Derived.Test.YtdjlaiilngechaaGreatDoorXK0
namespace Go.Proofs.YtdjlaiilngechaaGreatDoor
set_option maxRecDepth 4000
set_option linter.unusedSimpArgs false
set_option linter.unusedVariables false
open Go.RowKit
set_option maxHeartbeats 400000 in
theorem times_any (m n more : Int) (hm : MIn m) (n1 : 0 ≤ n) (n2 : n < 18446744073709551616) (r1 : 0 ≤ more) (r2 : more < 18446744073709551616) (w : World) :
  Calls Tryz.prog 160 #[.agg #[.int .u64 (hiW m), .int .u64 (loW m)], .int .u64 n, .int .u64 more] w fun e w' =>
   e = .returned (.tuple #[.agg #[.int .u64 (hiW (mod128 (m * n + more))), .int .u64 (loW (mod128 (m * n + more)))], .bool (fitM (m * n + more))]) ∧ Below w.heap.size w w' := by
 obtain ⟨a1, a2⟩ := hi_mbd hm; obtain ⟨c1, c2⟩ := lo_bd m
 have HT := hide (times_parts hm n1 n2 r1 r2)
 have l1 := (lo_bd (loW m * n)).1
 have l2 := (lo_bd (hiW m * n)).1
 have u1 : 0 ≤ IntKind.u64.wrap (hiW (loW m * n) + hiW (loW (loW m * n) + more)) := by rw [wrapU]; omega
 go_enter Tryz.func160, Tryz.ntmps160
 go_wp2_with fail
 refine (mul64_any (loW m) n c1 c2 n1 n2 _).mono ?_
 rintro e w1 ⟨rfl, rfl⟩
 go_wp2_with fail
 refine (mul64_any (hiW m) n a1 a2 n1 n2 _).mono ?_
 rintro e w1 ⟨rfl, rfl⟩
 go_wp2_with (first | simp only [add64_0 _ more l1 r1] | simp only [add64_0 _ _ l2 u1])
 ·rename_i h1
  refine bodyPost_ret (v := .tuple #[.agg #[.int .u64 (loW (loW (hiW m * n) + IntKind.u64.wrap (hiW (loW m * n) + hiW (loW (loW m * n) + more)))), .int .u64 (loW (loW (loW m * n) + more))], .bool (hiW (loW (hiW m * n) + IntKind.u64.wrap (hiW (loW m * n) + hiW (loW (loW m * n) + more))) == 0)]) (by simp [results, Tryz.results160, go_sem]) rfl ⟨?_, ?_⟩
  ·rw [HT.out.1, HT.out.2.1]
   by_cases hf : m * n + more < 340282366920938463463374607431768211456
   ·rw [fitM_t hf, (HT.out.2.2.2 hf).2]; rfl
   ·rw [fitM_f hf, beq_eq_false_iff_ne.2 (fun h2 => hf (HT.out.2.2.1 ⟨h1, h2⟩))]
  (repeat (first | (with_reducible first | exact Below.refl _ _ | assumption | refine Below.drew ?_) | ((with_reducible first | refine Below.alloc ?_ ?_ _ | refine Below.setCell ?_ ?_ _); rotate_left; (first | omega | (simp <;> omega)))))
 ·rename_i h1
  refine bodyPost_ret (v := .tuple #[.agg #[.int .u64 (loW (loW (hiW m * n) + IntKind.u64.wrap (hiW (loW m * n) + hiW (loW (loW m * n) + more)))), .int .u64 (loW (loW (loW m * n) + more))], .bool false]) (by simp [results, Tryz.results160, go_sem]) rfl ⟨?_, ?_⟩
  ·rw [HT.out.1, HT.out.2.1, fitM_f (fun hf => h1 (HT.out.2.2.2 hf).1)]
  (repeat (first | (with_reducible first | exact Below.refl _ _ | assumption | refine Below.drew ?_) | ((with_reducible first | refine Below.alloc ?_ ?_ _ | refine Below.setCell ?_ ?_ _); rotate_left; (first | omega | (simp <;> omega)))))
set_option maxHeartbeats 400000 in
theorem signed_any (m : Int) (minus : Bool) (hm : MIn m) (w : World) :
  Calls Tryz.prog 161 #[.agg #[.int .u64 (hiW m), .int .u64 (loW m)], .bool minus] w fun e w' =>
   e = .returned (.tuple #[.agg #[.int .i64 (hiW (fitR (sgn minus m))), .int .u64 (loW (fitR (sgn minus m)))], .int .i64 (fitE (sgn minus m))]) ∧ Below w.heap.size w w' := by
 obtain ⟨a1, a2⟩ := hi_mbd hm; obtain ⟨c1, c2⟩ := lo_bd m
 by_cases t1 : 9223372036854775808 < hiW m
 ·have ho : ¬ WIn (sgn minus m) := by unfold hiW at t1; unfold WIn sgn; cases minus <;> simp <;> omega
  rw [fitR_not ho, fitE_not ho, hi_zero, lo_zero]
  clear ho
  go_enter Tryz.func161, Tryz.ntmps161
  go_wp2_with fail
  refine bodyPost_ret (v := .tuple #[.agg #[.int .i64 0, .int .u64 0], .int .i64 6]) (by simp [results, Tryz.results161, go_sem]) rfl ⟨rfl, ?_⟩
  (repeat (first | (with_reducible first | exact Below.refl _ _ | assumption | refine Below.drew ?_) | ((with_reducible first | refine Below.alloc ?_ ?_ _ | refine Below.setCell ?_ ?_ _); rotate_left; (first | omega | (simp <;> omega)))))
 by_cases t2 : hiW m ≤ 9223372036854775807
 ·have ho : WIn (sgn minus m) := by unfold MIn at hm; unfold hiW at t2; unfold WIn sgn; cases minus <;> simp <;> omega
  have hw : WIn m := by unfold MIn at hm; unfold hiW at t2; unfold WIn; omega
  rw [fitR_of ho, fitE_of ho]
  clear ho t1
  cases minus
  ·rw [sgn_f]
   go_enter Tryz.func161, Tryz.ntmps161
   go_wp2_with fail
   refine bodyPost_ret (v := .tuple #[.agg #[.int .i64 (hiW m), .int .u64 (loW m)], .int .i64 0]) (by simp [results, Tryz.results161, go_sem]) rfl ⟨rfl, ?_⟩
   (repeat (first | (with_reducible first | exact Below.refl _ _ | assumption | refine Below.drew ?_) | ((with_reducible first | refine Below.alloc ?_ ?_ _ | refine Below.setCell ?_ ?_ _); rotate_left; (first | omega | (simp <;> omega)))))
  ·have HN := hide (show neg128 m = -m from neg128_ok (by unfold MIn at hm; omega))
   rw [sgn_t]
   go_enter Tryz.func161, Tryz.ntmps161
   go_wp2_with fail
   refine (neg_any m hw _).mono ?_
   rintro e w1 ⟨rfl, hb⟩
   obtain ⟨k1, k2, k3, k4, k5, k6, k7, k8, k9, k10, k11, k12, kB⟩ := keep3 hb
   clear hb
   rw [HN.out]
   go_wp2_with fail
   refine bodyPost_ret (v := .tuple #[.agg #[.int .i64 (hiW (-m)), .int .u64 (loW (-m))], .int .i64 0]) (by simp [results, Tryz.results161, go_sem, *]) rfl ⟨rfl, ?_⟩
   (repeat (first | (with_reducible first | exact Below.refl _ _ | assumption | refine Below.drew ?_) | ((with_reducible first | refine Below.alloc ?_ ?_ _ | refine Below.setCell ?_ ?_ _); rotate_left; (first | omega | (simp <;> omega)))))
 have t3 : 9223372036854775808 ≤ hiW m := by omega
 have t1' : hiW m ≤ 9223372036854775808 := by omega
 clear t1 t2
 by_cases t4 : minus = true ∧ loW m ≤ 0
 ·obtain ⟨rfl, t4⟩ := t4
  have hm2 : m = 170141183460469231731687303715884105728 := by unfold loW at t4; unfold hiW at t3 t1'; omega
  have H1 := hide (show wrap64 9223372036854775808 = hiW (-m) from by rw [hm2]; unfold wrap64 hiW; omega)
  have H2 := hide (show loW m = loW (-m) from by rw [hm2]; decide)
  have H3 := hide (show neg128 (-m) = -m from by rw [hm2]; decide)
  have hw : WIn (-m) := by rw [hm2]; decide
  rw [sgn_t, fitR_of hw, fitE_of hw]
  clear hm2
  go_enter Tryz.func161, Tryz.ntmps161
  go_wp2_with fail
  rw [H1.out, H2.out]
  refine (neg_any (-m) hw _).mono ?_
  rintro e w1 ⟨rfl, hb⟩
  obtain ⟨k1, k2, k3, k4, k5, k6, k7, k8, k9, k10, k11, k12, kB⟩ := keep3 hb
  clear hb
  rw [H3.out]
  go_wp2_with fail
  refine bodyPost_ret (v := .tuple #[.agg #[.int .i64 (hiW (-m)), .int .u64 (loW (-m))], .int .i64 0]) (by simp [results, Tryz.results161, go_sem, *]) rfl ⟨rfl, ?_⟩
  (repeat (first | (with_reducible first | exact Below.refl _ _ | assumption | refine Below.drew ?_) | ((with_reducible first | refine Below.alloc ?_ ?_ _ | refine Below.setCell ?_ ?_ _); rotate_left; (first | omega | (simp <;> omega)))))
 ·have ho : ¬ WIn (sgn minus m) := by
   unfold hiW at t3; unfold loW at t4; unfold WIn sgn
   cases minus <;> simp at t4 ⊢ <;> omega
  rw [fitR_not ho, fitE_not ho, hi_zero, lo_zero]
  clear ho
  cases minus
  ·clear t4
   go_enter Tryz.func161, Tryz.ntmps161
   go_wp2_with fail
   refine bodyPost_ret (v := .tuple #[.agg #[.int .i64 0, .int .u64 0], .int .i64 6]) (by simp [results, Tryz.results161, go_sem]) rfl ⟨rfl, ?_⟩
   (repeat (first | (with_reducible first | exact Below.refl _ _ | assumption | refine Below.drew ?_) | ((with_reducible first | refine Below.alloc ?_ ?_ _ | refine Below.setCell ?_ ?_ _); rotate_left; (first | omega | (simp <;> omega)))))
  ·have t5 : 0 < loW m := by simp at t4; omega
   clear t4
   go_enter Tryz.func161, Tryz.ntmps161
   go_wp2_with fail
   refine bodyPost_ret (v := .tuple #[.agg #[.int .i64 0, .int .u64 0], .int .i64 6]) (by simp [results, Tryz.results161, go_sem]) rfl ⟨rfl, ?_⟩
   (repeat (first | (with_reducible first | exact Below.refl _ _ | assumption | refine Below.drew ?_) | ((with_reducible first | refine Below.alloc ?_ ?_ _ | refine Below.setCell ?_ ?_ _); rotate_left; (first | omega | (simp <;> omega)))))
theorem absI_mbd {n : Int} (h1 : -9223372036854775808 ≤ n) (h2 : n ≤ 9223372036854775807) : 0 ≤ absI n ∧ absI n < 18446744073709551616 := by have := absI_int h1 h2; omega
theorem mul_small {a b : Int} (a1 : -9223372036854775808 ≤ a) (a2 : a ≤ 9223372036854775807) (b1 : -9223372036854775808 ≤ b) (b2 : b ≤ 9223372036854775807) :
  0 ≤ absI a * absI b ∧ absI a * absI b ≤ 85070591730234615865843651857942052864 := by
 have ha := absI_int a1 a2; have hb := absI_int b1 b2
 refine ⟨Int.mul_nonneg ha.1 hb.1, ?_⟩
 have := Int.mul_le_mul ha.2 hb.2 hb.1 (by decide)
 omega
set_option maxHeartbeats 400000 in
theorem wmul_any (a b : Int) (a1 : -9223372036854775808 ≤ a) (a2 : a ≤ 9223372036854775807) (b1 : -9223372036854775808 ≤ b) (b2 : b ≤ 9223372036854775807) (w : World) :
  Calls Tryz.prog 111 #[.int .i64 a, .int .i64 b] w fun e w' =>
   e = .returned (.agg #[.int .i64 (hiW (a * b)), .int .u64 (loW (a * b))]) ∧ Below w.heap.size w w' := by
 obtain ⟨p1, p2⟩ := absI_mbd a1 a2; obtain ⟨q1, q2⟩ := absI_mbd b1 b2
 obtain ⟨m1, m2⟩ := mul_small a1 a2 b1 b2
 have hw : WIn (absI a * absI b) := by unfold WIn; omega
 have HS := hide (mul_sign a b)
 have HN := hide (neg128_ok (x := absI a * absI b) (by omega))
 have z1 : 0 ≤ hiW (absI a * absI b) := by unfold hiW; omega
 have z2 : hiW (absI a * absI b) ≤ 9223372036854775807 := by unfold hiW; omega
 clear m1 m2
 by_cases ha : a < 0
 ·by_cases hb : b < 0
  ·rw [HS.out.1 (by omega)]
   go_enter Tryz.func111, Tryz.ntmps111
   go_wp2_with fail
   refine (abs_any a a1 a2 _).mono ?_
   rintro e w1 ⟨rfl, rfl⟩
   go_wp2_with fail
   refine (abs_any b b1 b2 _).mono ?_
   rintro e w1 ⟨rfl, rfl⟩
   go_wp2_with fail
   refine (mul64_any _ _ p1 p2 q1 q2 _).mono ?_
   rintro e w1 ⟨rfl, rfl⟩
   go_wp2_with fail
   refine bodyPost_ret (v := .agg #[.int .i64 (hiW (absI a * absI b)), .int .u64 (loW (absI a * absI b))]) (by simp [results, Tryz.results111, go_sem]) rfl ⟨rfl, ?_⟩
   (repeat (first | (with_reducible first | exact Below.refl _ _ | assumption | refine Below.drew ?_) | ((with_reducible first | refine Below.alloc ?_ ?_ _ | refine Below.setCell ?_ ?_ _); rotate_left; (first | omega | (simp <;> omega)))))
  ·have hb := Int.not_lt.1 hb
   have hd : decide (b < 0) = false := decide_eq_false (by omega)
   rw [HS.out.2 (by omega)]
   go_enter Tryz.func111, Tryz.ntmps111
   go_wp2_with fail
   refine (abs_any a a1 a2 _).mono ?_
   rintro e w1 ⟨rfl, rfl⟩
   go_wp2_with fail
   refine (abs_any b b1 b2 _).mono ?_
   rintro e w1 ⟨rfl, rfl⟩
   go_wp2_with fail
   refine (mul64_any _ _ p1 p2 q1 q2 _).mono ?_
   rintro e w1 ⟨rfl, rfl⟩
   go_wp2_with fail
   refine (neg_any _ hw _).mono ?_
   rintro e w1 ⟨rfl, hb⟩
   obtain ⟨k1, k2, k3, k4, k5, k6, k7, k8, k9, kB⟩ := keep2 hb
   clear hb
   rw [HN.out]
   go_wp2_with fail
   refine bodyPost_ret (v := .agg #[.int .i64 (hiW (-(absI a * absI b))), .int .u64 (loW (-(absI a * absI b)))]) (by simp [results, Tryz.results111, go_sem, *]) rfl ⟨rfl, ?_⟩
   (repeat (first | (with_reducible first | exact Below.refl _ _ | assumption | refine Below.drew ?_) | ((with_reducible first | refine Below.alloc ?_ ?_ _ | refine Below.setCell ?_ ?_ _); rotate_left; (first | omega | (simp <;> omega)))))
 ·have ha := Int.not_lt.1 ha
  have hd' : decide (a < 0) = false := decide_eq_false (by omega)
  by_cases hb : b < 0
  ·rw [HS.out.2 (by omega)]
   go_enter Tryz.func111, Tryz.ntmps111
   go_wp2_with fail
   refine (abs_any a a1 a2 _).mono ?_
   rintro e w1 ⟨rfl, rfl⟩
   go_wp2_with fail
   refine (abs_any b b1 b2 _).mono ?_
   rintro e w1 ⟨rfl, rfl⟩
   go_wp2_with fail
   refine (mul64_any _ _ p1 p2 q1 q2 _).mono ?_
   rintro e w1 ⟨rfl, rfl⟩
   go_wp2_with fail
   refine (neg_any _ hw _).mono ?_
   rintro e w1 ⟨rfl, hb⟩
   obtain ⟨k1, k2, k3, k4, k5, k6, k7, k8, k9, kB⟩ := keep2 hb
   clear hb
   rw [HN.out]
   go_wp2_with fail
   refine bodyPost_ret (v := .agg #[.int .i64 (hiW (-(absI a * absI b))), .int .u64 (loW (-(absI a * absI b)))]) (by simp [results, Tryz.results111, go_sem, *]) rfl ⟨rfl, ?_⟩
   (repeat (first | (with_reducible first | exact Below.refl _ _ | assumption | refine Below.drew ?_) | ((with_reducible first | refine Below.alloc ?_ ?_ _ | refine Below.setCell ?_ ?_ _); rotate_left; (first | omega | (simp <;> omega)))))
  ·have hb := Int.not_lt.1 hb
   have hd : decide (b < 0) = false := decide_eq_false (by omega)
   rw [HS.out.1 (by omega)]
   go_enter Tryz.func111, Tryz.ntmps111
   go_wp2_with fail
   refine (abs_any a a1 a2 _).mono ?_
   rintro e w1 ⟨rfl, rfl⟩
   go_wp2_with fail
   refine (abs_any b b1 b2 _).mono ?_
   rintro e w1 ⟨rfl, rfl⟩
   go_wp2_with fail
   refine (mul64_any _ _ p1 p2 q1 q2 _).mono ?_
   rintro e w1 ⟨rfl, rfl⟩
   go_wp2_with fail
   refine bodyPost_ret (v := .agg #[.int .i64 (hiW (absI a * absI b)), .int .u64 (loW (absI a * absI b))]) (by simp [results, Tryz.results111, go_sem]) rfl ⟨rfl, ?_⟩
   (repeat (first | (with_reducible first | exact Below.refl _ _ | assumption | refine Below.drew ?_) | ((with_reducible first | refine Below.alloc ?_ ?_ _ | refine Below.setCell ?_ ?_ _); rotate_left; (first | omega | (simp <;> omega)))))
end Go.Proofs.YtdjlaiilngechaaGreatDoor
namespace Go.Proofs.YtdjlaiilngechaaGreatDoor
set_option maxRecDepth 4000
set_option linter.unusedSimpArgs false
set_option linter.unusedVariables false
open Go.RowKit
theorem times0_any (m n : Int) (hm : MIn m) (n1 : 0 ≤ n) (n2 : n < 18446744073709551616) (w : World) :
  Calls Tryz.prog 160 #[.agg #[.int .u64 (hiW m), .int .u64 (loW m)], .int .u64 n, .int .u64 0] w fun e w' =>
   e = .returned (.tuple #[.agg #[.int .u64 (hiW (mod128 (m * n))), .int .u64 (loW (mod128 (m * n)))], .bool (fitM (m * n))]) ∧ Below w.heap.size w w' := by
 have h := times_any m n 0 hm n1 n2 (by decide) (by decide) w
 rw [Int.add_zero] at h
 exact h
theorem scale_out {x n : Int} (h : ¬ absI x * absI n < 340282366920938463463374607431768211456) : ¬ WIn (x * n) := by
 rw [← absI_mul] at h
 unfold absI at h
 unfold WIn
 split at h <;> omega
theorem mag_in {m : Int} (h0 : 0 ≤ m) (h : m < 340282366920938463463374607431768211456) : MIn m := ⟨h0, h⟩
set_option maxHeartbeats 400000 in
theorem scale_no (x n : Int) (hx : WIn x) (n1 : -9223372036854775808 ≤ n) (n2 : n ≤ 9223372036854775807) (hf : ¬ absI x * absI n < 340282366920938463463374607431768211456) (w : World) :
  Calls Tryz.prog 151 #[.agg #[.int .i64 (hiW x), .int .u64 (loW x)], .int .i64 n] w fun e w' =>
   e = .returned (.tuple #[.agg #[.int .i64 0, .int .u64 0], .int .i64 6]) ∧ Below w.heap.size w w' := by
 have ha := absI_mbd n1 n2
 have HF := hide (fitM_f hf)
 clear hf
 go_enter Tryz.func151, Tryz.ntmps151
 go_wp2_with fail
 refine (absolute_any x hx _).mono ?_
 rintro e w1 ⟨rfl, hb⟩
 have q1B : Below w.heap.size w w1 := qB hb
 have q1z := hb.size
 try simp at q1z
 have q1t : w.heap.size ≤ w1.heap.size := (by omega)
 obtain ⟨q1s0, q1n0_0, q1n0_1, q1n0_2⟩ := kB w1.heap.size w.heap.size
 obtain ⟨q1c0_0, q1c0_1, q1f0⟩ := kC2 hb w.heap.size
 simp [go_sem, *] at q1c0_0 q1c0_1 q1f0
 obtain ⟨q1s1, q1n1_0, q1n1_1, q1n1_2⟩ := kB w1.heap.size (w.heap.size + 1)
 obtain ⟨q1c1_0, q1c1_1, q1f1⟩ := kC2 hb (w.heap.size + 1)
 simp [go_sem, *] at q1c1_0 q1c1_1 q1f1
 have q1o := belO q1B
 clear hb
 go_wp2_with fail
 refine (abs_any n n1 n2 _).mono ?_
 rintro e w2 ⟨rfl, rfl⟩
 go_wp2_with fail
 refine (times0_any (absI x) (absI n) (absI_win hx) ha.1 ha.2 _).mono ?_
 rintro e w2 ⟨rfl, hb⟩
 rw [HF.out]
 have q2B : Below w.heap.size w w2 := qB hb
 have q2z := hb.size
 try simp at q2z
 have q2t : w.heap.size ≤ w2.heap.size := (by omega)
 obtain ⟨q2s0, q2n0_0, q2n0_1, q2n0_2⟩ := kB w2.heap.size w.heap.size
 obtain ⟨q2c0_0, q2c0_1, q2f0⟩ := kC2 hb w.heap.size
 simp [go_sem, *] at q2c0_0 q2c0_1 q2f0
 obtain ⟨q2s1, q2n1_0, q2n1_1, q2n1_2⟩ := kB w2.heap.size (w.heap.size + 1)
 obtain ⟨q2c1_0, q2c1_1, q2f1⟩ := kC2 hb (w.heap.size + 1)
 simp [go_sem, *] at q2c1_0 q2c1_1 q2f1
 have q2o := belO q2B
 clear hb q1o q1f1 q1c1_1 q1c1_0 q1s1 q1f0 q1c0_1 q1c0_0 q1s0 q1z q1B
 go_wp2_with fail
 refine bodyPost_ret (v := .tuple #[.agg #[.int .i64 0, .int .u64 0], .int .i64 6]) (by simp [results, Tryz.results151, go_sem, *]) rfl ⟨rfl, ?_⟩
 (repeat (first | (with_reducible first | exact Below.refl _ _ | assumption | refine Below.drew ?_) | ((with_reducible first | refine Below.alloc ?_ ?_ _ | refine Below.setCell ?_ ?_ _); rotate_left; (first | omega | (simp <;> omega)))))
set_option maxHeartbeats 400000 in
theorem scale_nn (x n : Int) (hx : WIn x) (n1 : -9223372036854775808 ≤ n) (n2 : n ≤ 9223372036854775807) (hf : absI x * absI n < 340282366920938463463374607431768211456) (hs : hiW x < 0) (hs1 : n < 0) (w : World) :
  Calls Tryz.prog 151 #[.agg #[.int .i64 (hiW x), .int .u64 (loW x)], .int .i64 n] w fun e w' =>
   e = .returned (.tuple #[.agg #[.int .i64 (hiW (fitR (sgn false (absI x * absI n)))), .int .u64 (loW (fitR (sgn false (absI x * absI n))))], .int .i64 (fitE (sgn false (absI x * absI n)))]) ∧ Below w.heap.size w w' := by
 have ha := absI_mbd n1 n2
 have HM := mag_in (m := absI x * absI n) (Int.mul_nonneg (absI_nn x) (absI_nn n)) hf
 have HF := hide (fitM_t hf)
 have HE := hide (mod128_of HM)
 clear hf
 go_enter Tryz.func151, Tryz.ntmps151
 go_wp2_with fail
 refine (absolute_any x hx _).mono ?_
 rintro e w1 ⟨rfl, hb⟩
 have q1B : Below w.heap.size w w1 := qB hb
 have q1z := hb.size
 try simp at q1z
 have q1t : w.heap.size ≤ w1.heap.size := (by omega)
 obtain ⟨q1s0, q1n0_0, q1n0_1, q1n0_2⟩ := kB w1.heap.size w.heap.size
 obtain ⟨q1c0_0, q1c0_1, q1f0⟩ := kC2 hb w.heap.size
 simp [go_sem, *] at q1c0_0 q1c0_1 q1f0
 obtain ⟨q1s1, q1n1_0, q1n1_1, q1n1_2⟩ := kB w1.heap.size (w.heap.size + 1)
 obtain ⟨q1c1_0, q1c1_1, q1f1⟩ := kC2 hb (w.heap.size + 1)
 simp [go_sem, *] at q1c1_0 q1c1_1 q1f1
 have q1o := belO q1B
 clear hb
 go_wp2_with fail
 refine (abs_any n n1 n2 _).mono ?_
 rintro e w2 ⟨rfl, rfl⟩
 go_wp2_with fail
 refine (times0_any (absI x) (absI n) (absI_win hx) ha.1 ha.2 _).mono ?_
 rintro e w2 ⟨rfl, hb⟩
 rw [HF.out, HE.out]
 have q2B : Below w.heap.size w w2 := qB hb
 have q2z := hb.size
 try simp at q2z
 have q2t : w.heap.size ≤ w2.heap.size := (by omega)
 obtain ⟨q2s0, q2n0_0, q2n0_1, q2n0_2⟩ := kB w2.heap.size w.heap.size
 obtain ⟨q2c0_0, q2c0_1, q2f0⟩ := kC2 hb w.heap.size
 simp [go_sem, *] at q2c0_0 q2c0_1 q2f0
 obtain ⟨q2s1, q2n1_0, q2n1_1, q2n1_2⟩ := kB w2.heap.size (w.heap.size + 1)
 obtain ⟨q2c1_0, q2c1_1, q2f1⟩ := kC2 hb (w.heap.size + 1)
 simp [go_sem, *] at q2c1_0 q2c1_1 q2f1
 have q2o := belO q2B
 clear hb q1o q1f1 q1c1_1 q1c1_0 q1s1 q1f0 q1c0_1 q1c0_0 q1s0 q1z q1B
 go_wp2_with fail
 refine wp_region_seq (SB (w2.heap.size + 1) [w.heap.size + 1] _) [true, true, true, true, true, true, true, true, true, true, true, true, false, true, true, false, true] (by kernel_rfl) (by kernel_rfl) rfl (by kernel_rfl) (fun _ _ d _ _ h => by cases d <;> exact h) SB.refl.drew (fun hHeld => ?_)
 refine seq_take ?_ (by rfl) (fun wx hSx => ?_) ?_
 rotate_left
 ·(unfold SB at hSx; go_simp; (try with_reducible rfl))
 (try simp only [Act.put, putS])
 refine seq_take ?_ (by rfl) (fun wx hSx => ?_) ?_
 rotate_left
 ·(unfold SB at hSx; go_simp; (try with_reducible rfl))
 (try simp only [Act.put, putS])
 refine seq_take ?_ (by rfl) (fun wx hSx => ?_) ?_
 rotate_left
 ·(unfold SB at hSx; go_simp; (try with_reducible rfl))
 (try simp only [Act.put, putS])
 refine seq_take ?_ (by rfl) (fun wx hSx => ?_) ?_
 rotate_left
 ·(unfold SB at hSx; go_simp; (try with_reducible rfl))
 (try simp only [Act.put, putS])
 refine seq_take ?_ (by rfl) (fun wx hSx => ?_) ?_
 rotate_left
 ·(unfold SB at hSx; go_simp; (try with_reducible rfl))
 (try simp only [Act.put, putS])
 refine seq_take ?_ (by rfl) (fun wx hSx => ?_) ?_
 rotate_left
 ·(unfold SB at hSx; go_simp; (try with_reducible rfl))
 (try simp only [Act.put, putS])
 refine seq_take ?_ (by rfl) (fun wx hSx => ?_) ?_
 rotate_left
 ·(unfold SB at hSx; go_simp; (try with_reducible rfl))
 (try simp only [Act.put, putS])
 refine seq_take ?_ (by rfl) (fun wx hSx => ?_) ?_
 rotate_left
 ·(unfold SB at hSx; go_simp; (try with_reducible rfl))
 (try simp only [Act.put, putS])
 refine seq_skip (by rfl) ?_
 (try simp only [Act.put, putS])
 refine seq_skip (by rfl) ?_
 (try simp only [Act.put, putS])
 refine seq_skip (by rfl) ?_
 (try simp only [Act.put, putS])
 refine seq_take ?_ (by rfl) (fun wx hSx => ?_) ?_
 rotate_left
 ·(unfold SB at hSx; go_simp; (try with_reducible rfl))
 (try simp only [Act.put, putS])
 refine seq_run (by rfl) (fun K hK => ?_)
 go_simp
 go_wp2_with (go_at_call 161; refine (signed_any (absI x * absI n) false HM _).mono ?_; rintro e w3 ⟨rfl, hb⟩; have q3B : Below w.heap.size w w3 := qB hb; have q3z := hb.size; (try simp at q3z); have q3t : w.heap.size ≤ w3.heap.size := (by omega); have q3s0 : w.heap.size < w3.heap.size := (by omega); obtain ⟨q3n0_0, q3n0_1, q3n0_2⟩ := kN q3s0; obtain ⟨q3c0_0, q3c0_1, q3f0⟩ := kC2 hb w.heap.size; simp [go_sem, *] at q3c0_0 q3c0_1 q3f0; have q3s1 : w.heap.size + 1 < w3.heap.size := (by omega); obtain ⟨q3n1_0, q3n1_1, q3n1_2⟩ := kN q3s1; obtain ⟨q3c1_0, q3c1_1, q3f1⟩ := kC2 hb (w.heap.size + 1); simp [go_sem, *] at q3c1_0 q3c1_1 q3f1; have q3s2 : w2.heap.size < w3.heap.size := (by omega); obtain ⟨q3n2_0, q3n2_1, q3n2_2⟩ := kN q3s2; obtain ⟨q3c2_0, q3c2_1, q3f2⟩ := kC2 hb w2.heap.size; simp [go_sem, *] at q3c2_0 q3c2_1 q3f2; have q3o := belO q3B; have hbS := hb; have hbS3 := hb; clear hb)
 refine hK.out _ _ ?_ (fun hHeld => ?_)
 ·exact sbT
 clear hK K
 (try simp only [Act.put, putS])
 refine seq_take ?_ (by rfl) (fun wx hSx => ?_) ?_
 rotate_left
 ·(unfold SB at hSx; go_simp; (try with_reducible rfl))
 (try simp only [Act.put, putS])
 refine seq_take ?_ (by rfl) (fun wx hSx => ?_) ?_
 rotate_left
 ·(unfold SB at hSx; go_simp; (try with_reducible rfl))
 (try simp only [Act.put, putS])
 refine seq_run (by rfl) (fun K hK => ?_)
 go_simp
 refine hK.out _ _ ?_ (fun hHeld => ?_)
 ·exact sbT
 clear hK K
 (try simp only [Act.put, putS])
 refine seq_take ?_ (by rfl) (fun wx hSx => ?_) ?_
 rotate_left
 ·(unfold SB at hSx; go_simp; (try with_reducible rfl))
 (try simp only [Act.put, putS])
 refine seq_end ?_
 go_wp2_with fail
 refine bodyPost_ret (v := .tuple #[.agg #[.int .i64 (hiW (fitR (sgn false (absI x * absI n)))), .int .u64 (loW (fitR (sgn false (absI x * absI n))))], .int .i64 (fitE (sgn false (absI x * absI n)))]) (by simp [results, Tryz.results151, go_sem, *]) rfl ⟨rfl, ?_⟩
 (repeat (first | (with_reducible first | exact Below.refl _ _ | assumption | refine Below.drew ?_) | ((with_reducible first | refine Below.alloc ?_ ?_ _ | refine Below.setCell ?_ ?_ _); rotate_left; (first | omega | (simp <;> omega)))))
set_option maxHeartbeats 400000 in
theorem scale_pp (x n : Int) (hx : WIn x) (n1 : -9223372036854775808 ≤ n) (n2 : n ≤ 9223372036854775807) (hf : absI x * absI n < 340282366920938463463374607431768211456) (hs : 0 ≤ hiW x) (hs1 : 0 ≤ n) (w : World) :
  Calls Tryz.prog 151 #[.agg #[.int .i64 (hiW x), .int .u64 (loW x)], .int .i64 n] w fun e w' =>
   e = .returned (.tuple #[.agg #[.int .i64 (hiW (fitR (sgn false (absI x * absI n)))), .int .u64 (loW (fitR (sgn false (absI x * absI n))))], .int .i64 (fitE (sgn false (absI x * absI n)))]) ∧ Below w.heap.size w w' := by
 have ha := absI_mbd n1 n2
 have HM := mag_in (m := absI x * absI n) (Int.mul_nonneg (absI_nn x) (absI_nn n)) hf
 have HF := hide (fitM_t hf)
 have HE := hide (mod128_of HM)
 clear hf
 have hd1 : decide (hiW x < 0) = false := decide_eq_false (by omega)
 have hd2 : decide (n < 0) = false := decide_eq_false (by omega)
 go_enter Tryz.func151, Tryz.ntmps151
 go_wp2_with fail
 refine (absolute_any x hx _).mono ?_
 rintro e w1 ⟨rfl, hb⟩
 have q1B : Below w.heap.size w w1 := qB hb
 have q1z := hb.size
 try simp at q1z
 have q1t : w.heap.size ≤ w1.heap.size := (by omega)
 obtain ⟨q1s0, q1n0_0, q1n0_1, q1n0_2⟩ := kB w1.heap.size w.heap.size
 obtain ⟨q1c0_0, q1c0_1, q1f0⟩ := kC2 hb w.heap.size
 simp [go_sem, *] at q1c0_0 q1c0_1 q1f0
 obtain ⟨q1s1, q1n1_0, q1n1_1, q1n1_2⟩ := kB w1.heap.size (w.heap.size + 1)
 obtain ⟨q1c1_0, q1c1_1, q1f1⟩ := kC2 hb (w.heap.size + 1)
 simp [go_sem, *] at q1c1_0 q1c1_1 q1f1
 have q1o := belO q1B
 clear hb
 go_wp2_with fail
 refine (abs_any n n1 n2 _).mono ?_
 rintro e w2 ⟨rfl, rfl⟩
 go_wp2_with fail
 refine (times0_any (absI x) (absI n) (absI_win hx) ha.1 ha.2 _).mono ?_
 rintro e w2 ⟨rfl, hb⟩
 rw [HF.out, HE.out]
 have q2B : Below w.heap.size w w2 := qB hb
 have q2z := hb.size
 try simp at q2z
 have q2t : w.heap.size ≤ w2.heap.size := (by omega)
 obtain ⟨q2s0, q2n0_0, q2n0_1, q2n0_2⟩ := kB w2.heap.size w.heap.size
 obtain ⟨q2c0_0, q2c0_1, q2f0⟩ := kC2 hb w.heap.size
 simp [go_sem, *] at q2c0_0 q2c0_1 q2f0
 obtain ⟨q2s1, q2n1_0, q2n1_1, q2n1_2⟩ := kB w2.heap.size (w.heap.size + 1)
 obtain ⟨q2c1_0, q2c1_1, q2f1⟩ := kC2 hb (w.heap.size + 1)
 simp [go_sem, *] at q2c1_0 q2c1_1 q2f1
 have q2o := belO q2B
 clear hb q1o q1f1 q1c1_1 q1c1_0 q1s1 q1f0 q1c0_1 q1c0_0 q1s0 q1z q1B
 go_wp2_with fail
 refine wp_region_seq (SB (w2.heap.size + 1) [w.heap.size + 1] _) [true, true, true, true, true, true, true, true, true, true, true, true, false, true, true, false, true] (by kernel_rfl) (by kernel_rfl) rfl (by kernel_rfl) (fun _ _ d _ _ h => by cases d <;> exact h) SB.refl.drew (fun hHeld => ?_)
 refine seq_take ?_ (by rfl) (fun wx hSx => ?_) ?_
 rotate_left
 ·(unfold SB at hSx; go_simp; (try with_reducible rfl))
 (try simp only [Act.put, putS])
 refine seq_take ?_ (by rfl) (fun wx hSx => ?_) ?_
 rotate_left
 ·(unfold SB at hSx; go_simp; (try with_reducible rfl))
 (try simp only [Act.put, putS])
 refine seq_take ?_ (by rfl) (fun wx hSx => ?_) ?_
 rotate_left
 ·(unfold SB at hSx; go_simp; (try with_reducible rfl))
 (try simp only [Act.put, putS])
 refine seq_take ?_ (by rfl) (fun wx hSx => ?_) ?_
 rotate_left
 ·(unfold SB at hSx; go_simp; (try with_reducible rfl))
 (try simp only [Act.put, putS])
 refine seq_take ?_ (by rfl) (fun wx hSx => ?_) ?_
 rotate_left
 ·(unfold SB at hSx; go_simp; (try with_reducible rfl))
 (try simp only [Act.put, putS])
 refine seq_take ?_ (by rfl) (fun wx hSx => ?_) ?_
 rotate_left
 ·(unfold SB at hSx; go_simp; (try with_reducible rfl))
 (try simp only [Act.put, putS])
 refine seq_take ?_ (by rfl) (fun wx hSx => ?_) ?_
 rotate_left
 ·(unfold SB at hSx; go_simp; (try with_reducible rfl))
 (try simp only [Act.put, putS])
 refine seq_take ?_ (by rfl) (fun wx hSx => ?_) ?_
 rotate_left
 ·(unfold SB at hSx; go_simp; (try with_reducible rfl))
 (try simp only [Act.put, putS])
 refine seq_skip (by rfl) ?_
 (try simp only [Act.put, putS])
 refine seq_skip (by rfl) ?_
 (try simp only [Act.put, putS])
 refine seq_skip (by rfl) ?_
 (try simp only [Act.put, putS])
 refine seq_take ?_ (by rfl) (fun wx hSx => ?_) ?_
 rotate_left
 ·(unfold SB at hSx; go_simp; (try with_reducible rfl))
 (try simp only [Act.put, putS])
 refine seq_run (by rfl) (fun K hK => ?_)
 go_simp
 go_wp2_with (go_at_call 161; refine (signed_any (absI x * absI n) false HM _).mono ?_; rintro e w3 ⟨rfl, hb⟩; have q3B : Below w.heap.size w w3 := qB hb; have q3z := hb.size; (try simp at q3z); have q3t : w.heap.size ≤ w3.heap.size := (by omega); have q3s0 : w.heap.size < w3.heap.size := (by omega); obtain ⟨q3n0_0, q3n0_1, q3n0_2⟩ := kN q3s0; obtain ⟨q3c0_0, q3c0_1, q3f0⟩ := kC2 hb w.heap.size; simp [go_sem, *] at q3c0_0 q3c0_1 q3f0; have q3s1 : w.heap.size + 1 < w3.heap.size := (by omega); obtain ⟨q3n1_0, q3n1_1, q3n1_2⟩ := kN q3s1; obtain ⟨q3c1_0, q3c1_1, q3f1⟩ := kC2 hb (w.heap.size + 1); simp [go_sem, *] at q3c1_0 q3c1_1 q3f1; have q3s2 : w2.heap.size < w3.heap.size := (by omega); obtain ⟨q3n2_0, q3n2_1, q3n2_2⟩ := kN q3s2; obtain ⟨q3c2_0, q3c2_1, q3f2⟩ := kC2 hb w2.heap.size; simp [go_sem, *] at q3c2_0 q3c2_1 q3f2; have q3o := belO q3B; have hbS := hb; have hbS3 := hb; clear hb)
 refine hK.out _ _ ?_ (fun hHeld => ?_)
 ·exact sbT
 clear hK K
 (try simp only [Act.put, putS])
 refine seq_take ?_ (by rfl) (fun wx hSx => ?_) ?_
 rotate_left
 ·(unfold SB at hSx; go_simp; (try with_reducible rfl))
 (try simp only [Act.put, putS])
 refine seq_take ?_ (by rfl) (fun wx hSx => ?_) ?_
 rotate_left
 ·(unfold SB at hSx; go_simp; (try with_reducible rfl))
 (try simp only [Act.put, putS])
 refine seq_run (by rfl) (fun K hK => ?_)
 go_simp
 refine hK.out _ _ ?_ (fun hHeld => ?_)
 ·exact sbT
 clear hK K
 (try simp only [Act.put, putS])
 refine seq_take ?_ (by rfl) (fun wx hSx => ?_) ?_
 rotate_left
 ·(unfold SB at hSx; go_simp; (try with_reducible rfl))
 (try simp only [Act.put, putS])
 refine seq_end ?_
 go_wp2_with fail
 refine bodyPost_ret (v := .tuple #[.agg #[.int .i64 (hiW (fitR (sgn false (absI x * absI n)))), .int .u64 (loW (fitR (sgn false (absI x * absI n))))], .int .i64 (fitE (sgn false (absI x * absI n)))]) (by simp [results, Tryz.results151, go_sem, *]) rfl ⟨rfl, ?_⟩
 (repeat (first | (with_reducible first | exact Below.refl _ _ | assumption | refine Below.drew ?_) | ((with_reducible first | refine Below.alloc ?_ ?_ _ | refine Below.setCell ?_ ?_ _); rotate_left; (first | omega | (simp <;> omega)))))
set_option maxHeartbeats 400000 in
theorem scale_np (x n : Int) (hx : WIn x) (n1 : -9223372036854775808 ≤ n) (n2 : n ≤ 9223372036854775807) (hf : absI x * absI n < 340282366920938463463374607431768211456) (hs : hiW x < 0) (hs1 : 0 ≤ n) (hz : ¬ (hiW (absI x * absI n) = 0 ∧ loW (absI x * absI n) = 0)) (w : World) :
  Calls Tryz.prog 151 #[.agg #[.int .i64 (hiW x), .int .u64 (loW x)], .int .i64 n] w fun e w' =>
   e = .returned (.tuple #[.agg #[.int .i64 (hiW (fitR (sgn true (absI x * absI n)))), .int .u64 (loW (fitR (sgn true (absI x * absI n))))], .int .i64 (fitE (sgn true (absI x * absI n)))]) ∧ Below w.heap.size w w' := by
 have ha := absI_mbd n1 n2
 have HM := mag_in (m := absI x * absI n) (Int.mul_nonneg (absI_nn x) (absI_nn n)) hf
 have HF := hide (fitM_t hf)
 have HE := hide (mod128_of HM)
 clear hf
 have hd2 : decide (n < 0) = false := decide_eq_false (by omega)
 have HZ := hide hz
 clear hz
 go_enter Tryz.func151, Tryz.ntmps151
 go_wp2_with fail
 refine (absolute_any x hx _).mono ?_
 rintro e w1 ⟨rfl, hb⟩
 have q1B : Below w.heap.size w w1 := qB hb
 have q1z := hb.size
 try simp at q1z
 have q1t : w.heap.size ≤ w1.heap.size := (by omega)
 obtain ⟨q1s0, q1n0_0, q1n0_1, q1n0_2⟩ := kB w1.heap.size w.heap.size
 obtain ⟨q1c0_0, q1c0_1, q1f0⟩ := kC2 hb w.heap.size
 simp [go_sem, *] at q1c0_0 q1c0_1 q1f0
 obtain ⟨q1s1, q1n1_0, q1n1_1, q1n1_2⟩ := kB w1.heap.size (w.heap.size + 1)
 obtain ⟨q1c1_0, q1c1_1, q1f1⟩ := kC2 hb (w.heap.size + 1)
 simp [go_sem, *] at q1c1_0 q1c1_1 q1f1
 have q1o := belO q1B
 clear hb
 go_wp2_with fail
 refine (abs_any n n1 n2 _).mono ?_
 rintro e w2 ⟨rfl, rfl⟩
 go_wp2_with fail
 refine (times0_any (absI x) (absI n) (absI_win hx) ha.1 ha.2 _).mono ?_
 rintro e w2 ⟨rfl, hb⟩
 rw [HF.out, HE.out]
 have q2B : Below w.heap.size w w2 := qB hb
 have q2z := hb.size
 try simp at q2z
 have q2t : w.heap.size ≤ w2.heap.size := (by omega)
 obtain ⟨q2s0, q2n0_0, q2n0_1, q2n0_2⟩ := kB w2.heap.size w.heap.size
 obtain ⟨q2c0_0, q2c0_1, q2f0⟩ := kC2 hb w.heap.size
 simp [go_sem, *] at q2c0_0 q2c0_1 q2f0
 obtain ⟨q2s1, q2n1_0, q2n1_1, q2n1_2⟩ := kB w2.heap.size (w.heap.size + 1)
 obtain ⟨q2c1_0, q2c1_1, q2f1⟩ := kC2 hb (w.heap.size + 1)
 simp [go_sem, *] at q2c1_0 q2c1_1 q2f1
 have q2o := belO q2B
 clear hb q1o q1f1 q1c1_1 q1c1_0 q1s1 q1f0 q1c0_1 q1c0_0 q1s0 q1z q1B
 go_wp2_with fail
 refine wp_region_seq (SB (w2.heap.size + 1) [w.heap.size + 1] _) [true, true, true, true, true, true, true, true, true, true, true, true, false, true, true, false, true] (by kernel_rfl) (by kernel_rfl) rfl (by kernel_rfl) (fun _ _ d _ _ h => by cases d <;> exact h) SB.refl.drew (fun hHeld => ?_)
 refine seq_take ?_ (by rfl) (fun wx hSx => ?_) ?_
 rotate_left
 ·(unfold SB at hSx; go_simp; (try with_reducible rfl))
 (try simp only [Act.put, putS])
 refine seq_take ?_ (by rfl) (fun wx hSx => ?_) ?_
 rotate_left
 ·(unfold SB at hSx; go_simp; (try with_reducible rfl))
 (try simp only [Act.put, putS])
 refine seq_take ?_ (by rfl) (fun wx hSx => ?_) ?_
 rotate_left
 ·(unfold SB at hSx; go_simp; (try with_reducible rfl))
 (try simp only [Act.put, putS])
 refine seq_take ?_ (by rfl) (fun wx hSx => ?_) ?_
 rotate_left
 ·(unfold SB at hSx; go_simp; (try with_reducible rfl))
 (try simp only [Act.put, putS])
 refine seq_take ?_ (by rfl) (fun wx hSx => ?_) ?_
 rotate_left
 ·(unfold SB at hSx; go_simp; (try with_reducible rfl))
 (try simp only [Act.put, putS])
 refine seq_take ?_ (by rfl) (fun wx hSx => ?_) ?_
 rotate_left
 ·(unfold SB at hSx; go_simp; (try with_reducible rfl))
 (try simp only [Act.put, putS])
 refine seq_take ?_ (by rfl) (fun wx hSx => ?_) ?_
 rotate_left
 ·(unfold SB at hSx; go_simp; (try with_reducible rfl))
 (try simp only [Act.put, putS])
 refine seq_take ?_ (by rfl) (fun wx hSx => ?_) ?_
 rotate_left
 ·(unfold SB at hSx; go_simp; (try with_reducible rfl))
 (try simp only [Act.put, putS])
 refine seq_take ?_ (by rfl) (fun wx hSx => ?_) ?_
 rotate_left
 ·(unfold SB at hSx; go_simp; (try with_reducible rfl))
 (try simp only [Act.put, putS])
 refine seq_take ?_ (by rfl) (fun wx hSx => ?_) ?_
 rotate_left
 ·(unfold SB at hSx; go_simp; (try with_reducible rfl))
 (try simp only [Act.put, putS])
 refine seq_take (.bool true) (by rfl) (fun wx hSx => ?_) ?_
 ·(unfold SB at hSx; go_simp; exact fun a b => HZ.out ⟨a, b⟩)
 (try simp only [Act.put, putS])
 refine seq_take ?_ (by rfl) (fun wx hSx => ?_) ?_
 rotate_left
 ·(unfold SB at hSx; go_simp; (try with_reducible rfl))
 (try simp only [Act.put, putS])
 refine seq_run (by rfl) (fun K hK => ?_)
 go_simp
 go_wp2_with (go_at_call 161; refine (signed_any (absI x * absI n) true HM _).mono ?_; rintro e w3 ⟨rfl, hb⟩; have q3B : Below w.heap.size w w3 := qB hb; have q3z := hb.size; (try simp at q3z); have q3t : w.heap.size ≤ w3.heap.size := (by omega); have q3s0 : w.heap.size < w3.heap.size := (by omega); obtain ⟨q3n0_0, q3n0_1, q3n0_2⟩ := kN q3s0; obtain ⟨q3c0_0, q3c0_1, q3f0⟩ := kC2 hb w.heap.size; simp [go_sem, *] at q3c0_0 q3c0_1 q3f0; have q3s1 : w.heap.size + 1 < w3.heap.size := (by omega); obtain ⟨q3n1_0, q3n1_1, q3n1_2⟩ := kN q3s1; obtain ⟨q3c1_0, q3c1_1, q3f1⟩ := kC2 hb (w.heap.size + 1); simp [go_sem, *] at q3c1_0 q3c1_1 q3f1; have q3s2 : w2.heap.size < w3.heap.size := (by omega); obtain ⟨q3n2_0, q3n2_1, q3n2_2⟩ := kN q3s2; obtain ⟨q3c2_0, q3c2_1, q3f2⟩ := kC2 hb w2.heap.size; simp [go_sem, *] at q3c2_0 q3c2_1 q3f2; have q3o := belO q3B; have hbS := hb; have hbS3 := hb; clear hb)
 refine hK.out _ _ ?_ (fun hHeld => ?_)
 ·exact sbT
 clear hK K
 (try simp only [Act.put, putS])
 refine seq_take ?_ (by rfl) (fun wx hSx => ?_) ?_
 rotate_left
 ·(unfold SB at hSx; go_simp; (try with_reducible rfl))
 (try simp only [Act.put, putS])
 refine seq_take ?_ (by rfl) (fun wx hSx => ?_) ?_
 rotate_left
 ·(unfold SB at hSx; go_simp; (try with_reducible rfl))
 (try simp only [Act.put, putS])
 refine seq_run (by rfl) (fun K hK => ?_)
 go_simp
 refine hK.out _ _ ?_ (fun hHeld => ?_)
 ·exact sbT
 clear hK K
 (try simp only [Act.put, putS])
 refine seq_take ?_ (by rfl) (fun wx hSx => ?_) ?_
 rotate_left
 ·(unfold SB at hSx; go_simp; (try with_reducible rfl))
 (try simp only [Act.put, putS])
 refine seq_end ?_
 go_wp2_with fail
 refine bodyPost_ret (v := .tuple #[.agg #[.int .i64 (hiW (fitR (sgn true (absI x * absI n)))), .int .u64 (loW (fitR (sgn true (absI x * absI n))))], .int .i64 (fitE (sgn true (absI x * absI n)))]) (by simp [results, Tryz.results151, go_sem, *]) rfl ⟨rfl, ?_⟩
 (repeat (first | (with_reducible first | exact Below.refl _ _ | assumption | refine Below.drew ?_) | ((with_reducible first | refine Below.alloc ?_ ?_ _ | refine Below.setCell ?_ ?_ _); rotate_left; (first | omega | (simp <;> omega)))))
set_option maxHeartbeats 400000 in
theorem scale_npz (x n : Int) (hx : WIn x) (n1 : -9223372036854775808 ≤ n) (n2 : n ≤ 9223372036854775807) (hf : absI x * absI n < 340282366920938463463374607431768211456) (hs : hiW x < 0) (hs1 : 0 ≤ n) (hz : hiW (absI x * absI n) = 0 ∧ loW (absI x * absI n) = 0) (w : World) :
  Calls Tryz.prog 151 #[.agg #[.int .i64 (hiW x), .int .u64 (loW x)], .int .i64 n] w fun e w' =>
   e = .returned (.tuple #[.agg #[.int .i64 (hiW (fitR (sgn false (absI x * absI n)))), .int .u64 (loW (fitR (sgn false (absI x * absI n))))], .int .i64 (fitE (sgn false (absI x * absI n)))]) ∧ Below w.heap.size w w' := by
 have ha := absI_mbd n1 n2
 have HM := mag_in (m := absI x * absI n) (Int.mul_nonneg (absI_nn x) (absI_nn n)) hf
 have HF := hide (fitM_t hf)
 have HE := hide (mod128_of HM)
 clear hf
 have hd2 : decide (n < 0) = false := decide_eq_false (by omega)
 have HZ := hide hz
 clear hz
 go_enter Tryz.func151, Tryz.ntmps151
 go_wp2_with fail
 refine (absolute_any x hx _).mono ?_
 rintro e w1 ⟨rfl, hb⟩
 have q1B : Below w.heap.size w w1 := qB hb
 have q1z := hb.size
 try simp at q1z
 have q1t : w.heap.size ≤ w1.heap.size := (by omega)
 obtain ⟨q1s0, q1n0_0, q1n0_1, q1n0_2⟩ := kB w1.heap.size w.heap.size
 obtain ⟨q1c0_0, q1c0_1, q1f0⟩ := kC2 hb w.heap.size
 simp [go_sem, *] at q1c0_0 q1c0_1 q1f0
 obtain ⟨q1s1, q1n1_0, q1n1_1, q1n1_2⟩ := kB w1.heap.size (w.heap.size + 1)
 obtain ⟨q1c1_0, q1c1_1, q1f1⟩ := kC2 hb (w.heap.size + 1)
 simp [go_sem, *] at q1c1_0 q1c1_1 q1f1
 have q1o := belO q1B
 clear hb
 go_wp2_with fail
 refine (abs_any n n1 n2 _).mono ?_
 rintro e w2 ⟨rfl, rfl⟩
 go_wp2_with fail
 refine (times0_any (absI x) (absI n) (absI_win hx) ha.1 ha.2 _).mono ?_
 rintro e w2 ⟨rfl, hb⟩
 rw [HF.out, HE.out]
 have q2B : Below w.heap.size w w2 := qB hb
 have q2z := hb.size
 try simp at q2z
 have q2t : w.heap.size ≤ w2.heap.size := (by omega)
 obtain ⟨q2s0, q2n0_0, q2n0_1, q2n0_2⟩ := kB w2.heap.size w.heap.size
 obtain ⟨q2c0_0, q2c0_1, q2f0⟩ := kC2 hb w.heap.size
 simp [go_sem, *] at q2c0_0 q2c0_1 q2f0
 obtain ⟨q2s1, q2n1_0, q2n1_1, q2n1_2⟩ := kB w2.heap.size (w.heap.size + 1)
 obtain ⟨q2c1_0, q2c1_1, q2f1⟩ := kC2 hb (w.heap.size + 1)
 simp [go_sem, *] at q2c1_0 q2c1_1 q2f1
 have q2o := belO q2B
 clear hb q1o q1f1 q1c1_1 q1c1_0 q1s1 q1f0 q1c0_1 q1c0_0 q1s0 q1z q1B
 go_wp2_with fail
 refine wp_region_seq (SB (w2.heap.size + 1) [w.heap.size + 1] _) [true, true, true, true, true, true, true, true, true, true, true, true, false, true, true, false, true] (by kernel_rfl) (by kernel_rfl) rfl (by kernel_rfl) (fun _ _ d _ _ h => by cases d <;> exact h) SB.refl.drew (fun hHeld => ?_)
 refine seq_take ?_ (by rfl) (fun wx hSx => ?_) ?_
 rotate_left
 ·(unfold SB at hSx; go_simp; (try with_reducible rfl))
 (try simp only [Act.put, putS])
 refine seq_take ?_ (by rfl) (fun wx hSx => ?_) ?_
 rotate_left
 ·(unfold SB at hSx; go_simp; (try with_reducible rfl))
 (try simp only [Act.put, putS])
 refine seq_take ?_ (by rfl) (fun wx hSx => ?_) ?_
 rotate_left
 ·(unfold SB at hSx; go_simp; (try with_reducible rfl))
 (try simp only [Act.put, putS])
 refine seq_take ?_ (by rfl) (fun wx hSx => ?_) ?_
 rotate_left
 ·(unfold SB at hSx; go_simp; (try with_reducible rfl))
 (try simp only [Act.put, putS])
 refine seq_take ?_ (by rfl) (fun wx hSx => ?_) ?_
 rotate_left
 ·(unfold SB at hSx; go_simp; (try with_reducible rfl))
 (try simp only [Act.put, putS])
 refine seq_take ?_ (by rfl) (fun wx hSx => ?_) ?_
 rotate_left
 ·(unfold SB at hSx; go_simp; (try with_reducible rfl))
 (try simp only [Act.put, putS])
 refine seq_take ?_ (by rfl) (fun wx hSx => ?_) ?_
 rotate_left
 ·(unfold SB at hSx; go_simp; (try with_reducible rfl))
 (try simp only [Act.put, putS])
 refine seq_take ?_ (by rfl) (fun wx hSx => ?_) ?_
 rotate_left
 ·(unfold SB at hSx; go_simp; (try with_reducible rfl))
 (try simp only [Act.put, putS])
 refine seq_take ?_ (by rfl) (fun wx hSx => ?_) ?_
 rotate_left
 ·(unfold SB at hSx; go_simp; (try with_reducible rfl))
 (try simp only [Act.put, putS])
 refine seq_take ?_ (by rfl) (fun wx hSx => ?_) ?_
 rotate_left
 ·(unfold SB at hSx; go_simp; (try with_reducible rfl))
 (try simp only [Act.put, putS])
 refine seq_take (.bool false) (by rfl) (fun wx hSx => ?_) ?_
 ·(unfold SB at hSx; go_simp; (first | exact fun _ => HZ.out.2 | (rw [HZ.out.1, HZ.out.2]; rfl)))
 (try simp only [Act.put, putS])
 refine seq_take ?_ (by rfl) (fun wx hSx => ?_) ?_
 rotate_left
 ·(unfold SB at hSx; go_simp; (try with_reducible rfl))
 (try simp only [Act.put, putS])
 refine seq_run (by rfl) (fun K hK => ?_)
 go_simp
 go_wp2_with (go_at_call 161; refine (signed_any (absI x * absI n) false HM _).mono ?_; rintro e w3 ⟨rfl, hb⟩; have q3B : Below w.heap.size w w3 := qB hb; have q3z := hb.size; (try simp at q3z); have q3t : w.heap.size ≤ w3.heap.size := (by omega); have q3s0 : w.heap.size < w3.heap.size := (by omega); obtain ⟨q3n0_0, q3n0_1, q3n0_2⟩ := kN q3s0; obtain ⟨q3c0_0, q3c0_1, q3f0⟩ := kC2 hb w.heap.size; simp [go_sem, *] at q3c0_0 q3c0_1 q3f0; have q3s1 : w.heap.size + 1 < w3.heap.size := (by omega); obtain ⟨q3n1_0, q3n1_1, q3n1_2⟩ := kN q3s1; obtain ⟨q3c1_0, q3c1_1, q3f1⟩ := kC2 hb (w.heap.size + 1); simp [go_sem, *] at q3c1_0 q3c1_1 q3f1; have q3s2 : w2.heap.size < w3.heap.size := (by omega); obtain ⟨q3n2_0, q3n2_1, q3n2_2⟩ := kN q3s2; obtain ⟨q3c2_0, q3c2_1, q3f2⟩ := kC2 hb w2.heap.size; simp [go_sem, *] at q3c2_0 q3c2_1 q3f2; have q3o := belO q3B; have hbS := hb; have hbS3 := hb; clear hb)
 refine hK.out _ _ ?_ (fun hHeld => ?_)
 ·exact sbT
 clear hK K
 (try simp only [Act.put, putS])
 refine seq_take ?_ (by rfl) (fun wx hSx => ?_) ?_
 rotate_left
 ·(unfold SB at hSx; go_simp; (try with_reducible rfl))
 (try simp only [Act.put, putS])
 refine seq_take ?_ (by rfl) (fun wx hSx => ?_) ?_
 rotate_left
 ·(unfold SB at hSx; go_simp; (try with_reducible rfl))
 (try simp only [Act.put, putS])
 refine seq_run (by rfl) (fun K hK => ?_)
 go_simp
 refine hK.out _ _ ?_ (fun hHeld => ?_)
 ·exact sbT
 clear hK K
 (try simp only [Act.put, putS])
 refine seq_take ?_ (by rfl) (fun wx hSx => ?_) ?_
 rotate_left
 ·(unfold SB at hSx; go_simp; (try with_reducible rfl))
 (try simp only [Act.put, putS])
 refine seq_end ?_
 go_wp2_with fail
 refine bodyPost_ret (v := .tuple #[.agg #[.int .i64 (hiW (fitR (sgn false (absI x * absI n)))), .int .u64 (loW (fitR (sgn false (absI x * absI n))))], .int .i64 (fitE (sgn false (absI x * absI n)))]) (by simp [results, Tryz.results151, go_sem, *]) rfl ⟨rfl, ?_⟩
 (repeat (first | (with_reducible first | exact Below.refl _ _ | assumption | refine Below.drew ?_) | ((with_reducible first | refine Below.alloc ?_ ?_ _ | refine Below.setCell ?_ ?_ _); rotate_left; (first | omega | (simp <;> omega)))))
set_option maxHeartbeats 400000 in
theorem scale_pn (x n : Int) (hx : WIn x) (n1 : -9223372036854775808 ≤ n) (n2 : n ≤ 9223372036854775807) (hf : absI x * absI n < 340282366920938463463374607431768211456) (hs : 0 ≤ hiW x) (hs1 : n < 0) (hz : ¬ (hiW (absI x * absI n) = 0 ∧ loW (absI x * absI n) = 0)) (w : World) :
  Calls Tryz.prog 151 #[.agg #[.int .i64 (hiW x), .int .u64 (loW x)], .int .i64 n] w fun e w' =>
   e = .returned (.tuple #[.agg #[.int .i64 (hiW (fitR (sgn true (absI x * absI n)))), .int .u64 (loW (fitR (sgn true (absI x * absI n))))], .int .i64 (fitE (sgn true (absI x * absI n)))]) ∧ Below w.heap.size w w' := by
 have ha := absI_mbd n1 n2
 have HM := mag_in (m := absI x * absI n) (Int.mul_nonneg (absI_nn x) (absI_nn n)) hf
 have HF := hide (fitM_t hf)
 have HE := hide (mod128_of HM)
 clear hf
 have hd1 : decide (hiW x < 0) = false := decide_eq_false (by omega)
 have HZ := hide hz
 clear hz
 go_enter Tryz.func151, Tryz.ntmps151
 go_wp2_with fail
 refine (absolute_any x hx _).mono ?_
 rintro e w1 ⟨rfl, hb⟩
 have q1B : Below w.heap.size w w1 := qB hb
 have q1z := hb.size
 try simp at q1z
 have q1t : w.heap.size ≤ w1.heap.size := (by omega)
 obtain ⟨q1s0, q1n0_0, q1n0_1, q1n0_2⟩ := kB w1.heap.size w.heap.size
 obtain ⟨q1c0_0, q1c0_1, q1f0⟩ := kC2 hb w.heap.size
 simp [go_sem, *] at q1c0_0 q1c0_1 q1f0
 obtain ⟨q1s1, q1n1_0, q1n1_1, q1n1_2⟩ := kB w1.heap.size (w.heap.size + 1)
 obtain ⟨q1c1_0, q1c1_1, q1f1⟩ := kC2 hb (w.heap.size + 1)
 simp [go_sem, *] at q1c1_0 q1c1_1 q1f1
 have q1o := belO q1B
 clear hb
 go_wp2_with fail
 refine (abs_any n n1 n2 _).mono ?_
 rintro e w2 ⟨rfl, rfl⟩
 go_wp2_with fail
 refine (times0_any (absI x) (absI n) (absI_win hx) ha.1 ha.2 _).mono ?_
 rintro e w2 ⟨rfl, hb⟩
 rw [HF.out, HE.out]
 have q2B : Below w.heap.size w w2 := qB hb
 have q2z := hb.size
 try simp at q2z
 have q2t : w.heap.size ≤ w2.heap.size := (by omega)
 obtain ⟨q2s0, q2n0_0, q2n0_1, q2n0_2⟩ := kB w2.heap.size w.heap.size
 obtain ⟨q2c0_0, q2c0_1, q2f0⟩ := kC2 hb w.heap.size
 simp [go_sem, *] at q2c0_0 q2c0_1 q2f0
 obtain ⟨q2s1, q2n1_0, q2n1_1, q2n1_2⟩ := kB w2.heap.size (w.heap.size + 1)
 obtain ⟨q2c1_0, q2c1_1, q2f1⟩ := kC2 hb (w.heap.size + 1)
 simp [go_sem, *] at q2c1_0 q2c1_1 q2f1
 have q2o := belO q2B
 clear hb q1o q1f1 q1c1_1 q1c1_0 q1s1 q1f0 q1c0_1 q1c0_0 q1s0 q1z q1B
 go_wp2_with fail
 refine wp_region_seq (SB (w2.heap.size + 1) [w.heap.size + 1] _) [true, true, true, true, true, true, true, true, true, true, true, true, false, true, true, false, true] (by kernel_rfl) (by kernel_rfl) rfl (by kernel_rfl) (fun _ _ d _ _ h => by cases d <;> exact h) SB.refl.drew (fun hHeld => ?_)
 refine seq_take ?_ (by rfl) (fun wx hSx => ?_) ?_
 rotate_left
 ·(unfold SB at hSx; go_simp; (try with_reducible rfl))
 (try simp only [Act.put, putS])
 refine seq_take ?_ (by rfl) (fun wx hSx => ?_) ?_
 rotate_left
 ·(unfold SB at hSx; go_simp; (try with_reducible rfl))
 (try simp only [Act.put, putS])
 refine seq_take ?_ (by rfl) (fun wx hSx => ?_) ?_
 rotate_left
 ·(unfold SB at hSx; go_simp; (try with_reducible rfl))
 (try simp only [Act.put, putS])
 refine seq_take ?_ (by rfl) (fun wx hSx => ?_) ?_
 rotate_left
 ·(unfold SB at hSx; go_simp; (try with_reducible rfl))
 (try simp only [Act.put, putS])
 refine seq_take ?_ (by rfl) (fun wx hSx => ?_) ?_
 rotate_left
 ·(unfold SB at hSx; go_simp; (try with_reducible rfl))
 (try simp only [Act.put, putS])
 refine seq_take ?_ (by rfl) (fun wx hSx => ?_) ?_
 rotate_left
 ·(unfold SB at hSx; go_simp; (try with_reducible rfl))
 (try simp only [Act.put, putS])
 refine seq_take ?_ (by rfl) (fun wx hSx => ?_) ?_
 rotate_left
 ·(unfold SB at hSx; go_simp; (try with_reducible rfl))
 (try simp only [Act.put, putS])
 refine seq_take ?_ (by rfl) (fun wx hSx => ?_) ?_
 rotate_left
 ·(unfold SB at hSx; go_simp; (try with_reducible rfl))
 (try simp only [Act.put, putS])
 refine seq_take ?_ (by rfl) (fun wx hSx => ?_) ?_
 rotate_left
 ·(unfold SB at hSx; go_simp; (try with_reducible rfl))
 (try simp only [Act.put, putS])
 refine seq_take ?_ (by rfl) (fun wx hSx => ?_) ?_
 rotate_left
 ·(unfold SB at hSx; go_simp; (try with_reducible rfl))
 (try simp only [Act.put, putS])
 refine seq_take (.bool true) (by rfl) (fun wx hSx => ?_) ?_
 ·(unfold SB at hSx; go_simp; exact fun a b => HZ.out ⟨a, b⟩)
 (try simp only [Act.put, putS])
 refine seq_take ?_ (by rfl) (fun wx hSx => ?_) ?_
 rotate_left
 ·(unfold SB at hSx; go_simp; (try with_reducible rfl))
 (try simp only [Act.put, putS])
 refine seq_run (by rfl) (fun K hK => ?_)
 go_simp
 go_wp2_with (go_at_call 161; refine (signed_any (absI x * absI n) true HM _).mono ?_; rintro e w3 ⟨rfl, hb⟩; have q3B : Below w.heap.size w w3 := qB hb; have q3z := hb.size; (try simp at q3z); have q3t : w.heap.size ≤ w3.heap.size := (by omega); have q3s0 : w.heap.size < w3.heap.size := (by omega); obtain ⟨q3n0_0, q3n0_1, q3n0_2⟩ := kN q3s0; obtain ⟨q3c0_0, q3c0_1, q3f0⟩ := kC2 hb w.heap.size; simp [go_sem, *] at q3c0_0 q3c0_1 q3f0; have q3s1 : w.heap.size + 1 < w3.heap.size := (by omega); obtain ⟨q3n1_0, q3n1_1, q3n1_2⟩ := kN q3s1; obtain ⟨q3c1_0, q3c1_1, q3f1⟩ := kC2 hb (w.heap.size + 1); simp [go_sem, *] at q3c1_0 q3c1_1 q3f1; have q3s2 : w2.heap.size < w3.heap.size := (by omega); obtain ⟨q3n2_0, q3n2_1, q3n2_2⟩ := kN q3s2; obtain ⟨q3c2_0, q3c2_1, q3f2⟩ := kC2 hb w2.heap.size; simp [go_sem, *] at q3c2_0 q3c2_1 q3f2; have q3o := belO q3B; have hbS := hb; have hbS3 := hb; clear hb)
 refine hK.out _ _ ?_ (fun hHeld => ?_)
 ·exact sbT
 clear hK K
 (try simp only [Act.put, putS])
 refine seq_take ?_ (by rfl) (fun wx hSx => ?_) ?_
 rotate_left
 ·(unfold SB at hSx; go_simp; (try with_reducible rfl))
 (try simp only [Act.put, putS])
 refine seq_take ?_ (by rfl) (fun wx hSx => ?_) ?_
 rotate_left
 ·(unfold SB at hSx; go_simp; (try with_reducible rfl))
 (try simp only [Act.put, putS])
 refine seq_run (by rfl) (fun K hK => ?_)
 go_simp
 refine hK.out _ _ ?_ (fun hHeld => ?_)
 ·exact sbT
 clear hK K
 (try simp only [Act.put, putS])
 refine seq_take ?_ (by rfl) (fun wx hSx => ?_) ?_
 rotate_left
 ·(unfold SB at hSx; go_simp; (try with_reducible rfl))
 (try simp only [Act.put, putS])
 refine seq_end ?_
 go_wp2_with fail
 refine bodyPost_ret (v := .tuple #[.agg #[.int .i64 (hiW (fitR (sgn true (absI x * absI n)))), .int .u64 (loW (fitR (sgn true (absI x * absI n))))], .int .i64 (fitE (sgn true (absI x * absI n)))]) (by simp [results, Tryz.results151, go_sem, *]) rfl ⟨rfl, ?_⟩
 (repeat (first | (with_reducible first | exact Below.refl _ _ | assumption | refine Below.drew ?_) | ((with_reducible first | refine Below.alloc ?_ ?_ _ | refine Below.setCell ?_ ?_ _); rotate_left; (first | omega | (simp <;> omega)))))
set_option maxHeartbeats 400000 in
theorem scale_pnz (x n : Int) (hx : WIn x) (n1 : -9223372036854775808 ≤ n) (n2 : n ≤ 9223372036854775807) (hf : absI x * absI n < 340282366920938463463374607431768211456) (hs : 0 ≤ hiW x) (hs1 : n < 0) (hz : hiW (absI x * absI n) = 0 ∧ loW (absI x * absI n) = 0) (w : World) :
  Calls Tryz.prog 151 #[.agg #[.int .i64 (hiW x), .int .u64 (loW x)], .int .i64 n] w fun e w' =>
   e = .returned (.tuple #[.agg #[.int .i64 (hiW (fitR (sgn false (absI x * absI n)))), .int .u64 (loW (fitR (sgn false (absI x * absI n))))], .int .i64 (fitE (sgn false (absI x * absI n)))]) ∧ Below w.heap.size w w' := by
 have ha := absI_mbd n1 n2
 have HM := mag_in (m := absI x * absI n) (Int.mul_nonneg (absI_nn x) (absI_nn n)) hf
 have HF := hide (fitM_t hf)
 have HE := hide (mod128_of HM)
 clear hf
 have hd1 : decide (hiW x < 0) = false := decide_eq_false (by omega)
 have HZ := hide hz
 clear hz
 go_enter Tryz.func151, Tryz.ntmps151
 go_wp2_with fail
 refine (absolute_any x hx _).mono ?_
 rintro e w1 ⟨rfl, hb⟩
 have q1B : Below w.heap.size w w1 := qB hb
 have q1z := hb.size
 try simp at q1z
 have q1t : w.heap.size ≤ w1.heap.size := (by omega)
 obtain ⟨q1s0, q1n0_0, q1n0_1, q1n0_2⟩ := kB w1.heap.size w.heap.size
 obtain ⟨q1c0_0, q1c0_1, q1f0⟩ := kC2 hb w.heap.size
 simp [go_sem, *] at q1c0_0 q1c0_1 q1f0
 obtain ⟨q1s1, q1n1_0, q1n1_1, q1n1_2⟩ := kB w1.heap.size (w.heap.size + 1)
 obtain ⟨q1c1_0, q1c1_1, q1f1⟩ := kC2 hb (w.heap.size + 1)
 simp [go_sem, *] at q1c1_0 q1c1_1 q1f1
 have q1o := belO q1B
 clear hb
 go_wp2_with fail
 refine (abs_any n n1 n2 _).mono ?_
 rintro e w2 ⟨rfl, rfl⟩
 go_wp2_with fail
 refine (times0_any (absI x) (absI n) (absI_win hx) ha.1 ha.2 _).mono ?_
 rintro e w2 ⟨rfl, hb⟩
 rw [HF.out, HE.out]
 have q2B : Below w.heap.size w w2 := qB hb
 have q2z := hb.size
 try simp at q2z
 have q2t : w.heap.size ≤ w2.heap.size := (by omega)
 obtain ⟨q2s0, q2n0_0, q2n0_1, q2n0_2⟩ := kB w2.heap.size w.heap.size
 obtain ⟨q2c0_0, q2c0_1, q2f0⟩ := kC2 hb w.heap.size
 simp [go_sem, *] at q2c0_0 q2c0_1 q2f0
 obtain ⟨q2s1, q2n1_0, q2n1_1, q2n1_2⟩ := kB w2.heap.size (w.heap.size + 1)
 obtain ⟨q2c1_0, q2c1_1, q2f1⟩ := kC2 hb (w.heap.size + 1)
 simp [go_sem, *] at q2c1_0 q2c1_1 q2f1
 have q2o := belO q2B
 clear hb q1o q1f1 q1c1_1 q1c1_0 q1s1 q1f0 q1c0_1 q1c0_0 q1s0 q1z q1B
 go_wp2_with fail
 refine wp_region_seq (SB (w2.heap.size + 1) [w.heap.size + 1] _) [true, true, true, true, true, true, true, true, true, true, true, true, false, true, true, false, true] (by kernel_rfl) (by kernel_rfl) rfl (by kernel_rfl) (fun _ _ d _ _ h => by cases d <;> exact h) SB.refl.drew (fun hHeld => ?_)
 refine seq_take ?_ (by rfl) (fun wx hSx => ?_) ?_
 rotate_left
 ·(unfold SB at hSx; go_simp; (try with_reducible rfl))
 (try simp only [Act.put, putS])
 refine seq_take ?_ (by rfl) (fun wx hSx => ?_) ?_
 rotate_left
 ·(unfold SB at hSx; go_simp; (try with_reducible rfl))
 (try simp only [Act.put, putS])
 refine seq_take ?_ (by rfl) (fun wx hSx => ?_) ?_
 rotate_left
 ·(unfold SB at hSx; go_simp; (try with_reducible rfl))
 (try simp only [Act.put, putS])
 refine seq_take ?_ (by rfl) (fun wx hSx => ?_) ?_
 rotate_left
 ·(unfold SB at hSx; go_simp; (try with_reducible rfl))
 (try simp only [Act.put, putS])
 refine seq_take ?_ (by rfl) (fun wx hSx => ?_) ?_
 rotate_left
 ·(unfold SB at hSx; go_simp; (try with_reducible rfl))
 (try simp only [Act.put, putS])
 refine seq_take ?_ (by rfl) (fun wx hSx => ?_) ?_
 rotate_left
 ·(unfold SB at hSx; go_simp; (try with_reducible rfl))
 (try simp only [Act.put, putS])
 refine seq_take ?_ (by rfl) (fun wx hSx => ?_) ?_
 rotate_left
 ·(unfold SB at hSx; go_simp; (try with_reducible rfl))
 (try simp only [Act.put, putS])
 refine seq_take ?_ (by rfl) (fun wx hSx => ?_) ?_
 rotate_left
 ·(unfold SB at hSx; go_simp; (try with_reducible rfl))
 (try simp only [Act.put, putS])
 refine seq_take ?_ (by rfl) (fun wx hSx => ?_) ?_
 rotate_left
 ·(unfold SB at hSx; go_simp; (try with_reducible rfl))
 (try simp only [Act.put, putS])
 refine seq_take ?_ (by rfl) (fun wx hSx => ?_) ?_
 rotate_left
 ·(unfold SB at hSx; go_simp; (try with_reducible rfl))
 (try simp only [Act.put, putS])
 refine seq_take (.bool false) (by rfl) (fun wx hSx => ?_) ?_
 ·(unfold SB at hSx; go_simp; (first | exact fun _ => HZ.out.2 | (rw [HZ.out.1, HZ.out.2]; rfl)))
 (try simp only [Act.put, putS])
 refine seq_take ?_ (by rfl) (fun wx hSx => ?_) ?_
 rotate_left
 ·(unfold SB at hSx; go_simp; (try with_reducible rfl))
 (try simp only [Act.put, putS])
 refine seq_run (by rfl) (fun K hK => ?_)
 go_simp
 go_wp2_with (go_at_call 161; refine (signed_any (absI x * absI n) false HM _).mono ?_; rintro e w3 ⟨rfl, hb⟩; have q3B : Below w.heap.size w w3 := qB hb; have q3z := hb.size; (try simp at q3z); have q3t : w.heap.size ≤ w3.heap.size := (by omega); have q3s0 : w.heap.size < w3.heap.size := (by omega); obtain ⟨q3n0_0, q3n0_1, q3n0_2⟩ := kN q3s0; obtain ⟨q3c0_0, q3c0_1, q3f0⟩ := kC2 hb w.heap.size; simp [go_sem, *] at q3c0_0 q3c0_1 q3f0; have q3s1 : w.heap.size + 1 < w3.heap.size := (by omega); obtain ⟨q3n1_0, q3n1_1, q3n1_2⟩ := kN q3s1; obtain ⟨q3c1_0, q3c1_1, q3f1⟩ := kC2 hb (w.heap.size + 1); simp [go_sem, *] at q3c1_0 q3c1_1 q3f1; have q3s2 : w2.heap.size < w3.heap.size := (by omega); obtain ⟨q3n2_0, q3n2_1, q3n2_2⟩ := kN q3s2; obtain ⟨q3c2_0, q3c2_1, q3f2⟩ := kC2 hb w2.heap.size; simp [go_sem, *] at q3c2_0 q3c2_1 q3f2; have q3o := belO q3B; have hbS := hb; have hbS3 := hb; clear hb)
 refine hK.out _ _ ?_ (fun hHeld => ?_)
 ·exact sbT
 clear hK K
 (try simp only [Act.put, putS])
 refine seq_take ?_ (by rfl) (fun wx hSx => ?_) ?_
 rotate_left
 ·(unfold SB at hSx; go_simp; (try with_reducible rfl))
 (try simp only [Act.put, putS])
 refine seq_take ?_ (by rfl) (fun wx hSx => ?_) ?_
 rotate_left
 ·(unfold SB at hSx; go_simp; (try with_reducible rfl))
 (try simp only [Act.put, putS])
 refine seq_run (by rfl) (fun K hK => ?_)
 go_simp
 refine hK.out _ _ ?_ (fun hHeld => ?_)
 ·exact sbT
 clear hK K
 (try simp only [Act.put, putS])
 refine seq_take ?_ (by rfl) (fun wx hSx => ?_) ?_
 rotate_left
 ·(unfold SB at hSx; go_simp; (try with_reducible rfl))
 (try simp only [Act.put, putS])
 refine seq_end ?_
 go_wp2_with fail
 refine bodyPost_ret (v := .tuple #[.agg #[.int .i64 (hiW (fitR (sgn false (absI x * absI n)))), .int .u64 (loW (fitR (sgn false (absI x * absI n))))], .int .i64 (fitE (sgn false (absI x * absI n)))]) (by simp [results, Tryz.results151, go_sem, *]) rfl ⟨rfl, ?_⟩
 (repeat (first | (with_reducible first | exact Below.refl _ _ | assumption | refine Below.drew ?_) | ((with_reducible first | refine Below.alloc ?_ ?_ _ | refine Below.setCell ?_ ?_ _); rotate_left; (first | omega | (simp <;> omega)))))
/-- wide.Scale: the product, or ErrOverflow. -/
theorem scale_any (x n : Int) (hx : WIn x) (n1 : -9223372036854775808 ≤ n) (n2 : n ≤ 9223372036854775807) (w : World) :
  Calls Tryz.prog 151 #[.agg #[.int .i64 (hiW x), .int .u64 (loW x)], .int .i64 n] w fun e w' =>
   e = .returned (.tuple #[.agg #[.int .i64 (hiW (fitR (x * n))), .int .u64 (loW (fitR (x * n)))], .int .i64 (fitE (x * n))]) ∧ Below w.heap.size w w' := by
 by_cases hf : absI x * absI n < 340282366920938463463374607431768211456
 ·have hs := mul_sign x n
  by_cases h1 : hiW x < 0 <;> by_cases h2 : n < 0
  ·rw [hs.1 (by have := hi_sign x; omega)]
   exact scale_nn x n hx n1 n2 hf h1 h2 w
  ·rw [hs.2 (by have := hi_sign x; omega)]
   by_cases hz : hiW (absI x * absI n) = 0 ∧ loW (absI x * absI n) = 0
   ·have h0 : absI x * absI n = 0 := hi_inj (hz.1.trans hi_zero.symm) (hz.2.trans lo_zero.symm)
    have h := scale_npz x n hx n1 n2 hf h1 (by omega) hz w
    rw [sgn_f, h0] at h
    rw [h0]
    exact h
   ·exact scale_np x n hx n1 n2 hf h1 (by omega) hz w
  ·rw [hs.2 (by have := hi_sign x; omega)]
   by_cases hz : hiW (absI x * absI n) = 0 ∧ loW (absI x * absI n) = 0
   ·have h0 : absI x * absI n = 0 := hi_inj (hz.1.trans hi_zero.symm) (hz.2.trans lo_zero.symm)
    have h := scale_pnz x n hx n1 n2 hf (by omega) h2 hz w
    rw [sgn_f, h0] at h
    rw [h0]
    exact h
   ·exact scale_pn x n hx n1 n2 hf (by omega) h2 hz w
  ·rw [hs.1 (by have := hi_sign x; omega)]
   exact scale_pp x n hx n1 n2 hf (by omega) (by omega) w
 ·rw [fitR_not (scale_out hf), fitE_not (scale_out hf), hi_zero, lo_zero]
  exact scale_no x n hx n1 n2 hf w
end Go.Proofs.YtdjlaiilngechaaGreatDoor
