/- Contracts of package wide: products. -/
import Derived.Test.YtjjclclianbnfaaWb
namespace Go.Proofs.Ytjjclclianbnfaa
open Go.RowKit

set_option maxHeartbeats 400000 in
theorem times_any (m n more : Int) (hm : MIn m) (n1 : 0 ≤ n) (n2 : n < 18446744073709551616) (r1 : 0 ≤ more) (r2 : more < 18446744073709551616) (w : World) :
    Calls Try.prog 35 #[.agg #[.int .u64 (hiW m), .int .u64 (loW m)], .int .u64 n, .int .u64 more] w fun e w' =>
      e = .returned (.tuple #[.agg #[.int .u64 (hiW (mod128 (m * n + more))), .int .u64 (loW (mod128 (m * n + more)))], .bool (fitM (m * n + more))]) ∧ Below w.heap.size w w' := by
  obtain ⟨a1, a2⟩ := hi_mbd hm; obtain ⟨c1, c2⟩ := lo_bd m
  have HT := hide (times_parts hm n1 n2 r1 r2)
  have l1 := (lo_bd (loW m * n)).1
  have l2 := (lo_bd (hiW m * n)).1
  have u1 : 0 ≤ IntKind.u64.wrap (hiW (loW m * n) + hiW (loW (loW m * n) + more)) := by rw [wrapU]; omega
  go_enter Try.func35, Try.ntmps35
  go_wp2_with fail
  refine (mul64_any (loW m) n c1 c2 n1 n2 _).mono ?_
  rintro e w1 ⟨rfl, rfl⟩
  go_wp2_with fail
  refine (mul64_any (hiW m) n a1 a2 n1 n2 _).mono ?_
  rintro e w1 ⟨rfl, rfl⟩
  go_wp2_with (first | simp only [add64_0 _ more l1 r1] | simp only [add64_0 _ _ l2 u1])
  · rename_i h1
    refine bodyPost_ret (v := .tuple #[.agg #[.int .u64 (loW (loW (hiW m * n) + IntKind.u64.wrap (hiW (loW m * n) + hiW (loW (loW m * n) + more)))), .int .u64 (loW (loW (loW m * n) + more))], .bool (hiW (loW (hiW m * n) + IntKind.u64.wrap (hiW (loW m * n) + hiW (loW (loW m * n) + more))) == 0)]) (by simp [results, Try.results35, go_sem]) rfl ⟨?_, ?_⟩
    · rw [HT.out.1, HT.out.2.1]
      by_cases hf : m * n + more < 340282366920938463463374607431768211456
      · rw [fitM_t hf, (HT.out.2.2.2 hf).2]; rfl
      · rw [fitM_f hf, beq_eq_false_iff_ne.2 (fun h2 => hf (HT.out.2.2.1 ⟨h1, h2⟩))]
    (repeat (first | exact Below.refl _ _ | assumption | (refine Below.alloc ?_ (by simp <;> omega) _) | (refine Below.setCell ?_ (by simp <;> omega) _) | (refine Below.drew ?_)))
  · rename_i h1
    refine bodyPost_ret (v := .tuple #[.agg #[.int .u64 (loW (loW (hiW m * n) + IntKind.u64.wrap (hiW (loW m * n) + hiW (loW (loW m * n) + more)))), .int .u64 (loW (loW (loW m * n) + more))], .bool false]) (by simp [results, Try.results35, go_sem]) rfl ⟨?_, ?_⟩
    · rw [HT.out.1, HT.out.2.1, fitM_f (fun hf => h1 (HT.out.2.2.2 hf).1)]
    (repeat (first | exact Below.refl _ _ | assumption | (refine Below.alloc ?_ (by simp <;> omega) _) | (refine Below.setCell ?_ (by simp <;> omega) _) | (refine Below.drew ?_)))
theorem signed_out {m : Int} (minus : Bool) (h : ¬ WIn (sgn minus m)) : fitR (sgn minus m) = 0 ∧ fitE (sgn minus m) = 6 := ⟨fitR_not h, fitE_not h⟩
set_option maxHeartbeats 400000 in
theorem signed_any (m : Int) (minus : Bool) (hm : MIn m) (w : World) :
    Calls Try.prog 37 #[.agg #[.int .u64 (hiW m), .int .u64 (loW m)], .bool minus] w fun e w' =>
      e = .returned (.tuple #[.agg #[.int .i64 (hiW (fitR (sgn minus m))), .int .u64 (loW (fitR (sgn minus m)))], .int .i64 (fitE (sgn minus m))]) ∧ Below w.heap.size w w' := by
  obtain ⟨a1, a2⟩ := hi_mbd hm; obtain ⟨c1, c2⟩ := lo_bd m
  by_cases t1 : 9223372036854775808 < hiW m
  · have ho : ¬ WIn (sgn minus m) := by unfold hiW at t1; unfold WIn sgn; cases minus <;> simp <;> omega
    rw [fitR_not ho, fitE_not ho, hi_zero, lo_zero]
    clear ho
    go_enter Try.func37, Try.ntmps37
    go_wp2_with fail
    refine bodyPost_ret (v := .tuple #[.agg #[.int .i64 0, .int .u64 0], .int .i64 6]) (by simp [results, Try.results37, go_sem]) rfl ⟨rfl, ?_⟩
    (repeat (first | exact Below.refl _ _ | assumption | (refine Below.alloc ?_ (by simp <;> omega) _) | (refine Below.setCell ?_ (by simp <;> omega) _) | (refine Below.drew ?_)))
  by_cases t2 : hiW m ≤ 9223372036854775807
  · have ho : WIn (sgn minus m) := by unfold MIn at hm; unfold hiW at t2; unfold WIn sgn; cases minus <;> simp <;> omega
    have hw : WIn m := by unfold MIn at hm; unfold hiW at t2; unfold WIn; omega
    rw [fitR_of ho, fitE_of ho]
    clear ho t1
    cases minus
    · rw [sgn_f]
      go_enter Try.func37, Try.ntmps37
      go_wp2_with fail
      refine bodyPost_ret (v := .tuple #[.agg #[.int .i64 (hiW m), .int .u64 (loW m)], .int .i64 0]) (by simp [results, Try.results37, go_sem]) rfl ⟨rfl, ?_⟩
      (repeat (first | exact Below.refl _ _ | assumption | (refine Below.alloc ?_ (by simp <;> omega) _) | (refine Below.setCell ?_ (by simp <;> omega) _) | (refine Below.drew ?_)))
    · have HN := hide (show neg128 m = -m from neg128_ok (by unfold MIn at hm; omega))
      rw [sgn_t]
      go_enter Try.func37, Try.ntmps37
      go_wp2_with fail
      refine (neg_any m hw _).mono ?_
      rintro e w1 ⟨rfl, hb⟩
      obtain ⟨k1, k2, k3, k4, k5, k6, k7, k8, k9, k10, k11, k12, kB⟩ := keep3 hb
      clear hb
      rw [HN.out]
      go_wp2_with fail
      refine bodyPost_ret (v := .tuple #[.agg #[.int .i64 (hiW (-m)), .int .u64 (loW (-m))], .int .i64 0]) (by simp [results, Try.results37, go_sem, *]) rfl ⟨rfl, ?_⟩
      (repeat (first | exact Below.refl _ _ | assumption | (refine Below.alloc ?_ (by simp <;> omega) _) | (refine Below.setCell ?_ (by simp <;> omega) _) | (refine Below.drew ?_)))
  have t3 : 9223372036854775808 ≤ hiW m := by omega
  have t1' : hiW m ≤ 9223372036854775808 := by omega
  clear t1 t2
  by_cases t4 : minus = true ∧ loW m ≤ 0
  · obtain ⟨rfl, t4⟩ := t4
    have hm2 : m = 170141183460469231731687303715884105728 := by unfold loW at t4; unfold hiW at t3 t1'; omega
    have H1 := hide (show wrap64 9223372036854775808 = hiW (-m) from by rw [hm2]; unfold wrap64 hiW; omega)
    have H2 := hide (show loW m = loW (-m) from by rw [hm2]; decide)
    have H3 := hide (show neg128 (-m) = -m from by rw [hm2]; decide)
    have hw : WIn (-m) := by rw [hm2]; decide
    rw [sgn_t, fitR_of hw, fitE_of hw]
    clear hm2
    go_enter Try.func37, Try.ntmps37
    go_wp2_with fail
    rw [H1.out, H2.out]
    refine (neg_any (-m) hw _).mono ?_
    rintro e w1 ⟨rfl, hb⟩
    obtain ⟨k1, k2, k3, k4, k5, k6, k7, k8, k9, k10, k11, k12, kB⟩ := keep3 hb
    clear hb
    rw [H3.out]
    go_wp2_with fail
    refine bodyPost_ret (v := .tuple #[.agg #[.int .i64 (hiW (-m)), .int .u64 (loW (-m))], .int .i64 0]) (by simp [results, Try.results37, go_sem, *]) rfl ⟨rfl, ?_⟩
    (repeat (first | exact Below.refl _ _ | assumption | (refine Below.alloc ?_ (by simp <;> omega) _) | (refine Below.setCell ?_ (by simp <;> omega) _) | (refine Below.drew ?_)))
  · have ho : ¬ WIn (sgn minus m) := by
      unfold hiW at t3; unfold loW at t4; unfold WIn sgn
      cases minus <;> simp at t4 ⊢ <;> omega
    rw [fitR_not ho, fitE_not ho, hi_zero, lo_zero]
    clear ho
    cases minus
    · clear t4
      go_enter Try.func37, Try.ntmps37
      go_wp2_with fail
      refine bodyPost_ret (v := .tuple #[.agg #[.int .i64 0, .int .u64 0], .int .i64 6]) (by simp [results, Try.results37, go_sem]) rfl ⟨rfl, ?_⟩
      (repeat (first | exact Below.refl _ _ | assumption | (refine Below.alloc ?_ (by simp <;> omega) _) | (refine Below.setCell ?_ (by simp <;> omega) _) | (refine Below.drew ?_)))
    · have t5 : 0 < loW m := by simp at t4; omega
      clear t4
      go_enter Try.func37, Try.ntmps37
      go_wp2_with fail
      refine bodyPost_ret (v := .tuple #[.agg #[.int .i64 0, .int .u64 0], .int .i64 6]) (by simp [results, Try.results37, go_sem]) rfl ⟨rfl, ?_⟩
      (repeat (first | exact Below.refl _ _ | assumption | (refine Below.alloc ?_ (by simp <;> omega) _) | (refine Below.setCell ?_ (by simp <;> omega) _) | (refine Below.drew ?_)))
theorem absI_mbd {n : Int} (h1 : -9223372036854775808 ≤ n) (h2 : n ≤ 9223372036854775807) : 0 ≤ absI n ∧ absI n < 18446744073709551616 := by have := absI_int h1 h2; omega
theorem mul_small {a b : Int} (a1 : -9223372036854775808 ≤ a) (a2 : a ≤ 9223372036854775807) (b1 : -9223372036854775808 ≤ b) (b2 : b ≤ 9223372036854775807) :
    0 ≤ absI a * absI b ∧ absI a * absI b ≤ 85070591730234615865843651857942052864 := by
  have ha := absI_int a1 a2; have hb := absI_int b1 b2
  refine ⟨Int.mul_nonneg ha.1 hb.1, ?_⟩
  have := Int.mul_le_mul ha.2 hb.2 hb.1 (by decide)
  omega
set_option maxHeartbeats 400000 in
theorem wmul_any (a b : Int) (a1 : -9223372036854775808 ≤ a) (a2 : a ≤ 9223372036854775807) (b1 : -9223372036854775808 ≤ b) (b2 : b ≤ 9223372036854775807) (w : World) :
    Calls Try.prog 28 #[.int .i64 a, .int .i64 b] w fun e w' =>
      e = .returned (.agg #[.int .i64 (hiW (a * b)), .int .u64 (loW (a * b))]) ∧ Below w.heap.size w w' := by
  obtain ⟨p1, p2⟩ := absI_mbd a1 a2; obtain ⟨q1, q2⟩ := absI_mbd b1 b2
  obtain ⟨m1, m2⟩ := mul_small a1 a2 b1 b2
  have hw : WIn (absI a * absI b) := by unfold WIn; omega
  have HS := hide (mul_sign a b)
  have HN := hide (neg128_ok (x := absI a * absI b) (by omega))
  have z1 : 0 ≤ hiW (absI a * absI b) := by unfold hiW; omega
  have z2 : hiW (absI a * absI b) ≤ 9223372036854775807 := by unfold hiW; omega
  clear m1 m2
  by_cases ha : a < 0
  · by_cases hb : b < 0
    · rw [HS.out.1 (by omega)]
      go_enter Try.func28, Try.ntmps28
      go_wp2_with fail
      refine (abs_any a a1 a2 _).mono ?_
      rintro e w1 ⟨rfl, rfl⟩
      go_wp2_with fail
      refine (abs_any b b1 b2 _).mono ?_
      rintro e w1 ⟨rfl, rfl⟩
      go_wp2_with fail
      refine (mul64_any _ _ p1 p2 q1 q2 _).mono ?_
      rintro e w1 ⟨rfl, rfl⟩
      go_wp2_with fail
      refine bodyPost_ret (v := .agg #[.int .i64 (hiW (absI a * absI b)), .int .u64 (loW (absI a * absI b))]) (by simp [results, Try.results28, go_sem]) rfl ⟨rfl, ?_⟩
      (repeat (first | exact Below.refl _ _ | assumption | (refine Below.alloc ?_ (by simp <;> omega) _) | (refine Below.setCell ?_ (by simp <;> omega) _) | (refine Below.drew ?_)))
    · have hb := Int.not_lt.1 hb
      have hd : decide (b < 0) = false := decide_eq_false (by omega)
      rw [HS.out.2 (by omega)]
      go_enter Try.func28, Try.ntmps28
      go_wp2_with fail
      refine (abs_any a a1 a2 _).mono ?_
      rintro e w1 ⟨rfl, rfl⟩
      go_wp2_with fail
      refine (abs_any b b1 b2 _).mono ?_
      rintro e w1 ⟨rfl, rfl⟩
      go_wp2_with fail
      refine (mul64_any _ _ p1 p2 q1 q2 _).mono ?_
      rintro e w1 ⟨rfl, rfl⟩
      go_wp2_with fail
      refine (neg_any _ hw _).mono ?_
      rintro e w1 ⟨rfl, hb⟩
      obtain ⟨k1, k2, k3, k4, k5, k6, k7, k8, k9, kB⟩ := keep2 hb
      clear hb
      rw [HN.out]
      go_wp2_with fail
      refine bodyPost_ret (v := .agg #[.int .i64 (hiW (-(absI a * absI b))), .int .u64 (loW (-(absI a * absI b)))]) (by simp [results, Try.results28, go_sem, *]) rfl ⟨rfl, ?_⟩
      (repeat (first | exact Below.refl _ _ | assumption | (refine Below.alloc ?_ (by simp <;> omega) _) | (refine Below.setCell ?_ (by simp <;> omega) _) | (refine Below.drew ?_)))
  · have ha := Int.not_lt.1 ha
    have hd' : decide (a < 0) = false := decide_eq_false (by omega)
    by_cases hb : b < 0
    · rw [HS.out.2 (by omega)]
      go_enter Try.func28, Try.ntmps28
      go_wp2_with fail
      refine (abs_any a a1 a2 _).mono ?_
      rintro e w1 ⟨rfl, rfl⟩
      go_wp2_with fail
      refine (abs_any b b1 b2 _).mono ?_
      rintro e w1 ⟨rfl, rfl⟩
      go_wp2_with fail
      refine (mul64_any _ _ p1 p2 q1 q2 _).mono ?_
      rintro e w1 ⟨rfl, rfl⟩
      go_wp2_with fail
      refine (neg_any _ hw _).mono ?_
      rintro e w1 ⟨rfl, hb⟩
      obtain ⟨k1, k2, k3, k4, k5, k6, k7, k8, k9, kB⟩ := keep2 hb
      clear hb
      rw [HN.out]
      go_wp2_with fail
      refine bodyPost_ret (v := .agg #[.int .i64 (hiW (-(absI a * absI b))), .int .u64 (loW (-(absI a * absI b)))]) (by simp [results, Try.results28, go_sem, *]) rfl ⟨rfl, ?_⟩
      (repeat (first | exact Below.refl _ _ | assumption | (refine Below.alloc ?_ (by simp <;> omega) _) | (refine Below.setCell ?_ (by simp <;> omega) _) | (refine Below.drew ?_)))
    · have hb := Int.not_lt.1 hb
      have hd : decide (b < 0) = false := decide_eq_false (by omega)
      rw [HS.out.1 (by omega)]
      go_enter Try.func28, Try.ntmps28
      go_wp2_with fail
      refine (abs_any a a1 a2 _).mono ?_
      rintro e w1 ⟨rfl, rfl⟩
      go_wp2_with fail
      refine (abs_any b b1 b2 _).mono ?_
      rintro e w1 ⟨rfl, rfl⟩
      go_wp2_with fail
      refine (mul64_any _ _ p1 p2 q1 q2 _).mono ?_
      rintro e w1 ⟨rfl, rfl⟩
      go_wp2_with fail
      refine bodyPost_ret (v := .agg #[.int .i64 (hiW (absI a * absI b)), .int .u64 (loW (absI a * absI b))]) (by simp [results, Try.results28, go_sem]) rfl ⟨rfl, ?_⟩
      (repeat (first | exact Below.refl _ _ | assumption | (refine Below.alloc ?_ (by simp <;> omega) _) | (refine Below.setCell ?_ (by simp <;> omega) _) | (refine Below.drew ?_)))
end Go.Proofs.Ytjjclclianbnfaa
