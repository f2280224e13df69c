/- Contracts of the inner functions of package wide, 2. -/
import Derived.Test.YtjjclclianbnfaaWa
import Derived.Test.YtjjclclianbnfaaWideM
import Derived.Test.YtjjclclianbnfaaKeep
import Derived.Deep.QuietTactic
import Derived.BigQuiet
import Derived.Deep.RegionHeld3
import Derived.Deep.DeepCutAuto
namespace Go.Proofs.Ytjjclclianbnfaa
open Go.RowKit

theorem ret_int {k : IntKind} {a b : Int} (h : a = b) : Ending.returned (.int k a) = .returned (.int k b) := by rw [h]
set_option maxHeartbeats 400000 in
theorem neg_any (x : Int) (hx : WIn x) (w : World) :
    Calls Try.prog 39 #[.agg #[.int .i64 (hiW x), .int .u64 (loW x)]] w fun e w' =>
      e = .returned (.agg #[.int .i64 (hiW (neg128 x)), .int .u64 (loW (neg128 x))]) ∧ Below w.heap.size w w' := by
  obtain ⟨a1, a2⟩ := hi_bd hx; obtain ⟨c1, c2⟩ := lo_bd x
  have e1 := xor_maxU _ c1 c2
  have e2 := xor_maxI _ a1 a2
  obtain ⟨n1, n2⟩ := notU_bd c1 c2
  obtain ⟨n3, n4⟩ := notI_bd a1 a2
  rw [← (neg128_parts hx).1, ← (neg128_parts hx).2]
  go_enter Try.func39, Try.ntmps39
  go_wp2_with (simp only [add64_0 (notU (loW x)) 1 n1 (by decide)])
  refine bodyPost_ret (v := .agg #[.int .i64 (wrap64 (IntKind.u64.wrap (IntKind.u64.wrap (notI (hiW x)) + hiW (notU (loW x) + 1)))), .int .u64 (loW (notU (loW x) + 1))]) (by simp [results, Try.results39, go_sem]) rfl ⟨rfl, ?_⟩
  (repeat (first | (with_reducible exact Below.refl _ _) | (with_reducible assumption) | ((with_reducible refine Below.alloc ?_ ?_ _); (rotate_left); (first | omega | (simp <;> omega))) | ((with_reducible refine Below.setCell ?_ ?_ _); (rotate_left); (first | omega | (simp <;> omega))) | (with_reducible refine Below.drew ?_) | (with_reducible refine below_drewN ?_ _)))
theorem abs_any (n : Int) (h1 : -9223372036854775808 ≤ n) (h2 : n ≤ 9223372036854775807) (w : World) :
    Calls Try.prog 36 #[.int .i64 n] w fun e w' =>
      e = .returned (.int .u64 (absI n)) ∧ w = w' := by
  by_cases h : n < 0
  · go_enter Try.func36, Try.ntmps36
    go_wp2
    go_ret
    exact ⟨ret_int (by rw [wrapU, wrapU, absI_neg h]; omega), rfl⟩
  · have h' := Int.not_lt.1 h
    clear h
    go_enter Try.func36, Try.ntmps36
    go_wp2
    go_ret
    exact ⟨ret_int (absI_pos h').symm, rfl⟩
theorem mul64_any (x y : Int) (h1 : 0 ≤ x) (h2 : x < 18446744073709551616) (y1 : 0 ≤ y) (y2 : y < 18446744073709551616) (w : World) :
    Calls Try.prog 38 #[.int .u64 x, .int .u64 y] w fun e w' =>
      e = .returned (.tuple #[.int .u64 (hiW (x * y)), .int .u64 (loW (x * y))]) ∧ w = w' := by
  rw [← mulHi_eq x y h1 h2 y1 y2, ← mulLo_eq]
  unfold mulHi
  go_enter Try.func38, Try.ntmps38
  go_wp2
  go_ret2
  exact ⟨rfl, rfl⟩
set_option maxHeartbeats 400000 in
theorem absolute_any (x : Int) (hx : WIn x) (w : World) :
    Calls Try.prog 34 #[.agg #[.int .i64 (hiW x), .int .u64 (loW x)]] w fun e w' =>
      e = .returned (.agg #[.int .u64 (hiW (absI x)), .int .u64 (loW (absI x))]) ∧ Below w.heap.size w w' := by
  obtain ⟨a1, a2⟩ := hi_bd hx; obtain ⟨c1, c2⟩ := lo_bd x
  by_cases h : hiW x < 0
  · have HP := hide (abs_parts_neg hx h)
    go_enter Try.func34, Try.ntmps34
    go_wp2_with (go_at_call 39; refine (neg_any x hx _).mono ?_; rintro e w1 ⟨rfl, hb⟩; obtain ⟨k1, k2, k3, k4, k5, k6, k7, k8, k9, kB⟩ := keep2 hb; clear hb)
    refine bodyPost_ret (v := .agg #[.int .u64 (IntKind.u64.wrap (hiW (neg128 x))), .int .u64 (loW (neg128 x))]) (by simp [results, Try.results34, go_sem, *]) rfl ⟨by rw [HP.out.1, HP.out.2], ?_⟩
    (repeat (first | (with_reducible exact Below.refl _ _) | (with_reducible assumption) | ((with_reducible refine Below.alloc ?_ ?_ _); (rotate_left); (first | omega | (simp <;> omega))) | ((with_reducible refine Below.setCell ?_ ?_ _); (rotate_left); (first | omega | (simp <;> omega))) | (with_reducible refine Below.drew ?_) | (with_reducible refine below_drewN ?_ _)))
  · have h' := Int.not_lt.1 h
    clear h
    have HP := hide (abs_parts_pos hx h')
    go_enter Try.func34, Try.ntmps34
    go_wp2
    refine bodyPost_ret (v := .agg #[.int .u64 (hiW x), .int .u64 (loW x)]) (by simp [results, Try.results34, go_sem]) rfl ⟨by rw [HP.out], ?_⟩
    (repeat (first | (with_reducible exact Below.refl _ _) | (with_reducible assumption) | ((with_reducible refine Below.alloc ?_ ?_ _); (rotate_left); (first | omega | (simp <;> omega))) | ((with_reducible refine Below.setCell ?_ ?_ _); (rotate_left); (first | omega | (simp <;> omega))) | (with_reducible refine Below.drew ?_) | (with_reducible refine below_drewN ?_ _)))
end Go.Proofs.Ytjjclclianbnfaa
