/- Texts laid together: Wa Wb. -/
import Derived.Test.YtdjlaiilngechaaGreatDoorXNum
import Derived.Test.YtdjlaiilngechaaGreatDoorXKeep
import Derived.Test.YtdjlaiilngechaaGreatDoorProg
import Derived.KernelRfl
import Derived.WalkSpells
import Derived.WalkLawsBesides
import Derived.Laws.Externs
import Derived.Lib.Mul64
import Derived.Laws.Bits64b
import Derived.Deep.QuietTactic
import Derived.BigQuiet
import Derived.Deep.RegionHeld3
import Derived.Deep.DeepCutAuto
import Derived.Test.YtdjlaiilngechaaGreatDoorXK0
namespace Go.Proofs.YtdjlaiilngechaaGreatDoor
set_option maxRecDepth 4000
set_option linter.unusedSimpArgs false
set_option linter.unusedVariables false
open Go.RowKit
theorem add64 (x y c : Int) (hx : 0 ≤ x) (hy : 0 ≤ y) (hc0 : 0 ≤ c) (hc : c ≤ 1) (w : World) : (callFunc 75 #[.int .u64 x, .int .u64 y, .int .u64 c]).run Tryz.prog w =
  .ok (.value (.tuple #[.int .u64 ((x + y + c) % 18446744073709551616), .int .u64 ((x + y + c) / 18446744073709551616)])) w := by
 rw [run_callFunc_extern Tryz.func75 (by kernel_rfl) (by kernel_rfl) (by kernel_rfl) (e := add64Entry) (by kernel_rfl), run_add64 x y c hx hy hc0 hc]
 rfl
theorem add64_0 (x y : Int) (hx : 0 ≤ x) (hy : 0 ≤ y) (w : World) : (callFunc 75 #[.int .u64 x, .int .u64 y, .int .u64 0]).run Tryz.prog w =
  .ok (.value (.tuple #[.int .u64 (loW (x + y)), .int .u64 (hiW (x + y))])) w := by
 simpa [loW, hiW] using add64 x y 0 hx hy (Int.le_refl 0) (by decide) w

theorem add_sum (x y : Int) : x + y = (hiW x + hiW y + hiW (loW x + loW y)) * 18446744073709551616 + loW (loW x + loW y) := by unfold hiW loW; omega
theorem add_parts (x y : Int) : hiW (x + y) = hiW x + hiW y + hiW (loW x + loW y) ∧ loW (x + y) = loW (loW x + loW y) :=
 of_hi_lo (add_sum x y) (lo_bd _).1 (lo_bd _).2
theorem add_win (x y : Int) : WIn (x + y) ↔ -9223372036854775808 ≤ hiW x + hiW y + hiW (loW x + loW y) ∧ hiW x + hiW y + hiW (loW x + loW y) ≤ 9223372036854775807 :=
 win_hi (add_sum x y) (lo_bd _).1 (lo_bd _).2
theorem add_wrap (a b c : Int) (a1 : -9223372036854775808 ≤ a) (a2 : a ≤ 9223372036854775807) (b1 : -9223372036854775808 ≤ b) (b2 : b ≤ 9223372036854775807) (c1 : 0 ≤ c) (c2 : c ≤ 1) :
  ((a < 0 ↔ b < 0) → (wrap64 (wrap64 (a + b) + c) < 0 ↔ b < 0) → -9223372036854775808 ≤ a + b + c ∧ a + b + c ≤ 9223372036854775807 ∧ wrap64 (wrap64 (a + b) + c) = a + b + c) ∧
  ((a < 0 ↔ b < 0) → ¬ (wrap64 (wrap64 (a + b) + c) < 0 ↔ b < 0) → ¬ (-9223372036854775808 ≤ a + b + c ∧ a + b + c ≤ 9223372036854775807)) ∧
  (¬ (a < 0 ↔ b < 0) → -9223372036854775808 ≤ a + b + c ∧ a + b + c ≤ 9223372036854775807 ∧ wrap64 (wrap64 (a + b) + c) = a + b + c) := by
 unfold wrap64; omega
set_option maxHeartbeats 400000 in
theorem wadd_any (x y : Int) (hx : WIn x) (hy : WIn y) (w : World) :
  Calls Tryz.prog 37 #[.agg #[.int .i64 (hiW x), .int .u64 (loW x)], .agg #[.int .i64 (hiW y), .int .u64 (loW y)]] w fun e w' =>
   e = .returned (.tuple #[.agg #[.int .i64 (hiW (fitR (x + y))), .int .u64 (loW (fitR (x + y)))], .int .i64 (fitE (x + y))]) ∧ Below w.heap.size w w' := by
 obtain ⟨a1, a2⟩ := hi_bd hx; obtain ⟨b1, b2⟩ := hi_bd hy; obtain ⟨c1, c2⟩ := lo_bd x; obtain ⟨d1, d2⟩ := lo_bd y
 have k0 : 0 ≤ hiW (loW x + loW y) := by unfold hiW; omega
 have k1 : hiW (loW x + loW y) ≤ 1 := by unfold hiW; omega
 have HW := hide (add_win x y)
 have HP := hide (add_parts x y)
 obtain ⟨m1, m2, m3⟩ := add_wrap _ _ _ a1 a2 b1 b2 k0 k1
 have M1 := hide m1; have M2 := hide m2; have M3 := hide m3
 clear m1 m2 m3
 go_enter Tryz.func37, Tryz.ntmps37
 go_wp2_with (simp only [add64_0 (loW x) (loW y) c1 d1])
 ·rename_i h1 h2
  have hn : ¬ WIn (x + y) := by rw [HW.out]; exact M2.out h1 (by simpa using h2)
  rw [fitR_not hn, fitE_not hn, hi_zero, lo_zero]
  refine bodyPost_ret (v := .tuple #[.agg #[.int .i64 0, .int .u64 0], .int .i64 6]) (by simp [results, Tryz.results37, go_sem]) rfl ⟨rfl, ?_⟩
  (repeat (first | (with_reducible first | exact Below.refl _ _ | assumption | refine Below.drew ?_) | ((with_reducible first | refine Below.alloc ?_ ?_ _ | refine Below.setCell ?_ ?_ _); rotate_left; (first | omega | (simp <;> omega)))))
 ·rename_i h1 h2
  have hn := M1.out h1 (by simpa using h2)
  have hw : WIn (x + y) := by rw [HW.out]; exact ⟨hn.1, hn.2.1⟩
  rw [fitR_of hw, fitE_of hw]
  refine bodyPost_ret (v := .tuple #[.agg #[.int .i64 (wrap64 (wrap64 (hiW x + hiW y) + hiW (loW x + loW y))), .int .u64 (loW (loW x + loW y))], .int .i64 0]) (by simp [results, Tryz.results37, go_sem]) rfl ⟨?_, ?_⟩
  ·rw [hn.2.2, HP.out.1, HP.out.2]
  (repeat (first | (with_reducible first | exact Below.refl _ _ | assumption | refine Below.drew ?_) | ((with_reducible first | refine Below.alloc ?_ ?_ _ | refine Below.setCell ?_ ?_ _); rotate_left; (first | omega | (simp <;> omega)))))
 ·rename_i h1
  have hn := M3.out h1
  have hw : WIn (x + y) := by rw [HW.out]; exact ⟨hn.1, hn.2.1⟩
  rw [fitR_of hw, fitE_of hw]
  refine bodyPost_ret (v := .tuple #[.agg #[.int .i64 (wrap64 (wrap64 (hiW x + hiW y) + hiW (loW x + loW y))), .int .u64 (loW (loW x + loW y))], .int .i64 0]) (by simp [results, Tryz.results37, go_sem]) rfl ⟨?_, ?_⟩
  ·rw [hn.2.2, HP.out.1, HP.out.2]
  (repeat (first | (with_reducible first | exact Below.refl _ _ | assumption | refine Below.drew ?_) | ((with_reducible first | refine Below.alloc ?_ ?_ _ | refine Below.setCell ?_ ?_ _); rotate_left; (first | omega | (simp <;> omega)))))
end Go.Proofs.YtdjlaiilngechaaGreatDoor
namespace Go.Proofs.YtdjlaiilngechaaGreatDoor
set_option maxRecDepth 4000
set_option linter.unusedSimpArgs false
set_option linter.unusedVariables false
open Go.RowKit
theorem ret_int {k : IntKind} {a b : Int} (h : a = b) : Ending.returned (.int k a) = .returned (.int k b) := by rw [h]
set_option maxHeartbeats 400000 in
theorem neg_any (x : Int) (hx : WIn x) (w : World) :
  Calls Tryz.prog 145 #[.agg #[.int .i64 (hiW x), .int .u64 (loW x)]] w fun e w' =>
   e = .returned (.agg #[.int .i64 (hiW (neg128 x)), .int .u64 (loW (neg128 x))]) ∧ Below w.heap.size w w' := by
 obtain ⟨a1, a2⟩ := hi_bd hx; obtain ⟨c1, c2⟩ := lo_bd x
 have e1 := xor_maxU _ c1 c2
 have e2 := xor_maxI _ a1 a2
 obtain ⟨n1, n2⟩ := notU_bd c1 c2
 obtain ⟨n3, n4⟩ := notI_bd a1 a2
 rw [← (neg128_parts hx).1, ← (neg128_parts hx).2]
 go_enter Tryz.func145, Tryz.ntmps145
 go_wp2_with (simp only [add64_0 (notU (loW x)) 1 n1 (by decide)])
 refine bodyPost_ret (v := .agg #[.int .i64 (wrap64 (IntKind.u64.wrap (IntKind.u64.wrap (notI (hiW x)) + hiW (notU (loW x) + 1)))), .int .u64 (loW (notU (loW x) + 1))]) (by simp [results, Tryz.results145, go_sem]) rfl ⟨rfl, ?_⟩
 (repeat (first | (with_reducible first | exact Below.refl _ _ | assumption | refine Below.drew ?_) | ((with_reducible first | refine Below.alloc ?_ ?_ _ | refine Below.setCell ?_ ?_ _); rotate_left; (first | omega | (simp <;> omega)))))
theorem abs_any (n : Int) (h1 : -9223372036854775808 ≤ n) (h2 : n ≤ 9223372036854775807) (w : World) :
  Calls Tryz.prog 144 #[.int .i64 n] w fun e w' =>
   e = .returned (.int .u64 (absI n)) ∧ w = w' := by
 by_cases h : n < 0
 ·go_enter Tryz.func144, Tryz.ntmps144
  go_wp2
  go_ret
  exact ⟨ret_int (by rw [wrapU, wrapU, absI_neg h]; omega), rfl⟩
 ·have h' := Int.not_lt.1 h
  clear h
  go_enter Tryz.func144, Tryz.ntmps144
  go_wp2
  go_ret
  exact ⟨ret_int (absI_pos h').symm, rfl⟩
theorem mul64_any (x y : Int) (h1 : 0 ≤ x) (h2 : x < 18446744073709551616) (y1 : 0 ≤ y) (y2 : y < 18446744073709551616) (w : World) :
  Calls Tryz.prog 143 #[.int .u64 x, .int .u64 y] w fun e w' =>
   e = .returned (.tuple #[.int .u64 (hiW (x * y)), .int .u64 (loW (x * y))]) ∧ w = w' := by
 rw [← mulHi_eq x y h1 h2 y1 y2, ← mulLo_eq]
 unfold mulHi
 go_enter Tryz.func143, Tryz.ntmps143
 go_wp2
 go_ret2
 exact ⟨rfl, rfl⟩
set_option maxHeartbeats 400000 in
theorem absolute_any (x : Int) (hx : WIn x) (w : World) :
  Calls Tryz.prog 158 #[.agg #[.int .i64 (hiW x), .int .u64 (loW x)]] w fun e w' =>
   e = .returned (.agg #[.int .u64 (hiW (absI x)), .int .u64 (loW (absI x))]) ∧ Below w.heap.size w w' := by
 obtain ⟨a1, a2⟩ := hi_bd hx; obtain ⟨c1, c2⟩ := lo_bd x
 by_cases h : hiW x < 0
 ·have HP := hide (abs_parts_neg hx h)
  go_enter Tryz.func158, Tryz.ntmps158
  go_wp2_with (go_at_call 145; refine (neg_any x hx _).mono ?_; rintro e w1 ⟨rfl, hb⟩; obtain ⟨k1, k2, k3, k4, k5, k6, k7, k8, k9, kB⟩ := keep2 hb; clear hb)
  refine bodyPost_ret (v := .agg #[.int .u64 (IntKind.u64.wrap (hiW (neg128 x))), .int .u64 (loW (neg128 x))]) (by simp [results, Tryz.results158, go_sem, *]) rfl ⟨by rw [HP.out.1, HP.out.2], ?_⟩
  (repeat (first | (with_reducible first | exact Below.refl _ _ | assumption | refine Below.drew ?_) | ((with_reducible first | refine Below.alloc ?_ ?_ _ | refine Below.setCell ?_ ?_ _); rotate_left; (first | omega | (simp <;> omega)))))
 ·have h' := Int.not_lt.1 h
  clear h
  have HP := hide (abs_parts_pos hx h')
  go_enter Tryz.func158, Tryz.ntmps158
  go_wp2
  refine bodyPost_ret (v := .agg #[.int .u64 (hiW x), .int .u64 (loW x)]) (by simp [results, Tryz.results158, go_sem]) rfl ⟨by rw [HP.out], ?_⟩
  (repeat (first | (with_reducible first | exact Below.refl _ _ | assumption | refine Below.drew ?_) | ((with_reducible first | refine Below.alloc ?_ ?_ _ | refine Below.setCell ?_ ?_ _); rotate_left; (first | omega | (simp <;> omega)))))
end Go.Proofs.YtdjlaiilngechaaGreatDoor
