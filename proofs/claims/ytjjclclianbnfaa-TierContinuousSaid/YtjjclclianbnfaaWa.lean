/- Contracts of the inner functions of package wide. -/
import Derived.Test.YtjjclclianbnfaaProg
import Derived.Test.YtjjclclianbnfaaNum
import Derived.KernelRfl
import Derived.WalkSpells
import Derived.WalkLawsBesides
import Derived.Laws.Externs
import Derived.Lib.Mul64
import Derived.Laws.Bits64b
namespace Go.Proofs.Ytjjclclianbnfaa
open Go.RowKit

theorem add64 (x y c : Int) (hx : 0 ≤ x) (hy : 0 ≤ y) (hc0 : 0 ≤ c) (hc : c ≤ 1) (w : World) : (callFunc 40 #[.int .u64 x, .int .u64 y, .int .u64 c]).run Try.prog w =
    .ok (.value (.tuple #[.int .u64 ((x + y + c) % 18446744073709551616), .int .u64 ((x + y + c) / 18446744073709551616)])) w := by
  rw [run_callFunc_extern Try.func40 (by kernel_rfl) (by kernel_rfl) (by kernel_rfl) (e := add64Entry) (by kernel_rfl), run_add64 x y c hx hy hc0 hc]
  rfl
theorem add64_0 (x y : Int) (hx : 0 ≤ x) (hy : 0 ≤ y) (w : World) : (callFunc 40 #[.int .u64 x, .int .u64 y, .int .u64 0]).run Try.prog w =
    .ok (.value (.tuple #[.int .u64 (loW (x + y)), .int .u64 (hiW (x + y))])) w := by
  simpa [loW, hiW] using add64 x y 0 hx hy (Int.le_refl 0) (by decide) w

theorem add_sum (x y : Int) : x + y = (hiW x + hiW y + hiW (loW x + loW y)) * 18446744073709551616 + loW (loW x + loW y) := by unfold hiW loW; omega
theorem add_parts (x y : Int) : hiW (x + y) = hiW x + hiW y + hiW (loW x + loW y) ∧ loW (x + y) = loW (loW x + loW y) :=
  of_hi_lo (add_sum x y) (lo_bd _).1 (lo_bd _).2
theorem add_win (x y : Int) : WIn (x + y) ↔ -9223372036854775808 ≤ hiW x + hiW y + hiW (loW x + loW y) ∧ hiW x + hiW y + hiW (loW x + loW y) ≤ 9223372036854775807 :=
  win_hi (add_sum x y) (lo_bd _).1 (lo_bd _).2
theorem add_wrap (a b c : Int) (a1 : -9223372036854775808 ≤ a) (a2 : a ≤ 9223372036854775807) (b1 : -9223372036854775808 ≤ b) (b2 : b ≤ 9223372036854775807) (c1 : 0 ≤ c) (c2 : c ≤ 1) :
    ((a < 0 ↔ b < 0) → (wrap64 (wrap64 (a + b) + c) < 0 ↔ b < 0) → -9223372036854775808 ≤ a + b + c ∧ a + b + c ≤ 9223372036854775807 ∧ wrap64 (wrap64 (a + b) + c) = a + b + c) ∧
    ((a < 0 ↔ b < 0) → ¬ (wrap64 (wrap64 (a + b) + c) < 0 ↔ b < 0) → ¬ (-9223372036854775808 ≤ a + b + c ∧ a + b + c ≤ 9223372036854775807)) ∧
    (¬ (a < 0 ↔ b < 0) → -9223372036854775808 ≤ a + b + c ∧ a + b + c ≤ 9223372036854775807 ∧ wrap64 (wrap64 (a + b) + c) = a + b + c) := by
  unfold wrap64; omega
set_option maxHeartbeats 400000 in
theorem wadd_any (x y : Int) (hx : WIn x) (hy : WIn y) (w : World) :
    Calls Try.prog 29 #[.agg #[.int .i64 (hiW x), .int .u64 (loW x)], .agg #[.int .i64 (hiW y), .int .u64 (loW y)]] w fun e w' =>
      e = .returned (.tuple #[.agg #[.int .i64 (hiW (fitR (x + y))), .int .u64 (loW (fitR (x + y)))], .int .i64 (fitE (x + y))]) ∧ Below w.heap.size w w' := by
  obtain ⟨a1, a2⟩ := hi_bd hx; obtain ⟨b1, b2⟩ := hi_bd hy; obtain ⟨c1, c2⟩ := lo_bd x; obtain ⟨d1, d2⟩ := lo_bd y
  have k0 : 0 ≤ hiW (loW x + loW y) := by unfold hiW; omega
  have k1 : hiW (loW x + loW y) ≤ 1 := by unfold hiW; omega
  have HW := hide (add_win x y)
  have HP := hide (add_parts x y)
  obtain ⟨m1, m2, m3⟩ := add_wrap _ _ _ a1 a2 b1 b2 k0 k1
  have M1 := hide m1; have M2 := hide m2; have M3 := hide m3
  clear m1 m2 m3
  go_enter Try.func29, Try.ntmps29
  go_wp2_with (simp only [add64_0 (loW x) (loW y) c1 d1])
  · rename_i h1 h2
    have hn : ¬ WIn (x + y) := by rw [HW.out]; exact M2.out h1 (by simpa using h2)
    rw [fitR_not hn, fitE_not hn, hi_zero, lo_zero]
    refine bodyPost_ret (v := .tuple #[.agg #[.int .i64 0, .int .u64 0], .int .i64 6]) (by simp [results, Try.results29, go_sem]) rfl ⟨rfl, ?_⟩
    (repeat (first | (with_reducible exact Below.refl _ _) | (with_reducible assumption) | ((with_reducible refine Below.alloc ?_ ?_ _); (rotate_left); (first | omega | (simp <;> omega))) | ((with_reducible refine Below.setCell ?_ ?_ _); (rotate_left); (first | omega | (simp <;> omega))) | (with_reducible refine Below.drew ?_) | (with_reducible refine below_drewN ?_ _)))
  · rename_i h1 h2
    have hn := M1.out h1 (by simpa using h2)
    have hw : WIn (x + y) := by rw [HW.out]; exact ⟨hn.1, hn.2.1⟩
    rw [fitR_of hw, fitE_of hw]
    refine bodyPost_ret (v := .tuple #[.agg #[.int .i64 (wrap64 (wrap64 (hiW x + hiW y) + hiW (loW x + loW y))), .int .u64 (loW (loW x + loW y))], .int .i64 0]) (by simp [results, Try.results29, go_sem]) rfl ⟨?_, ?_⟩
    · rw [hn.2.2, HP.out.1, HP.out.2]
    (repeat (first | (with_reducible exact Below.refl _ _) | (with_reducible assumption) | ((with_reducible refine Below.alloc ?_ ?_ _); (rotate_left); (first | omega | (simp <;> omega))) | ((with_reducible refine Below.setCell ?_ ?_ _); (rotate_left); (first | omega | (simp <;> omega))) | (with_reducible refine Below.drew ?_) | (with_reducible refine below_drewN ?_ _)))
  · rename_i h1
    have hn := M3.out h1
    have hw : WIn (x + y) := by rw [HW.out]; exact ⟨hn.1, hn.2.1⟩
    rw [fitR_of hw, fitE_of hw]
    refine bodyPost_ret (v := .tuple #[.agg #[.int .i64 (wrap64 (wrap64 (hiW x + hiW y) + hiW (loW x + loW y))), .int .u64 (loW (loW x + loW y))], .int .i64 0]) (by simp [results, Try.results29, go_sem]) rfl ⟨?_, ?_⟩
    · rw [hn.2.2, HP.out.1, HP.out.2]
    (repeat (first | (with_reducible exact Below.refl _ _) | (with_reducible assumption) | ((with_reducible refine Below.alloc ?_ ?_ _); (rotate_left); (first | omega | (simp <;> omega))) | ((with_reducible refine Below.setCell ?_ ?_ _); (rotate_left); (first | omega | (simp <;> omega))) | (with_reducible refine Below.drew ?_) | (with_reducible refine below_drewN ?_ _)))
end Go.Proofs.Ytjjclclianbnfaa
