/- Texts laid together: ExA. -/
import Derived.Test.YtdjlaiilngechaaGreatDoorURc
import Derived.Test.YtdjlaiilngechaaGreatDoorUK0
namespace Go.Proofs.YtdjlaiilngechaaGreatDoor
set_option maxRecDepth 4000
set_option linter.unusedSimpArgs false
set_option linter.unusedVariables false
open Go.RowKit
theorem run_sub64 {P : Program} (x y : Int) (hx : 0 ≤ x) (hx2 : x < 18446744073709551616) (hy : 0 ≤ y) (hy2 : y < 18446744073709551616) (w : World) :
  ((Extern.MathBitsCarry.rows[1]'(by decide)).2 #[.int .u64 x, .int .u64 y, .int .u64 0]).run P w = .ok (.tuple #[.int .u64 (loW (x - y)), .int .u64 (-hiW (x - y))]) w := by
 have key : ((Extern.MathBitsCarry.rows[1]'(by decide)).2 #[.int .u64 x, .int .u64 y, .int .u64 0]).run P w =
   .ok (Extern.MathBitsCarry.pair ((x.toNat + Extern.MathBitsCarry.m64 - y.toNat - 0) % Extern.MathBitsCarry.m64) (if x.toNat < y.toNat + 0 then 1 else 0)) w := rfl
 rw [key]
 obtain ⟨X, rfl⟩ := Int.eq_ofNat_of_zero_le hx
 obtain ⟨Y, rfl⟩ := Int.eq_ofNat_of_zero_le hy
 simp only [Extern.MathBitsCarry.pair, Extern.MathBitsCarry.m64, Int.toNat_natCast, Nat.add_zero, Nat.sub_zero]
 have e1 : Int.ofNat ((X + 2 ^ 64 - Y) % 2 ^ 64) = loW ((X : Int) - Y) := by
  unfold loW
  show (((X + 2 ^ 64 - Y) % 2 ^ 64 : Nat) : Int) = _
  omega
 have e2 : Int.ofNat (if X < Y then 1 else 0) = -hiW ((X : Int) - Y) := by
  unfold hiW
  split
  ·show (1 : Int) = _; omega
  ·show (0 : Int) = _; omega
 rw [e1, e2]
theorem sub64_0 (x y : Int) (hx : 0 ≤ x) (hx2 : x < 18446744073709551616) (hy : 0 ≤ y) (hy2 : y < 18446744073709551616) (w : World) : (callFunc 45 #[.int .u64 x, .int .u64 y, .int .u64 0]).run Tryz.prog w =
  .ok (.value (.tuple #[.int .u64 (loW (x - y)), .int .u64 (-hiW (x - y))])) w := by
 rw [run_callFunc_extern Tryz.func45 (by kernel_rfl) (by kernel_rfl) (by kernel_rfl) (e := (Extern.MathBitsCarry.rows[1]'(by decide)).2) (by kernel_rfl), run_sub64 x y hx hx2 hy hy2]
 rfl
theorem sub_sum (x y : Int) : x - y = (hiW x - hiW y - -hiW (loW x - loW y)) * 18446744073709551616 + loW (loW x - loW y) := by unfold hiW loW; omega
theorem sub_parts (x y : Int) : hiW (x - y) = hiW x - hiW y - -hiW (loW x - loW y) ∧ loW (x - y) = loW (loW x - loW y) :=
 of_hi_lo (sub_sum x y) (lo_bd _).1 (lo_bd _).2
theorem sub_win (x y : Int) : WIn (x - y) ↔ -9223372036854775808 ≤ hiW x - hiW y - -hiW (loW x - loW y) ∧ hiW x - hiW y - -hiW (loW x - loW y) ≤ 9223372036854775807 :=
 win_hi (sub_sum x y) (lo_bd _).1 (lo_bd _).2
theorem sub_wrap (a b c : Int) (a1 : -9223372036854775808 ≤ a) (a2 : a ≤ 9223372036854775807) (b1 : -9223372036854775808 ≤ b) (b2 : b ≤ 9223372036854775807) (c1 : 0 ≤ c) (c2 : c ≤ 1) :
  (¬ (a < 0 ↔ b < 0) → (wrap64 (wrap64 (a - b) - c) < 0 ↔ a < 0) → -9223372036854775808 ≤ a - b - c ∧ a - b - c ≤ 9223372036854775807 ∧ wrap64 (wrap64 (a - b) - c) = a - b - c) ∧
  (¬ (a < 0 ↔ b < 0) → ¬ (wrap64 (wrap64 (a - b) - c) < 0 ↔ a < 0) → ¬ (-9223372036854775808 ≤ a - b - c ∧ a - b - c ≤ 9223372036854775807)) ∧
  ((a < 0 ↔ b < 0) → -9223372036854775808 ≤ a - b - c ∧ a - b - c ≤ 9223372036854775807 ∧ wrap64 (wrap64 (a - b) - c) = a - b - c) := by
 unfold wrap64; omega
theorem bne_iff2 {p q : Prop} [Decidable p] [Decidable q] : (!decide p == decide q) = true ↔ ¬ (p ↔ q) := by
 by_cases hp : p <;> by_cases hq : q <;> simp [hp, hq]
set_option maxHeartbeats 400000 in
theorem wsub_any (x y : Int) (hx : WIn x) (hy : WIn y) (w : World) :
  Calls Tryz.prog 24 #[.agg #[.int .i64 (hiW x), .int .u64 (loW x)], .agg #[.int .i64 (hiW y), .int .u64 (loW y)]] w fun e w' =>
   e = .returned (.tuple #[.agg #[.int .i64 (hiW (fitR (x - y))), .int .u64 (loW (fitR (x - y)))], .int .i64 (fitE (x - y))]) ∧ Below w.heap.size w w' := by
 obtain ⟨a1, a2⟩ := hi_bd hx; obtain ⟨b1, b2⟩ := hi_bd hy; obtain ⟨c1, c2⟩ := lo_bd x; obtain ⟨d1, d2⟩ := lo_bd y
 have k0 : 0 ≤ -hiW (loW x - loW y) := by unfold hiW; omega
 have k1 : -hiW (loW x - loW y) ≤ 1 := by unfold hiW; omega
 have HW := hide (sub_win x y)
 have HP := hide (sub_parts x y)
 obtain ⟨m1, m2, m3⟩ := sub_wrap _ _ _ a1 a2 b1 b2 k0 k1
 have HS := hide (sub64_0 (loW x) (loW y) c1 c2 d1 d2)
 obtain ⟨c, hc⟩ : ∃ c, c = -hiW (loW x - loW y) := ⟨_, rfl⟩
 rw [← hc] at k0 k1 HW HP m1 m2 m3 HS
 have M1 := hide m1; have M2 := hide m2; have M3 := hide m3
 clear m1 m2 m3 hc
 go_enter Tryz.func24, Tryz.ntmps24
 go_wp2_with (simp only [HS.out])
 ·rename_i h1
  have hn := M3.out (by simpa using h1)
  have hw : WIn (x - y) := by rw [HW.out]; exact ⟨hn.1, hn.2.1⟩
  rw [fitR_of hw, fitE_of hw]
  refine bodyPost_ret (v := .tuple #[.agg #[.int .i64 (wrap64 (wrap64 (hiW x - hiW y) - c)), .int .u64 (loW (loW x - loW y))], .int .i64 0]) (by simp [results, Tryz.results24, go_sem]) rfl ⟨?_, ?_⟩
  ·rw [hn.2.2, HP.out.1, HP.out.2]
  (repeat (first | (with_reducible first | exact Below.refl _ _ | assumption | refine Below.drew ?_) | ((with_reducible first | refine Below.alloc ?_ ?_ _ | refine Below.setCell ?_ ?_ _); rotate_left; (first | omega | (simp <;> omega)))))
 ·rename_i h1
  have hn : ¬ WIn (x - y) := by rw [HW.out]; exact M2.out (bne_iff2.1 h1.1) (bne_iff2.1 h1.2)
  rw [fitR_not hn, fitE_not hn, hi_zero, lo_zero]
  refine bodyPost_ret (v := .tuple #[.agg #[.int .i64 0, .int .u64 0], .int .i64 6]) (by simp [results, Tryz.results24, go_sem]) rfl ⟨rfl, ?_⟩
  (repeat (first | (with_reducible first | exact Below.refl _ _ | assumption | refine Below.drew ?_) | ((with_reducible first | refine Below.alloc ?_ ?_ _ | refine Below.setCell ?_ ?_ _); rotate_left; (first | omega | (simp <;> omega)))))
 ·rename_i h2
  have hn : -9223372036854775808 ≤ hiW x - hiW y - c ∧ hiW x - hiW y - c ≤ 9223372036854775807 ∧ wrap64 (wrap64 (hiW x - hiW y) - c) = hiW x - hiW y - c := by
   by_cases h1 : (hiW x < 0 ↔ hiW y < 0)
   ·exact M3.out h1
   ·rcases h2 with h2 | h2
    ·exact absurd (bne_iff2.2 h1) (by rw [h2]; decide)
    ·exact M1.out h1 (Classical.byContradiction fun h => absurd (bne_iff2.2 h) (by rw [h2]; decide))
  have hw : WIn (x - y) := by rw [HW.out]; exact ⟨hn.1, hn.2.1⟩
  rw [fitR_of hw, fitE_of hw]
  refine bodyPost_ret (v := .tuple #[.agg #[.int .i64 (wrap64 (wrap64 (hiW x - hiW y) - c)), .int .u64 (loW (loW x - loW y))], .int .i64 0]) (by simp [results, Tryz.results24, go_sem]) rfl ⟨?_, ?_⟩
  ·rw [hn.2.2, HP.out.1, HP.out.2]
  (repeat (first | (with_reducible first | exact Below.refl _ _ | assumption | refine Below.drew ?_) | ((with_reducible first | refine Below.alloc ?_ ?_ _ | refine Below.setCell ?_ ?_ _); rotate_left; (first | omega | (simp <;> omega)))))
theorem sgn_not (y : Int) : sgn (!decide (y < 0)) (absI y) = -y := by
 unfold sgn absI
 by_cases h : y < 0 <;> simp [h]
set_option maxHeartbeats 400000 in
theorem rsub_any (x y : Int) (hx : WIn x) (hy : WIn y) (w : World) :
  Calls Tryz.prog 53 #[.agg #[.int .i64 (hiW x), .int .u64 (loW x)], .agg #[.int .i64 (hiW y), .int .u64 (loW y)]] w fun e w' =>
   e = .returned (.tuple #[.agg #[.int .i64 (hiW (fitR (x - y))), .int .u64 (loW (fitR (x - y)))], .int .i64 (fitE (x - y))]) ∧ Below w.heap.size w w' := by
 have HS := hide (sgn_abs x)
 have HT := hide (sgn_not y)
 have HQ := hide (Int.sub_eq_add_neg (a := x) (b := y))
 rw [HQ.out]
 go_enter Tryz.func53, Tryz.ntmps53
 go_wp2_with fail
 refine (rsplit_any x hx _).mono ?_
 rintro e w1 ⟨rfl, hb⟩
 have q1B : Below w.heap.size w w1 := qB hb
 have q1z := hb.size
 try simp at q1z
 have q1t : w.heap.size ≤ w1.heap.size := (by omega)
 obtain ⟨q1s0, q1n0_0, q1n0_1, q1n0_2⟩ := kB w1.heap.size w.heap.size
 obtain ⟨q1c0_0, q1c0_1, q1f0⟩ := kC2 hb w.heap.size
 simp [go_sem, *] at q1c0_0 q1c0_1 q1f0
 obtain ⟨q1s1, q1n1_0, q1n1_1, q1n1_2⟩ := kB w1.heap.size (w.heap.size + 1)
 obtain ⟨q1c1_0, q1c1_1, q1f1⟩ := kC2 hb (w.heap.size + 1)
 simp [go_sem, *] at q1c1_0 q1c1_1 q1f1
 obtain ⟨q1s2, q1n2_0, q1n2_1, q1n2_2⟩ := kB w1.heap.size (w.heap.size + 2)
 obtain ⟨q1c2_0, q1c2_1, q1f2⟩ := kC2 hb (w.heap.size + 2)
 simp [go_sem, *] at q1c2_0 q1c2_1 q1f2
 have q1o := belO q1B
 clear hb
 go_wp2_with fail
 refine (rsplit_any y hy _).mono ?_
 rintro e w2 ⟨rfl, hb⟩
 have q2B : Below w.heap.size w w2 := qB hb
 have q2z := hb.size
 try simp at q2z
 have q2t : w.heap.size ≤ w2.heap.size := (by omega)
 obtain ⟨q2s0, q2n0_0, q2n0_1, q2n0_2⟩ := kB w2.heap.size w.heap.size
 obtain ⟨q2c0_0, q2c0_1, q2f0⟩ := kC2 hb w.heap.size
 simp [go_sem, *] at q2c0_0 q2c0_1 q2f0
 obtain ⟨q2s1, q2n1_0, q2n1_1, q2n1_2⟩ := kB w2.heap.size (w.heap.size + 1)
 obtain ⟨q2c1_0, q2c1_1, q2f1⟩ := kC2 hb (w.heap.size + 1)
 simp [go_sem, *] at q2c1_0 q2c1_1 q2f1
 obtain ⟨q2s2, q2n2_0, q2n2_1, q2n2_2⟩ := kB w2.heap.size (w.heap.size + 2)
 obtain ⟨q2c2_0, q2c2_1, q2f2⟩ := kC2 hb (w.heap.size + 2)
 simp [go_sem, *] at q2c2_0 q2c2_1 q2f2
 obtain ⟨q2s3, q2n3_0, q2n3_1, q2n3_2⟩ := kB w2.heap.size w1.heap.size
 obtain ⟨q2c3_0, q2c3_1, q2f3⟩ := kC2 hb w1.heap.size
 simp [go_sem, *] at q2c3_0 q2c3_1 q2f3
 have q2o := belO q2B
 clear hb q1o q1f2 q1c2_1 q1c2_0 q1s2 q1f1 q1c1_1 q1c1_0 q1s1 q1f0 q1c0_1 q1c0_0 q1s0 q1z q1B
 go_wp2_with fail
 refine (rsum_any _ (!decide (y < 0)) _ _ (absI_win hx) (absI_win hy) _).mono ?_
 rintro e w3 ⟨rfl, hb⟩
 rw [HS.out, HT.out]
 have q3B : Below w.heap.size w w3 := qB hb
 have q3z := hb.size
 try simp at q3z
 have q3t : w.heap.size ≤ w3.heap.size := (by omega)
 obtain ⟨q3s0, q3n0_0, q3n0_1, q3n0_2⟩ := kB w3.heap.size (w.heap.size + 2)
 obtain ⟨q3c0_0, q3c0_1, q3f0⟩ := kC2 hb (w.heap.size + 2)
 simp [go_sem, *] at q3c0_0 q3c0_1 q3f0
 have q3o := belO q3B
 clear hb q2o q2f3 q2c3_1 q2c3_0 q2s3 q2f2 q2c2_1 q2c2_0 q2s2 q2f1 q2c1_1 q2c1_0 q2s1 q2f0 q2c0_1 q2c0_0 q2s0 q2z q2B
 go_wp2_with fail
 refine bodyPost_ret (by simp [results, Tryz.results53, go_sem, *] <;> rfl) rfl ⟨?_, ?_⟩
 ·rfl
 (repeat (first | (with_reducible first | exact Below.refl _ _ | assumption | refine Below.drew ?_) | ((with_reducible first | refine Below.alloc ?_ ?_ _ | refine Below.setCell ?_ ?_ _); rotate_left; (first | omega | (simp <;> omega)))))
end Go.Proofs.YtdjlaiilngechaaGreatDoor
