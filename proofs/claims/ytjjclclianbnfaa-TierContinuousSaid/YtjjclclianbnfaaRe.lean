/- Contracts of the reference for numbers of 128 bits, 5: Add, Scale, Mul. -/
import Derived.Test.YtjjclclianbnfaaRd
import Derived.Test.YtjjclclianbnfaaWd
import Derived.Deep.DeepCutAuto
namespace Go.Proofs.Ytjjclclianbnfaa
open Go.RowKit

theorem sgn_abs (x : Int) : sgn (decide (x < 0)) (absI x) = x := by
  unfold sgn absI
  by_cases h : x < 0 <;> simp [h]
set_option maxHeartbeats 400000 in
theorem radd_any (x y : Int) (hx : WIn x) (hy : WIn y) (w : World) :
    Calls Try.prog 22 #[.agg #[.int .i64 (hiW x), .int .u64 (loW x)], .agg #[.int .i64 (hiW y), .int .u64 (loW y)]] w fun e w' =>
      e = .returned (.tuple #[.agg #[.int .i64 (hiW (fitR (x + y))), .int .u64 (loW (fitR (x + y)))], .int .i64 (fitE (x + y))]) ∧ Below w.heap.size w w' := by
  have HS := hide (sgn_abs x)
  have HT := hide (sgn_abs y)
  go_enter Try.func22, Try.ntmps22
  go_wp2_with fail
  refine (rsplit_any x hx _).mono ?_
  rintro e w1 ⟨rfl, hb⟩
  have q1B : Below w.heap.size w w1 := (by refine Below.trans ?_ (hb.mono (by first | omega | (simp <;> omega))); (repeat (first | (with_reducible exact Below.refl _ _) | (with_reducible assumption) | ((with_reducible refine Below.alloc ?_ ?_ _); (rotate_left); (first | omega | (simp <;> omega))) | ((with_reducible refine Below.setCell ?_ ?_ _); (rotate_left); (first | omega | (simp <;> omega))) | (with_reducible refine Below.drew ?_) | (with_reducible refine below_drewN ?_ _))))
  have q1z := hb.size
  try simp at q1z
  have q1t : w.heap.size ≤ w1.heap.size := (by omega)
  have q1s0 : w.heap.size < w1.heap.size := (by omega)
  have q1n0_0 : ¬ w1.heap.size = w.heap.size := (by omega)
  have q1n0_1 : ¬ w1.heap.size + 1 = w.heap.size := (by omega)
  have q1n0_2 : ¬ w1.heap.size + 2 = w.heap.size := (by omega)
  have q1c0_0 := hb.cell (p := ⟨w.heap.size, 0, none⟩) (by first | omega | (simp <;> omega))
  simp [go_sem, *] at q1c0_0
  have q1c0_1 := hb.cell (p := ⟨w.heap.size, 1, none⟩) (by first | omega | (simp <;> omega))
  simp [go_sem, *] at q1c0_1
  have q1f0 := fun o => hb.frozen (p := ⟨w.heap.size, o, none⟩) (by first | omega | (simp <;> omega))
  simp [go_sem, *] at q1f0
  have q1s1 : w.heap.size + 1 < w1.heap.size := (by omega)
  have q1n1_0 : ¬ w1.heap.size = w.heap.size + 1 := (by omega)
  have q1n1_1 : ¬ w1.heap.size + 1 = w.heap.size + 1 := (by omega)
  have q1n1_2 : ¬ w1.heap.size + 2 = w.heap.size + 1 := (by omega)
  have q1c1_0 := hb.cell (p := ⟨w.heap.size + 1, 0, none⟩) (by first | omega | (simp <;> omega))
  simp [go_sem, *] at q1c1_0
  have q1c1_1 := hb.cell (p := ⟨w.heap.size + 1, 1, none⟩) (by first | omega | (simp <;> omega))
  simp [go_sem, *] at q1c1_1
  have q1f1 := fun o => hb.frozen (p := ⟨w.heap.size + 1, o, none⟩) (by first | omega | (simp <;> omega))
  simp [go_sem, *] at q1f1
  have q1s2 : w.heap.size + 2 < w1.heap.size := (by omega)
  have q1n2_0 : ¬ w1.heap.size = w.heap.size + 2 := (by omega)
  have q1n2_1 : ¬ w1.heap.size + 1 = w.heap.size + 2 := (by omega)
  have q1n2_2 : ¬ w1.heap.size + 2 = w.heap.size + 2 := (by omega)
  have q1c2_0 := hb.cell (p := ⟨w.heap.size + 2, 0, none⟩) (by first | omega | (simp <;> omega))
  simp [go_sem, *] at q1c2_0
  have q1c2_1 := hb.cell (p := ⟨w.heap.size + 2, 1, none⟩) (by first | omega | (simp <;> omega))
  simp [go_sem, *] at q1c2_1
  have q1f2 := fun o => hb.frozen (p := ⟨w.heap.size + 2, o, none⟩) (by first | omega | (simp <;> omega))
  simp [go_sem, *] at q1f2
  have q1o : ∀ b o, b < w.heap.size → w1.cell? ⟨b, o, none⟩ = w.cell? ⟨b, o, none⟩ := fun b o h => q1B.cell (p := ⟨b, o, none⟩) h
  clear hb
  go_wp2_with fail
  refine (rsplit_any y hy _).mono ?_
  rintro e w2 ⟨rfl, hb⟩
  have q2B : Below w.heap.size w w2 := (by refine Below.trans ?_ (hb.mono (by first | omega | (simp <;> omega))); (repeat (first | (with_reducible exact Below.refl _ _) | (with_reducible assumption) | ((with_reducible refine Below.alloc ?_ ?_ _); (rotate_left); (first | omega | (simp <;> omega))) | ((with_reducible refine Below.setCell ?_ ?_ _); (rotate_left); (first | omega | (simp <;> omega))) | (with_reducible refine Below.drew ?_) | (with_reducible refine below_drewN ?_ _))))
  have q2z := hb.size
  try simp at q2z
  have q2t : w.heap.size ≤ w2.heap.size := (by omega)
  have q2s0 : w.heap.size < w2.heap.size := (by omega)
  have q2n0_0 : ¬ w2.heap.size = w.heap.size := (by omega)
  have q2n0_1 : ¬ w2.heap.size + 1 = w.heap.size := (by omega)
  have q2n0_2 : ¬ w2.heap.size + 2 = w.heap.size := (by omega)
  have q2c0_0 := hb.cell (p := ⟨w.heap.size, 0, none⟩) (by first | omega | (simp <;> omega))
  simp [go_sem, *] at q2c0_0
  have q2c0_1 := hb.cell (p := ⟨w.heap.size, 1, none⟩) (by first | omega | (simp <;> omega))
  simp [go_sem, *] at q2c0_1
  have q2f0 := fun o => hb.frozen (p := ⟨w.heap.size, o, none⟩) (by first | omega | (simp <;> omega))
  simp [go_sem, *] at q2f0
  have q2s1 : w.heap.size + 1 < w2.heap.size := (by omega)
  have q2n1_0 : ¬ w2.heap.size = w.heap.size + 1 := (by omega)
  have q2n1_1 : ¬ w2.heap.size + 1 = w.heap.size + 1 := (by omega)
  have q2n1_2 : ¬ w2.heap.size + 2 = w.heap.size + 1 := (by omega)
  have q2c1_0 := hb.cell (p := ⟨w.heap.size + 1, 0, none⟩) (by first | omega | (simp <;> omega))
  simp [go_sem, *] at q2c1_0
  have q2c1_1 := hb.cell (p := ⟨w.heap.size + 1, 1, none⟩) (by first | omega | (simp <;> omega))
  simp [go_sem, *] at q2c1_1
  have q2f1 := fun o => hb.frozen (p := ⟨w.heap.size + 1, o, none⟩) (by first | omega | (simp <;> omega))
  simp [go_sem, *] at q2f1
  have q2s2 : w.heap.size + 2 < w2.heap.size := (by omega)
  have q2n2_0 : ¬ w2.heap.size = w.heap.size + 2 := (by omega)
  have q2n2_1 : ¬ w2.heap.size + 1 = w.heap.size + 2 := (by omega)
  have q2n2_2 : ¬ w2.heap.size + 2 = w.heap.size + 2 := (by omega)
  have q2c2_0 := hb.cell (p := ⟨w.heap.size + 2, 0, none⟩) (by first | omega | (simp <;> omega))
  simp [go_sem, *] at q2c2_0
  have q2c2_1 := hb.cell (p := ⟨w.heap.size + 2, 1, none⟩) (by first | omega | (simp <;> omega))
  simp [go_sem, *] at q2c2_1
  have q2f2 := fun o => hb.frozen (p := ⟨w.heap.size + 2, o, none⟩) (by first | omega | (simp <;> omega))
  simp [go_sem, *] at q2f2
  have q2s3 : w1.heap.size < w2.heap.size := (by omega)
  have q2n3_0 : ¬ w2.heap.size = w1.heap.size := (by omega)
  have q2n3_1 : ¬ w2.heap.size + 1 = w1.heap.size := (by omega)
  have q2n3_2 : ¬ w2.heap.size + 2 = w1.heap.size := (by omega)
  have q2c3_0 := hb.cell (p := ⟨w1.heap.size, 0, none⟩) (by first | omega | (simp <;> omega))
  simp [go_sem, *] at q2c3_0
  have q2c3_1 := hb.cell (p := ⟨w1.heap.size, 1, none⟩) (by first | omega | (simp <;> omega))
  simp [go_sem, *] at q2c3_1
  have q2f3 := fun o => hb.frozen (p := ⟨w1.heap.size, o, none⟩) (by first | omega | (simp <;> omega))
  simp [go_sem, *] at q2f3
  have q2o : ∀ b o, b < w.heap.size → w2.cell? ⟨b, o, none⟩ = w.cell? ⟨b, o, none⟩ := fun b o h => q2B.cell (p := ⟨b, o, none⟩) h
  clear hb q1o q1f2 q1c2_1 q1c2_0 q1s2 q1f1 q1c1_1 q1c1_0 q1s1 q1f0 q1c0_1 q1c0_0 q1s0 q1z q1B
  go_wp2_with fail
  refine (rsum_any _ _ _ _ (absI_win hx) (absI_win hy) _).mono ?_
  rintro e w3 ⟨rfl, hb⟩
  rw [HS.out, HT.out]
  have q3B : Below w.heap.size w w3 := (by refine Below.trans ?_ (hb.mono (by first | omega | (simp <;> omega))); (repeat (first | (with_reducible exact Below.refl _ _) | (with_reducible assumption) | ((with_reducible refine Below.alloc ?_ ?_ _); (rotate_left); (first | omega | (simp <;> omega))) | ((with_reducible refine Below.setCell ?_ ?_ _); (rotate_left); (first | omega | (simp <;> omega))) | (with_reducible refine Below.drew ?_) | (with_reducible refine below_drewN ?_ _))))
  have q3z := hb.size
  try simp at q3z
  have q3t : w.heap.size ≤ w3.heap.size := (by omega)
  have q3s0 : w.heap.size + 2 < w3.heap.size := (by omega)
  have q3n0_0 : ¬ w3.heap.size = w.heap.size + 2 := (by omega)
  have q3n0_1 : ¬ w3.heap.size + 1 = w.heap.size + 2 := (by omega)
  have q3n0_2 : ¬ w3.heap.size + 2 = w.heap.size + 2 := (by omega)
  have q3c0_0 := hb.cell (p := ⟨w.heap.size + 2, 0, none⟩) (by first | omega | (simp <;> omega))
  simp [go_sem, *] at q3c0_0
  have q3c0_1 := hb.cell (p := ⟨w.heap.size + 2, 1, none⟩) (by first | omega | (simp <;> omega))
  simp [go_sem, *] at q3c0_1
  have q3f0 := fun o => hb.frozen (p := ⟨w.heap.size + 2, o, none⟩) (by first | omega | (simp <;> omega))
  simp [go_sem, *] at q3f0
  have q3o : ∀ b o, b < w.heap.size → w3.cell? ⟨b, o, none⟩ = w.cell? ⟨b, o, none⟩ := fun b o h => q3B.cell (p := ⟨b, o, none⟩) h
  clear hb q2o q2f3 q2c3_1 q2c3_0 q2s3 q2f2 q2c2_1 q2c2_0 q2s2 q2f1 q2c1_1 q2c1_0 q2s1 q2f0 q2c0_1 q2c0_0 q2s0 q2z q2B
  go_wp2_with fail
  refine bodyPost_ret (by simp [results, Try.results22, go_sem, *] <;> rfl) rfl ⟨?_, ?_⟩
  · rfl
  (repeat (first | (with_reducible exact Below.refl _ _) | (with_reducible assumption) | ((with_reducible refine Below.alloc ?_ ?_ _); (rotate_left); (first | omega | (simp <;> omega))) | ((with_reducible refine Below.setCell ?_ ?_ _); (rotate_left); (first | omega | (simp <;> omega))) | (with_reducible refine Below.drew ?_) | (with_reducible refine below_drewN ?_ _)))
theorem scale_sgn (x n : Int) : sgn (!(decide (x < 0) == decide (n < 0))) (absI x * absI n) = x * n := by
  have h := mul_sign x n
  by_cases hx : x < 0 <;> by_cases hn : n < 0
  · rw [h.1 (by omega)]; simp [sgn, hx, hn]
  · rw [h.2 (by omega)]; simp [sgn, hx, hn]
  · rw [h.2 (by omega)]; simp [sgn, hx, hn]
  · rw [h.1 (by omega)]; simp [sgn, hx, hn]
theorem mul_win {a b : Int} (a1 : -9223372036854775808 ≤ a) (a2 : a ≤ 9223372036854775807) (b1 : -9223372036854775808 ≤ b) (b2 : b ≤ 9223372036854775807) : WIn (a * b) := by
  have h := mul_small a1 a2 b1 b2
  have hs := mul_sign a b
  unfold WIn
  by_cases hh : (a < 0 ↔ b < 0)
  · rw [hs.1 hh]; omega
  · rw [hs.2 hh]; omega
def ScaleCut (x n : Int) (w : World) (v8 v9 : Value) (wx : World) : Prop :=
  ∃ g, v8 = .pointer (some ⟨g, 0, none⟩) ∧ v9 = .bool (fitM (absI x * absI n)) ∧ Below w.heap.size w wx ∧ w.heap.size + 1 < wx.heap.size ∧
    (wx.cell? ⟨g, 0, none⟩ = some (.int .u64 (hiW (mod128 (absI x * absI n)))) ∧ wx.cell? ⟨g, 1, none⟩ = some (.int .u64 (loW (mod128 (absI x * absI n))))) ∧ g < wx.heap.size ∧
    (wx.cell? ⟨w.heap.size + 1, 0, none⟩ = some (.int .i64 0) ∧ wx.cell? ⟨w.heap.size + 1, 1, none⟩ = some (.int .u64 0) ∧ ∀ o, wx.frozen? ⟨w.heap.size + 1, o, none⟩ = false)
set_option maxHeartbeats 1000000 in
theorem rscale_any (x n : Int) (hx : WIn x) (n1 : -9223372036854775808 ≤ n) (n2 : n ≤ 9223372036854775807) (w : World) :
    Calls Try.prog 30 #[.agg #[.int .i64 (hiW x), .int .u64 (loW x)], .int .i64 n] w fun e w' =>
      e = .returned (.tuple #[.agg #[.int .i64 (hiW (fitR (x * n))), .int .u64 (loW (fitR (x * n)))], .int .i64 (fitE (x * n))]) ∧ Below w.heap.size w w' := by
  have ha := absI_mbd n1 n2
  go_enter Try.func30, Try.ntmps30
  go_wp2_with fail
  refine (rsplit_any x hx _).mono ?_
  rintro e w1 ⟨rfl, hb⟩
  have q1B : Below w.heap.size w w1 := (by refine Below.trans ?_ (hb.mono (by first | omega | (simp <;> omega))); (repeat (first | (with_reducible exact Below.refl _ _) | (with_reducible assumption) | ((with_reducible refine Below.alloc ?_ ?_ _); (rotate_left); (first | omega | (simp <;> omega))) | ((with_reducible refine Below.setCell ?_ ?_ _); (rotate_left); (first | omega | (simp <;> omega))) | (with_reducible refine Below.drew ?_) | (with_reducible refine below_drewN ?_ _))))
  have q1z := hb.size
  try simp at q1z
  have q1t : w.heap.size ≤ w1.heap.size := (by omega)
  have q1s0 : w.heap.size < w1.heap.size := (by omega)
  have q1n0_0 : ¬ w1.heap.size = w.heap.size := (by omega)
  have q1n0_1 : ¬ w1.heap.size + 1 = w.heap.size := (by omega)
  have q1n0_2 : ¬ w1.heap.size + 2 = w.heap.size := (by omega)
  have q1c0_0 := hb.cell (p := ⟨w.heap.size, 0, none⟩) (by first | omega | (simp <;> omega))
  simp [go_sem, *] at q1c0_0
  have q1c0_1 := hb.cell (p := ⟨w.heap.size, 1, none⟩) (by first | omega | (simp <;> omega))
  simp [go_sem, *] at q1c0_1
  have q1f0 := fun o => hb.frozen (p := ⟨w.heap.size, o, none⟩) (by first | omega | (simp <;> omega))
  simp [go_sem, *] at q1f0
  have q1s1 : w.heap.size + 1 < w1.heap.size := (by omega)
  have q1n1_0 : ¬ w1.heap.size = w.heap.size + 1 := (by omega)
  have q1n1_1 : ¬ w1.heap.size + 1 = w.heap.size + 1 := (by omega)
  have q1n1_2 : ¬ w1.heap.size + 2 = w.heap.size + 1 := (by omega)
  have q1c1_0 := hb.cell (p := ⟨w.heap.size + 1, 0, none⟩) (by first | omega | (simp <;> omega))
  simp [go_sem, *] at q1c1_0
  have q1c1_1 := hb.cell (p := ⟨w.heap.size + 1, 1, none⟩) (by first | omega | (simp <;> omega))
  simp [go_sem, *] at q1c1_1
  have q1f1 := fun o => hb.frozen (p := ⟨w.heap.size + 1, o, none⟩) (by first | omega | (simp <;> omega))
  simp [go_sem, *] at q1f1
  have q1o : ∀ b o, b < w.heap.size → w1.cell? ⟨b, o, none⟩ = w.cell? ⟨b, o, none⟩ := fun b o h => q1B.cell (p := ⟨b, o, none⟩) h
  clear hb
  go_upto_region 2 with fail
  go_cut [8, 9] (fun v8 v9 wx => ScaleCut x n w v8 v9 wx)
  case first =>
    refine ord_start (SB (w1.heap.size + 1) [] _) 10 #[false, false, false, false, false, false, false, false, false, false] (by kernel_rfl) (by kernel_rfl) (by kernel_rfl) SB.refl.drew (fun hHeld => ?_)
    refine ord_take (i := 0) #[true, false, false, false, false, false, false, false, false, false] ?_ rfl (by kernel_rfl) (by kernel_rfl) (by kernel_rfl) (by kernel_rfl) (fun _ _ _ h => h) hHeld (by rfl) (fun wx hSx => ?_) ?_
    rotate_left
    · (unfold SB at hSx; go_simp; (try with_reducible rfl))
    (try simp only [Act.put, List.setIfInBounds_toArray, List.set_cons_zero, List.set_cons_succ])
    refine ord_take (i := 1) #[true, true, false, false, false, false, false, false, false, false] ?_ rfl (by kernel_rfl) (by kernel_rfl) (by kernel_rfl) (by kernel_rfl) (fun _ _ _ h => h) hHeld (by rfl) (fun wx hSx => ?_) ?_
    rotate_left
    · (unfold SB at hSx; go_simp; (try with_reducible rfl))
    (try simp only [Act.put, List.setIfInBounds_toArray, List.set_cons_zero, List.set_cons_succ])
    refine wpAnyH_ready (rs := [2, 7]) (by kernel_rfl) (by simp) ?_
    refine ord_run (i := 2) #[true, true, true, false, false, false, false, false, false, false] rfl (by kernel_rfl) (by rfl) (fun K hK => ?_) ?_
    · go_simp
      go_wp2_with (go_at_call 42; refine (rsize_any n n1 n2 _).mono ?_; rintro e w2 ⟨rfl, rfl⟩)
      refine hK.out _ _ ?_ (fun hHeld => ?_)
      · (repeat (first | (with_reducible exact SB.refl) | (with_reducible exact hHeld) | (with_reducible refine SB.drew ?_) | (with_reducible refine SB.drewN ?_ _) | ((with_reducible refine SB.alloc ?_ ?_ _); (rotate_left); (first | omega | (simp <;> omega))) | ((with_reducible refine SB.setCell ?_ ?_ _); (rotate_left); (focus (simp; done))) | ((with_reducible refine SB.below ?_ hbS ?_); (rotate_left); (first | omega | (simp <;> omega))) | (with_reducible refine SB.undrew ?_) | ((with_reducible refine SB.congr ?_ ?_); (rotate_left); (focus (simp; done))) | ((with_reducible refine SB.realloc ?_ ?_ ?_); (rotate_left); (focus (simp; done)); (focus (simp; done)))))
      clear hK K
      (try simp only [Act.put, List.setIfInBounds_toArray, List.set_cons_zero, List.set_cons_succ])
      refine wpAnyH_ready (rs := [3, 7]) (by kernel_rfl) (by simp) ?_
      refine ord_run (i := 3) #[true, true, true, true, false, false, false, false, false, false] rfl (by kernel_rfl) (by rfl) (fun K hK => ?_) ?_
      · go_simp
        go_wp2_with (go_at_call 41; refine (rtimes_any (absI x) (absI n) (absI_win hx) ha.1 ha.2 _).mono ?_; rintro e w2 ⟨rfl, hb⟩; (first | (have q2B : Below w.heap.size w w2 := (by refine Below.trans ?_ (hb.mono (by first | omega | (simp <;> omega))); (repeat (first | (with_reducible exact Below.refl _ _) | (with_reducible assumption) | ((with_reducible refine Below.alloc ?_ ?_ _); (rotate_left); (first | omega | (simp <;> omega))) | ((with_reducible refine Below.setCell ?_ ?_ _); (rotate_left); (first | omega | (simp <;> omega))) | (with_reducible refine Below.drew ?_) | (with_reducible refine below_drewN ?_ _)))); have q2z := hb.size; (try simp at q2z); have q2t : w.heap.size ≤ w2.heap.size := (by omega); have q2s0 : w.heap.size + 1 < w2.heap.size := (by omega); have q2n0_0 : ¬ w2.heap.size = w.heap.size + 1 := (by omega); have q2n0_1 : ¬ w2.heap.size + 1 = w.heap.size + 1 := (by omega); have q2n0_2 : ¬ w2.heap.size + 2 = w.heap.size + 1 := (by omega); have q2c0_0 := hb.cell (p := ⟨w.heap.size + 1, 0, none⟩) (by first | omega | (simp <;> omega)); simp [go_sem, *] at q2c0_0; have q2c0_1 := hb.cell (p := ⟨w.heap.size + 1, 1, none⟩) (by first | omega | (simp <;> omega)); simp [go_sem, *] at q2c0_1; have q2f0 := fun o => hb.frozen (p := ⟨w.heap.size + 1, o, none⟩) (by first | omega | (simp <;> omega)); simp [go_sem, *] at q2f0; have q2s1 : w1.heap.size + 1 < w2.heap.size := (by omega); have q2n1_0 : ¬ w2.heap.size = w1.heap.size + 1 := (by omega); have q2n1_1 : ¬ w2.heap.size + 1 = w1.heap.size + 1 := (by omega); have q2n1_2 : ¬ w2.heap.size + 2 = w1.heap.size + 1 := (by omega); have q2c1_0 := hb.cell (p := ⟨w1.heap.size + 1, 0, none⟩) (by first | omega | (simp <;> omega)); simp [go_sem, *] at q2c1_0; have q2c1_1 := hb.cell (p := ⟨w1.heap.size + 1, 1, none⟩) (by first | omega | (simp <;> omega)); simp [go_sem, *] at q2c1_1; have q2f1 := fun o => hb.frozen (p := ⟨w1.heap.size + 1, o, none⟩) (by first | omega | (simp <;> omega)); simp [go_sem, *] at q2f1; have q2o : ∀ b o, b < w.heap.size → w2.cell? ⟨b, o, none⟩ = w.cell? ⟨b, o, none⟩ := fun b o h => q2B.cell (p := ⟨b, o, none⟩) h; have hbS := hb; clear hb) | (have q2B : Below w.heap.size w w2 := (by refine Below.trans ?_ (hb.mono (by first | omega | (simp <;> omega))); (repeat (first | (with_reducible exact Below.refl _ _) | (with_reducible assumption) | ((with_reducible refine Below.alloc ?_ ?_ _); (rotate_left); (first | omega | (simp <;> omega))) | ((with_reducible refine Below.setCell ?_ ?_ _); (rotate_left); (first | omega | (simp <;> omega))) | (with_reducible refine Below.drew ?_) | (with_reducible refine below_drewN ?_ _)))); have q2z := hb.size; (try simp at q2z); have q2t : w.heap.size ≤ w2.heap.size := (by omega); have q2s0 : w.heap.size + 1 < w2.heap.size := (by omega); have q2n0_0 : ¬ w2.heap.size = w.heap.size + 1 := (by omega); have q2n0_1 : ¬ w2.heap.size + 1 = w.heap.size + 1 := (by omega); have q2n0_2 : ¬ w2.heap.size + 2 = w.heap.size + 1 := (by omega); have q2c0_0 := hb.cell (p := ⟨w.heap.size + 1, 0, none⟩) (by first | omega | (simp <;> omega)); simp [go_sem, *] at q2c0_0; have q2c0_1 := hb.cell (p := ⟨w.heap.size + 1, 1, none⟩) (by first | omega | (simp <;> omega)); simp [go_sem, *] at q2c0_1; have q2f0 := fun o => hb.frozen (p := ⟨w.heap.size + 1, o, none⟩) (by first | omega | (simp <;> omega)); simp [go_sem, *] at q2f0; have q2o : ∀ b o, b < w.heap.size → w2.cell? ⟨b, o, none⟩ = w.cell? ⟨b, o, none⟩ := fun b o h => q2B.cell (p := ⟨b, o, none⟩) h; have hbS := hb; clear hb)))
        refine hK.out _ _ ?_ (fun hHeld => ?_)
        · (repeat (first | (with_reducible exact SB.refl) | (with_reducible exact hHeld) | (with_reducible refine SB.drew ?_) | (with_reducible refine SB.drewN ?_ _) | ((with_reducible refine SB.alloc ?_ ?_ _); (rotate_left); (first | omega | (simp <;> omega))) | ((with_reducible refine SB.setCell ?_ ?_ _); (rotate_left); (focus (simp; done))) | ((with_reducible refine SB.below ?_ hbS ?_); (rotate_left); (first | omega | (simp <;> omega))) | (with_reducible refine SB.undrew ?_) | ((with_reducible refine SB.congr ?_ ?_); (rotate_left); (focus (simp; done))) | ((with_reducible refine SB.realloc ?_ ?_ ?_); (rotate_left); (focus (simp; done)); (focus (simp; done)))))
        clear hK K
        (try simp only [Act.put, List.setIfInBounds_toArray, List.set_cons_zero, List.set_cons_succ])
        refine ord_take (i := 4) #[true, true, true, true, true, false, false, false, false, false] ?_ rfl (by kernel_rfl) (by kernel_rfl) (by kernel_rfl) (by kernel_rfl) (fun _ _ _ h => h) hHeld (by rfl) (fun wx hSx => ?_) ?_
        rotate_left
        · (unfold SB at hSx; go_simp; (try with_reducible rfl))
        (try simp only [Act.put, List.setIfInBounds_toArray, List.set_cons_zero, List.set_cons_succ])
        refine ord_take (i := 5) #[true, true, true, true, true, true, false, false, false, false] ?_ rfl (by kernel_rfl) (by kernel_rfl) (by kernel_rfl) (by kernel_rfl) (fun _ _ _ h => h) hHeld (by rfl) (fun wx hSx => ?_) ?_
        rotate_left
        · (unfold SB at hSx; go_simp; (try with_reducible rfl))
        (try simp only [Act.put, List.setIfInBounds_toArray, List.set_cons_zero, List.set_cons_succ])
        refine ord_take (i := 6) #[true, true, true, true, true, true, true, false, false, false] ?_ rfl (by kernel_rfl) (by kernel_rfl) (by kernel_rfl) (by kernel_rfl) (fun _ _ _ h => h) hHeld (by rfl) (fun wx hSx => ?_) ?_
        rotate_left
        · (unfold SB at hSx; go_simp; (try with_reducible rfl))
        (try simp only [Act.put, List.setIfInBounds_toArray, List.set_cons_zero, List.set_cons_succ])
        refine wpAnyH_ready (rs := [7]) (by kernel_rfl) (by simp) ?_
        refine ord_run (i := 7) #[true, true, true, true, true, true, true, true, false, false] rfl (by kernel_rfl) (by rfl) (fun K hK => ?_) AllReadyH.nil
        go_simp
        refine hK.out _ _ ?_ (fun hHeld => ?_)
        · (repeat (first | (with_reducible exact SB.refl) | (with_reducible exact hHeld) | (with_reducible refine SB.drew ?_) | (with_reducible refine SB.drewN ?_ _) | ((with_reducible refine SB.alloc ?_ ?_ _); (rotate_left); (first | omega | (simp <;> omega))) | ((with_reducible refine SB.setCell ?_ ?_ _); (rotate_left); (focus (simp; done))) | ((with_reducible refine SB.below ?_ hbS ?_); (rotate_left); (first | omega | (simp <;> omega))) | (with_reducible refine SB.undrew ?_) | ((with_reducible refine SB.congr ?_ ?_); (rotate_left); (focus (simp; done))) | ((with_reducible refine SB.realloc ?_ ?_ ?_); (rotate_left); (focus (simp; done)); (focus (simp; done)))))
        clear hK K
        (try simp only [Act.put, List.setIfInBounds_toArray, List.set_cons_zero, List.set_cons_succ])
        refine wpAnyH_ready (rs := [8]) (by kernel_rfl) (by simp) ?_
        refine ord_run (i := 8) #[true, true, true, true, true, true, true, true, true, false] rfl (by kernel_rfl) (by rfl) (fun K hK => ?_) AllReadyH.nil
        go_simp
        refine hK.out _ _ ?_ (fun hHeld => ?_)
        · (repeat (first | (with_reducible exact SB.refl) | (with_reducible exact hHeld) | (with_reducible refine SB.drew ?_) | (with_reducible refine SB.drewN ?_ _) | ((with_reducible refine SB.alloc ?_ ?_ _); (rotate_left); (first | omega | (simp <;> omega))) | ((with_reducible refine SB.setCell ?_ ?_ _); (rotate_left); (focus (simp; done))) | ((with_reducible refine SB.below ?_ hbS ?_); (rotate_left); (first | omega | (simp <;> omega))) | (with_reducible refine SB.undrew ?_) | ((with_reducible refine SB.congr ?_ ?_); (rotate_left); (focus (simp; done))) | ((with_reducible refine SB.realloc ?_ ?_ ?_); (rotate_left); (focus (simp; done)); (focus (simp; done)))))
        clear hK K
        (try simp only [Act.put, List.setIfInBounds_toArray, List.set_cons_zero, List.set_cons_succ])
        refine ord_take (i := 9) #[true, true, true, true, true, true, true, true, true, true] ?_ rfl (by kernel_rfl) (by kernel_rfl) (by kernel_rfl) (by kernel_rfl) (fun _ _ _ h => h) hHeld (by rfl) (fun wx hSx => ?_) ?_
        rotate_left
        · (unfold SB at hSx; go_simp; (try with_reducible rfl))
        (try simp only [Act.put, List.setIfInBounds_toArray, List.set_cons_zero, List.set_cons_succ])
        refine wpAnyH_done (by kernel_rfl) ?_ _
        go_wp2_with fail; go_meet; exact ⟨_, rfl, rfl, (by (repeat (first | (with_reducible exact Below.refl _ _) | (with_reducible assumption) | ((with_reducible refine Below.alloc ?_ ?_ _); (rotate_left); (first | omega | (simp <;> omega))) | ((with_reducible refine Below.setCell ?_ ?_ _); (rotate_left); (first | omega | (simp <;> omega))) | (with_reducible refine Below.drew ?_) | (with_reducible refine below_drewN ?_ _)))), (by simp; omega), ⟨(by simp [go_sem, *]), (by simp [go_sem, *])⟩, (by first | omega | (simp <;> omega)), ⟨(by simp [go_sem, *]), (by simp [go_sem, *]), (by simp [go_sem, *])⟩⟩
      refine ord_run (i := 7) #[true, true, true, false, false, false, false, true, false, false] rfl (by kernel_rfl) (by rfl) (fun K hK => ?_) ?_
      · go_simp
        refine hK.out _ _ ?_ (fun hHeld => ?_)
        · (repeat (first | (with_reducible exact SB.refl) | (with_reducible exact hHeld) | (with_reducible refine SB.drew ?_) | (with_reducible refine SB.drewN ?_ _) | ((with_reducible refine SB.alloc ?_ ?_ _); (rotate_left); (first | omega | (simp <;> omega))) | ((with_reducible refine SB.setCell ?_ ?_ _); (rotate_left); (focus (simp; done))) | ((with_reducible refine SB.below ?_ hbS ?_); (rotate_left); (first | omega | (simp <;> omega))) | (with_reducible refine SB.undrew ?_) | ((with_reducible refine SB.congr ?_ ?_); (rotate_left); (focus (simp; done))) | ((with_reducible refine SB.realloc ?_ ?_ ?_); (rotate_left); (focus (simp; done)); (focus (simp; done)))))
        clear hK K
        (try simp only [Act.put, List.setIfInBounds_toArray, List.set_cons_zero, List.set_cons_succ])
        refine wpAnyH_ready (rs := [3]) (by kernel_rfl) (by simp) ?_
        refine ord_run (i := 3) #[true, true, true, true, false, false, false, true, false, false] rfl (by kernel_rfl) (by rfl) (fun K hK => ?_) AllReadyH.nil
        go_simp
        go_wp2_with (go_at_call 41; refine (rtimes_any (absI x) (absI n) (absI_win hx) ha.1 ha.2 _).mono ?_; rintro e w2 ⟨rfl, hb⟩; (first | (have q2B : Below w.heap.size w w2 := (by refine Below.trans ?_ (hb.mono (by first | omega | (simp <;> omega))); (repeat (first | (with_reducible exact Below.refl _ _) | (with_reducible assumption) | ((with_reducible refine Below.alloc ?_ ?_ _); (rotate_left); (first | omega | (simp <;> omega))) | ((with_reducible refine Below.setCell ?_ ?_ _); (rotate_left); (first | omega | (simp <;> omega))) | (with_reducible refine Below.drew ?_) | (with_reducible refine below_drewN ?_ _)))); have q2z := hb.size; (try simp at q2z); have q2t : w.heap.size ≤ w2.heap.size := (by omega); have q2s0 : w.heap.size + 1 < w2.heap.size := (by omega); have q2n0_0 : ¬ w2.heap.size = w.heap.size + 1 := (by omega); have q2n0_1 : ¬ w2.heap.size + 1 = w.heap.size + 1 := (by omega); have q2n0_2 : ¬ w2.heap.size + 2 = w.heap.size + 1 := (by omega); have q2c0_0 := hb.cell (p := ⟨w.heap.size + 1, 0, none⟩) (by first | omega | (simp <;> omega)); simp [go_sem, *] at q2c0_0; have q2c0_1 := hb.cell (p := ⟨w.heap.size + 1, 1, none⟩) (by first | omega | (simp <;> omega)); simp [go_sem, *] at q2c0_1; have q2f0 := fun o => hb.frozen (p := ⟨w.heap.size + 1, o, none⟩) (by first | omega | (simp <;> omega)); simp [go_sem, *] at q2f0; have q2s1 : w1.heap.size + 1 < w2.heap.size := (by omega); have q2n1_0 : ¬ w2.heap.size = w1.heap.size + 1 := (by omega); have q2n1_1 : ¬ w2.heap.size + 1 = w1.heap.size + 1 := (by omega); have q2n1_2 : ¬ w2.heap.size + 2 = w1.heap.size + 1 := (by omega); have q2c1_0 := hb.cell (p := ⟨w1.heap.size + 1, 0, none⟩) (by first | omega | (simp <;> omega)); simp [go_sem, *] at q2c1_0; have q2c1_1 := hb.cell (p := ⟨w1.heap.size + 1, 1, none⟩) (by first | omega | (simp <;> omega)); simp [go_sem, *] at q2c1_1; have q2f1 := fun o => hb.frozen (p := ⟨w1.heap.size + 1, o, none⟩) (by first | omega | (simp <;> omega)); simp [go_sem, *] at q2f1; have q2o : ∀ b o, b < w.heap.size → w2.cell? ⟨b, o, none⟩ = w.cell? ⟨b, o, none⟩ := fun b o h => q2B.cell (p := ⟨b, o, none⟩) h; have hbS := hb; clear hb) | (have q2B : Below w.heap.size w w2 := (by refine Below.trans ?_ (hb.mono (by first | omega | (simp <;> omega))); (repeat (first | (with_reducible exact Below.refl _ _) | (with_reducible assumption) | ((with_reducible refine Below.alloc ?_ ?_ _); (rotate_left); (first | omega | (simp <;> omega))) | ((with_reducible refine Below.setCell ?_ ?_ _); (rotate_left); (first | omega | (simp <;> omega))) | (with_reducible refine Below.drew ?_) | (with_reducible refine below_drewN ?_ _)))); have q2z := hb.size; (try simp at q2z); have q2t : w.heap.size ≤ w2.heap.size := (by omega); have q2s0 : w.heap.size + 1 < w2.heap.size := (by omega); have q2n0_0 : ¬ w2.heap.size = w.heap.size + 1 := (by omega); have q2n0_1 : ¬ w2.heap.size + 1 = w.heap.size + 1 := (by omega); have q2n0_2 : ¬ w2.heap.size + 2 = w.heap.size + 1 := (by omega); have q2c0_0 := hb.cell (p := ⟨w.heap.size + 1, 0, none⟩) (by first | omega | (simp <;> omega)); simp [go_sem, *] at q2c0_0; have q2c0_1 := hb.cell (p := ⟨w.heap.size + 1, 1, none⟩) (by first | omega | (simp <;> omega)); simp [go_sem, *] at q2c0_1; have q2f0 := fun o => hb.frozen (p := ⟨w.heap.size + 1, o, none⟩) (by first | omega | (simp <;> omega)); simp [go_sem, *] at q2f0; have q2o : ∀ b o, b < w.heap.size → w2.cell? ⟨b, o, none⟩ = w.cell? ⟨b, o, none⟩ := fun b o h => q2B.cell (p := ⟨b, o, none⟩) h; have hbS := hb; clear hb)))
        refine hK.out _ _ ?_ (fun hHeld => ?_)
        · (repeat (first | (with_reducible exact SB.refl) | (with_reducible exact hHeld) | (with_reducible refine SB.drew ?_) | (with_reducible refine SB.drewN ?_ _) | ((with_reducible refine SB.alloc ?_ ?_ _); (rotate_left); (first | omega | (simp <;> omega))) | ((with_reducible refine SB.setCell ?_ ?_ _); (rotate_left); (focus (simp; done))) | ((with_reducible refine SB.below ?_ hbS ?_); (rotate_left); (first | omega | (simp <;> omega))) | (with_reducible refine SB.undrew ?_) | ((with_reducible refine SB.congr ?_ ?_); (rotate_left); (focus (simp; done))) | ((with_reducible refine SB.realloc ?_ ?_ ?_); (rotate_left); (focus (simp; done)); (focus (simp; done)))))
        clear hK K
        (try simp only [Act.put, List.setIfInBounds_toArray, List.set_cons_zero, List.set_cons_succ])
        refine ord_take (i := 4) #[true, true, true, true, true, false, false, true, false, false] ?_ rfl (by kernel_rfl) (by kernel_rfl) (by kernel_rfl) (by kernel_rfl) (fun _ _ _ h => h) hHeld (by rfl) (fun wx hSx => ?_) ?_
        rotate_left
        · (unfold SB at hSx; go_simp; (try with_reducible rfl))
        (try simp only [Act.put, List.setIfInBounds_toArray, List.set_cons_zero, List.set_cons_succ])
        refine ord_take (i := 5) #[true, true, true, true, true, true, false, true, false, false] ?_ rfl (by kernel_rfl) (by kernel_rfl) (by kernel_rfl) (by kernel_rfl) (fun _ _ _ h => h) hHeld (by rfl) (fun wx hSx => ?_) ?_
        rotate_left
        · (unfold SB at hSx; go_simp; (try with_reducible rfl))
        (try simp only [Act.put, List.setIfInBounds_toArray, List.set_cons_zero, List.set_cons_succ])
        refine ord_take (i := 6) #[true, true, true, true, true, true, true, true, false, false] ?_ rfl (by kernel_rfl) (by kernel_rfl) (by kernel_rfl) (by kernel_rfl) (fun _ _ _ h => h) hHeld (by rfl) (fun wx hSx => ?_) ?_
        rotate_left
        · (unfold SB at hSx; go_simp; (try with_reducible rfl))
        (try simp only [Act.put, List.setIfInBounds_toArray, List.set_cons_zero, List.set_cons_succ])
        refine wpAnyH_ready (rs := [8]) (by kernel_rfl) (by simp) ?_
        refine ord_run (i := 8) #[true, true, true, true, true, true, true, true, true, false] rfl (by kernel_rfl) (by rfl) (fun K hK => ?_) AllReadyH.nil
        go_simp
        refine hK.out _ _ ?_ (fun hHeld => ?_)
        · (repeat (first | (with_reducible exact SB.refl) | (with_reducible exact hHeld) | (with_reducible refine SB.drew ?_) | (with_reducible refine SB.drewN ?_ _) | ((with_reducible refine SB.alloc ?_ ?_ _); (rotate_left); (first | omega | (simp <;> omega))) | ((with_reducible refine SB.setCell ?_ ?_ _); (rotate_left); (focus (simp; done))) | ((with_reducible refine SB.below ?_ hbS ?_); (rotate_left); (first | omega | (simp <;> omega))) | (with_reducible refine SB.undrew ?_) | ((with_reducible refine SB.congr ?_ ?_); (rotate_left); (focus (simp; done))) | ((with_reducible refine SB.realloc ?_ ?_ ?_); (rotate_left); (focus (simp; done)); (focus (simp; done)))))
        clear hK K
        (try simp only [Act.put, List.setIfInBounds_toArray, List.set_cons_zero, List.set_cons_succ])
        refine ord_take (i := 9) #[true, true, true, true, true, true, true, true, true, true] ?_ rfl (by kernel_rfl) (by kernel_rfl) (by kernel_rfl) (by kernel_rfl) (fun _ _ _ h => h) hHeld (by rfl) (fun wx hSx => ?_) ?_
        rotate_left
        · (unfold SB at hSx; go_simp; (try with_reducible rfl))
        (try simp only [Act.put, List.setIfInBounds_toArray, List.set_cons_zero, List.set_cons_succ])
        refine wpAnyH_done (by kernel_rfl) ?_ _
        go_wp2_with fail; go_meet; exact ⟨_, rfl, rfl, (by (repeat (first | (with_reducible exact Below.refl _ _) | (with_reducible assumption) | ((with_reducible refine Below.alloc ?_ ?_ _); (rotate_left); (first | omega | (simp <;> omega))) | ((with_reducible refine Below.setCell ?_ ?_ _); (rotate_left); (first | omega | (simp <;> omega))) | (with_reducible refine Below.drew ?_) | (with_reducible refine below_drewN ?_ _)))), (by simp; omega), ⟨(by simp [go_sem, *]), (by simp [go_sem, *])⟩, (by first | omega | (simp <;> omega)), ⟨(by simp [go_sem, *]), (by simp [go_sem, *]), (by simp [go_sem, *])⟩⟩
      exact AllReadyH.nil
    refine ord_run (i := 7) #[true, true, false, false, false, false, false, true, false, false] rfl (by kernel_rfl) (by rfl) (fun K hK => ?_) ?_
    · go_simp
      refine hK.out _ _ ?_ (fun hHeld => ?_)
      · (repeat (first | (with_reducible exact SB.refl) | (with_reducible exact hHeld) | (with_reducible refine SB.drew ?_) | (with_reducible refine SB.drewN ?_ _) | ((with_reducible refine SB.alloc ?_ ?_ _); (rotate_left); (first | omega | (simp <;> omega))) | ((with_reducible refine SB.setCell ?_ ?_ _); (rotate_left); (focus (simp; done))) | ((with_reducible refine SB.below ?_ hbS ?_); (rotate_left); (first | omega | (simp <;> omega))) | (with_reducible refine SB.undrew ?_) | ((with_reducible refine SB.congr ?_ ?_); (rotate_left); (focus (simp; done))) | ((with_reducible refine SB.realloc ?_ ?_ ?_); (rotate_left); (focus (simp; done)); (focus (simp; done)))))
      clear hK K
      (try simp only [Act.put, List.setIfInBounds_toArray, List.set_cons_zero, List.set_cons_succ])
      refine wpAnyH_ready (rs := [2]) (by kernel_rfl) (by simp) ?_
      refine ord_run (i := 2) #[true, true, true, false, false, false, false, true, false, false] rfl (by kernel_rfl) (by rfl) (fun K hK => ?_) AllReadyH.nil
      go_simp
      go_wp2_with (go_at_call 42; refine (rsize_any n n1 n2 _).mono ?_; rintro e w2 ⟨rfl, rfl⟩)
      refine hK.out _ _ ?_ (fun hHeld => ?_)
      · (repeat (first | (with_reducible exact SB.refl) | (with_reducible exact hHeld) | (with_reducible refine SB.drew ?_) | (with_reducible refine SB.drewN ?_ _) | ((with_reducible refine SB.alloc ?_ ?_ _); (rotate_left); (first | omega | (simp <;> omega))) | ((with_reducible refine SB.setCell ?_ ?_ _); (rotate_left); (focus (simp; done))) | ((with_reducible refine SB.below ?_ hbS ?_); (rotate_left); (first | omega | (simp <;> omega))) | (with_reducible refine SB.undrew ?_) | ((with_reducible refine SB.congr ?_ ?_); (rotate_left); (focus (simp; done))) | ((with_reducible refine SB.realloc ?_ ?_ ?_); (rotate_left); (focus (simp; done)); (focus (simp; done)))))
      clear hK K
      (try simp only [Act.put, List.setIfInBounds_toArray, List.set_cons_zero, List.set_cons_succ])
      refine wpAnyH_ready (rs := [3]) (by kernel_rfl) (by simp) ?_
      refine ord_run (i := 3) #[true, true, true, true, false, false, false, true, false, false] rfl (by kernel_rfl) (by rfl) (fun K hK => ?_) AllReadyH.nil
      go_simp
      go_wp2_with (go_at_call 41; refine (rtimes_any (absI x) (absI n) (absI_win hx) ha.1 ha.2 _).mono ?_; rintro e w2 ⟨rfl, hb⟩; (first | (have q2B : Below w.heap.size w w2 := (by refine Below.trans ?_ (hb.mono (by first | omega | (simp <;> omega))); (repeat (first | (with_reducible exact Below.refl _ _) | (with_reducible assumption) | ((with_reducible refine Below.alloc ?_ ?_ _); (rotate_left); (first | omega | (simp <;> omega))) | ((with_reducible refine Below.setCell ?_ ?_ _); (rotate_left); (first | omega | (simp <;> omega))) | (with_reducible refine Below.drew ?_) | (with_reducible refine below_drewN ?_ _)))); have q2z := hb.size; (try simp at q2z); have q2t : w.heap.size ≤ w2.heap.size := (by omega); have q2s0 : w.heap.size + 1 < w2.heap.size := (by omega); have q2n0_0 : ¬ w2.heap.size = w.heap.size + 1 := (by omega); have q2n0_1 : ¬ w2.heap.size + 1 = w.heap.size + 1 := (by omega); have q2n0_2 : ¬ w2.heap.size + 2 = w.heap.size + 1 := (by omega); have q2c0_0 := hb.cell (p := ⟨w.heap.size + 1, 0, none⟩) (by first | omega | (simp <;> omega)); simp [go_sem, *] at q2c0_0; have q2c0_1 := hb.cell (p := ⟨w.heap.size + 1, 1, none⟩) (by first | omega | (simp <;> omega)); simp [go_sem, *] at q2c0_1; have q2f0 := fun o => hb.frozen (p := ⟨w.heap.size + 1, o, none⟩) (by first | omega | (simp <;> omega)); simp [go_sem, *] at q2f0; have q2s1 : w1.heap.size + 1 < w2.heap.size := (by omega); have q2n1_0 : ¬ w2.heap.size = w1.heap.size + 1 := (by omega); have q2n1_1 : ¬ w2.heap.size + 1 = w1.heap.size + 1 := (by omega); have q2n1_2 : ¬ w2.heap.size + 2 = w1.heap.size + 1 := (by omega); have q2c1_0 := hb.cell (p := ⟨w1.heap.size + 1, 0, none⟩) (by first | omega | (simp <;> omega)); simp [go_sem, *] at q2c1_0; have q2c1_1 := hb.cell (p := ⟨w1.heap.size + 1, 1, none⟩) (by first | omega | (simp <;> omega)); simp [go_sem, *] at q2c1_1; have q2f1 := fun o => hb.frozen (p := ⟨w1.heap.size + 1, o, none⟩) (by first | omega | (simp <;> omega)); simp [go_sem, *] at q2f1; have q2o : ∀ b o, b < w.heap.size → w2.cell? ⟨b, o, none⟩ = w.cell? ⟨b, o, none⟩ := fun b o h => q2B.cell (p := ⟨b, o, none⟩) h; have hbS := hb; clear hb) | (have q2B : Below w.heap.size w w2 := (by refine Below.trans ?_ (hb.mono (by first | omega | (simp <;> omega))); (repeat (first | (with_reducible exact Below.refl _ _) | (with_reducible assumption) | ((with_reducible refine Below.alloc ?_ ?_ _); (rotate_left); (first | omega | (simp <;> omega))) | ((with_reducible refine Below.setCell ?_ ?_ _); (rotate_left); (first | omega | (simp <;> omega))) | (with_reducible refine Below.drew ?_) | (with_reducible refine below_drewN ?_ _)))); have q2z := hb.size; (try simp at q2z); have q2t : w.heap.size ≤ w2.heap.size := (by omega); have q2s0 : w.heap.size + 1 < w2.heap.size := (by omega); have q2n0_0 : ¬ w2.heap.size = w.heap.size + 1 := (by omega); have q2n0_1 : ¬ w2.heap.size + 1 = w.heap.size + 1 := (by omega); have q2n0_2 : ¬ w2.heap.size + 2 = w.heap.size + 1 := (by omega); have q2c0_0 := hb.cell (p := ⟨w.heap.size + 1, 0, none⟩) (by first | omega | (simp <;> omega)); simp [go_sem, *] at q2c0_0; have q2c0_1 := hb.cell (p := ⟨w.heap.size + 1, 1, none⟩) (by first | omega | (simp <;> omega)); simp [go_sem, *] at q2c0_1; have q2f0 := fun o => hb.frozen (p := ⟨w.heap.size + 1, o, none⟩) (by first | omega | (simp <;> omega)); simp [go_sem, *] at q2f0; have q2o : ∀ b o, b < w.heap.size → w2.cell? ⟨b, o, none⟩ = w.cell? ⟨b, o, none⟩ := fun b o h => q2B.cell (p := ⟨b, o, none⟩) h; have hbS := hb; clear hb)))
      refine hK.out _ _ ?_ (fun hHeld => ?_)
      · (repeat (first | (with_reducible exact SB.refl) | (with_reducible exact hHeld) | (with_reducible refine SB.drew ?_) | (with_reducible refine SB.drewN ?_ _) | ((with_reducible refine SB.alloc ?_ ?_ _); (rotate_left); (first | omega | (simp <;> omega))) | ((with_reducible refine SB.setCell ?_ ?_ _); (rotate_left); (focus (simp; done))) | ((with_reducible refine SB.below ?_ hbS ?_); (rotate_left); (first | omega | (simp <;> omega))) | (with_reducible refine SB.undrew ?_) | ((with_reducible refine SB.congr ?_ ?_); (rotate_left); (focus (simp; done))) | ((with_reducible refine SB.realloc ?_ ?_ ?_); (rotate_left); (focus (simp; done)); (focus (simp; done)))))
      clear hK K
      (try simp only [Act.put, List.setIfInBounds_toArray, List.set_cons_zero, List.set_cons_succ])
      refine ord_take (i := 4) #[true, true, true, true, true, false, false, true, false, false] ?_ rfl (by kernel_rfl) (by kernel_rfl) (by kernel_rfl) (by kernel_rfl) (fun _ _ _ h => h) hHeld (by rfl) (fun wx hSx => ?_) ?_
      rotate_left
      · (unfold SB at hSx; go_simp; (try with_reducible rfl))
      (try simp only [Act.put, List.setIfInBounds_toArray, List.set_cons_zero, List.set_cons_succ])
      refine ord_take (i := 5) #[true, true, true, true, true, true, false, true, false, false] ?_ rfl (by kernel_rfl) (by kernel_rfl) (by kernel_rfl) (by kernel_rfl) (fun _ _ _ h => h) hHeld (by rfl) (fun wx hSx => ?_) ?_
      rotate_left
      · (unfold SB at hSx; go_simp; (try with_reducible rfl))
      (try simp only [Act.put, List.setIfInBounds_toArray, List.set_cons_zero, List.set_cons_succ])
      refine ord_take (i := 6) #[true, true, true, true, true, true, true, true, false, false] ?_ rfl (by kernel_rfl) (by kernel_rfl) (by kernel_rfl) (by kernel_rfl) (fun _ _ _ h => h) hHeld (by rfl) (fun wx hSx => ?_) ?_
      rotate_left
      · (unfold SB at hSx; go_simp; (try with_reducible rfl))
      (try simp only [Act.put, List.setIfInBounds_toArray, List.set_cons_zero, List.set_cons_succ])
      refine wpAnyH_ready (rs := [8]) (by kernel_rfl) (by simp) ?_
      refine ord_run (i := 8) #[true, true, true, true, true, true, true, true, true, false] rfl (by kernel_rfl) (by rfl) (fun K hK => ?_) AllReadyH.nil
      go_simp
      refine hK.out _ _ ?_ (fun hHeld => ?_)
      · (repeat (first | (with_reducible exact SB.refl) | (with_reducible exact hHeld) | (with_reducible refine SB.drew ?_) | (with_reducible refine SB.drewN ?_ _) | ((with_reducible refine SB.alloc ?_ ?_ _); (rotate_left); (first | omega | (simp <;> omega))) | ((with_reducible refine SB.setCell ?_ ?_ _); (rotate_left); (focus (simp; done))) | ((with_reducible refine SB.below ?_ hbS ?_); (rotate_left); (first | omega | (simp <;> omega))) | (with_reducible refine SB.undrew ?_) | ((with_reducible refine SB.congr ?_ ?_); (rotate_left); (focus (simp; done))) | ((with_reducible refine SB.realloc ?_ ?_ ?_); (rotate_left); (focus (simp; done)); (focus (simp; done)))))
      clear hK K
      (try simp only [Act.put, List.setIfInBounds_toArray, List.set_cons_zero, List.set_cons_succ])
      refine ord_take (i := 9) #[true, true, true, true, true, true, true, true, true, true] ?_ rfl (by kernel_rfl) (by kernel_rfl) (by kernel_rfl) (by kernel_rfl) (fun _ _ _ h => h) hHeld (by rfl) (fun wx hSx => ?_) ?_
      rotate_left
      · (unfold SB at hSx; go_simp; (try with_reducible rfl))
      (try simp only [Act.put, List.setIfInBounds_toArray, List.set_cons_zero, List.set_cons_succ])
      refine wpAnyH_done (by kernel_rfl) ?_ _
      go_wp2_with fail; go_meet; exact ⟨_, rfl, rfl, (by (repeat (first | (with_reducible exact Below.refl _ _) | (with_reducible assumption) | ((with_reducible refine Below.alloc ?_ ?_ _); (rotate_left); (first | omega | (simp <;> omega))) | ((with_reducible refine Below.setCell ?_ ?_ _); (rotate_left); (first | omega | (simp <;> omega))) | (with_reducible refine Below.drew ?_) | (with_reducible refine below_drewN ?_ _)))), (by simp; omega), ⟨(by simp [go_sem, *]), (by simp [go_sem, *])⟩, (by first | omega | (simp <;> omega)), ⟨(by simp [go_sem, *]), (by simp [go_sem, *]), (by simp [go_sem, *])⟩⟩
    exact AllReadyH.nil
  case rest =>
    obtain ⟨g, rfl, rfl, hB, hz, ⟨cg0, cg1⟩, hg, ⟨cr0, cr1, crf⟩⟩ := hcut
    by_cases hf : absI x * absI n < 340282366920938463463374607431768211456
    · have HM := mag_in (m := absI x * absI n) (Int.mul_nonneg (absI_nn x) (absI_nn n)) hf
      rw [fitM_t hf]
      rw [mod128_of HM] at cg0 cg1
      have HG := hide (scale_sgn x n)
      clear hf
      by_cases hw : WIn (x * n)
      · have HD := hide (decide_eq_true hw)
        have HV := hide (wrap128_of hw)
        have HR := hide (fitR_of hw)
        have HE2 := hide (fitE_of hw)
        clear hw
        go_wp2_with fail
        refine (rjoin_any _ _ HM _).mono ?_
        rintro e w3 ⟨rfl, hb⟩
        rw [HG.out, HD.out, HV.out]
        have q1B : Below w.heap.size w w3 := (by refine Below.trans ?_ (hb.mono (by first | omega | (simp <;> omega))); (repeat (first | (with_reducible exact Below.refl _ _) | (with_reducible assumption) | ((with_reducible refine Below.alloc ?_ ?_ _); (rotate_left); (first | omega | (simp <;> omega))) | ((with_reducible refine Below.setCell ?_ ?_ _); (rotate_left); (first | omega | (simp <;> omega))) | (with_reducible refine Below.drew ?_) | (with_reducible refine below_drewN ?_ _))))
        have q1z := hb.size
        try simp at q1z
        have q1t : w.heap.size ≤ w3.heap.size := (by omega)
        have q1s0 : w.heap.size + 1 < w3.heap.size := (by omega)
        have q1n0_0 : ¬ w3.heap.size = w.heap.size + 1 := (by omega)
        have q1n0_1 : ¬ w3.heap.size + 1 = w.heap.size + 1 := (by omega)
        have q1n0_2 : ¬ w3.heap.size + 2 = w.heap.size + 1 := (by omega)
        have q1c0_0 := hb.cell (p := ⟨w.heap.size + 1, 0, none⟩) (by first | omega | (simp <;> omega))
        simp [go_sem, *] at q1c0_0
        have q1c0_1 := hb.cell (p := ⟨w.heap.size + 1, 1, none⟩) (by first | omega | (simp <;> omega))
        simp [go_sem, *] at q1c0_1
        have q1f0 := fun o => hb.frozen (p := ⟨w.heap.size + 1, o, none⟩) (by first | omega | (simp <;> omega))
        simp [go_sem, *] at q1f0
        have q1o : ∀ b o, b < w.heap.size → w3.cell? ⟨b, o, none⟩ = w.cell? ⟨b, o, none⟩ := fun b o h => q1B.cell (p := ⟨b, o, none⟩) h
        clear hb
        go_wp2_with fail
        refine bodyPost_ret (by simp [results, Try.results30, go_sem, *] <;> rfl) rfl ⟨?_, ?_⟩
        · rw [HR.out, HE2.out]
        (repeat (first | (with_reducible exact Below.refl _ _) | (with_reducible assumption) | ((with_reducible refine Below.alloc ?_ ?_ _); (rotate_left); (first | omega | (simp <;> omega))) | ((with_reducible refine Below.setCell ?_ ?_ _); (rotate_left); (first | omega | (simp <;> omega))) | (with_reducible refine Below.drew ?_) | (with_reducible refine below_drewN ?_ _)))
      · have HD := hide (decide_eq_false hw)
        have HR := hide (fitR_not hw)
        have HE2 := hide (fitE_not hw)
        clear hw
        go_wp2_with fail
        refine (rjoin_any _ _ HM _).mono ?_
        rintro e w3 ⟨rfl, hb⟩
        rw [HG.out, HD.out]
        have q1B : Below w.heap.size w w3 := (by refine Below.trans ?_ (hb.mono (by first | omega | (simp <;> omega))); (repeat (first | (with_reducible exact Below.refl _ _) | (with_reducible assumption) | ((with_reducible refine Below.alloc ?_ ?_ _); (rotate_left); (first | omega | (simp <;> omega))) | ((with_reducible refine Below.setCell ?_ ?_ _); (rotate_left); (first | omega | (simp <;> omega))) | (with_reducible refine Below.drew ?_) | (with_reducible refine below_drewN ?_ _))))
        have q1z := hb.size
        try simp at q1z
        have q1t : w.heap.size ≤ w3.heap.size := (by omega)
        have q1s0 : w.heap.size + 1 < w3.heap.size := (by omega)
        have q1n0_0 : ¬ w3.heap.size = w.heap.size + 1 := (by omega)
        have q1n0_1 : ¬ w3.heap.size + 1 = w.heap.size + 1 := (by omega)
        have q1n0_2 : ¬ w3.heap.size + 2 = w.heap.size + 1 := (by omega)
        have q1c0_0 := hb.cell (p := ⟨w.heap.size + 1, 0, none⟩) (by first | omega | (simp <;> omega))
        simp [go_sem, *] at q1c0_0
        have q1c0_1 := hb.cell (p := ⟨w.heap.size + 1, 1, none⟩) (by first | omega | (simp <;> omega))
        simp [go_sem, *] at q1c0_1
        have q1f0 := fun o => hb.frozen (p := ⟨w.heap.size + 1, o, none⟩) (by first | omega | (simp <;> omega))
        simp [go_sem, *] at q1f0
        have q1o : ∀ b o, b < w.heap.size → w3.cell? ⟨b, o, none⟩ = w.cell? ⟨b, o, none⟩ := fun b o h => q1B.cell (p := ⟨b, o, none⟩) h
        clear hb
        go_wp2_with fail
        refine bodyPost_ret (by simp [results, Try.results30, go_sem, *] <;> rfl) rfl ⟨?_, ?_⟩
        · rw [HR.out, HE2.out]; rfl
        (repeat (first | (with_reducible exact Below.refl _ _) | (with_reducible assumption) | ((with_reducible refine Below.alloc ?_ ?_ _); (rotate_left); (first | omega | (simp <;> omega))) | ((with_reducible refine Below.setCell ?_ ?_ _); (rotate_left); (first | omega | (simp <;> omega))) | (with_reducible refine Below.drew ?_) | (with_reducible refine below_drewN ?_ _)))
    · rw [fitM_f hf]
      have HR := hide (fitR_not (scale_out hf))
      have HE2 := hide (fitE_not (scale_out hf))
      clear hf
      go_wp2_with fail
      refine (rjoin_any _ _ (mod128_in _) _).mono ?_
      rintro e w3 ⟨rfl, hb⟩
      have q1B : Below w.heap.size w w3 := (by refine Below.trans ?_ (hb.mono (by first | omega | (simp <;> omega))); (repeat (first | (with_reducible exact Below.refl _ _) | (with_reducible assumption) | ((with_reducible refine Below.alloc ?_ ?_ _); (rotate_left); (first | omega | (simp <;> omega))) | ((with_reducible refine Below.setCell ?_ ?_ _); (rotate_left); (first | omega | (simp <;> omega))) | (with_reducible refine Below.drew ?_) | (with_reducible refine below_drewN ?_ _))))
      have q1z := hb.size
      try simp at q1z
      have q1t : w.heap.size ≤ w3.heap.size := (by omega)
      have q1s0 : w.heap.size + 1 < w3.heap.size := (by omega)
      have q1n0_0 : ¬ w3.heap.size = w.heap.size + 1 := (by omega)
      have q1n0_1 : ¬ w3.heap.size + 1 = w.heap.size + 1 := (by omega)
      have q1n0_2 : ¬ w3.heap.size + 2 = w.heap.size + 1 := (by omega)
      have q1c0_0 := hb.cell (p := ⟨w.heap.size + 1, 0, none⟩) (by first | omega | (simp <;> omega))
      simp [go_sem, *] at q1c0_0
      have q1c0_1 := hb.cell (p := ⟨w.heap.size + 1, 1, none⟩) (by first | omega | (simp <;> omega))
      simp [go_sem, *] at q1c0_1
      have q1f0 := fun o => hb.frozen (p := ⟨w.heap.size + 1, o, none⟩) (by first | omega | (simp <;> omega))
      simp [go_sem, *] at q1f0
      have q1o : ∀ b o, b < w.heap.size → w3.cell? ⟨b, o, none⟩ = w.cell? ⟨b, o, none⟩ := fun b o h => q1B.cell (p := ⟨b, o, none⟩) h
      clear hb
      go_wp2_with fail
      refine bodyPost_ret (by simp [results, Try.results30, go_sem, *] <;> rfl) rfl ⟨?_, ?_⟩
      · rw [HR.out, HE2.out]; rfl
      (repeat (first | (with_reducible exact Below.refl _ _) | (with_reducible assumption) | ((with_reducible refine Below.alloc ?_ ?_ _); (rotate_left); (first | omega | (simp <;> omega))) | ((with_reducible refine Below.setCell ?_ ?_ _); (rotate_left); (first | omega | (simp <;> omega))) | (with_reducible refine Below.drew ?_) | (with_reducible refine below_drewN ?_ _)))
/-- Mul of the reference. -/
theorem rmul_any (a b : Int) (a1 : -9223372036854775808 ≤ a) (a2 : a ≤ 9223372036854775807) (b1 : -9223372036854775808 ≤ b) (b2 : b ≤ 9223372036854775807) (w : World) :
    Calls Try.prog 31 #[.int .i64 a, .int .i64 b] w fun e w' =>
      e = .returned (.agg #[.int .i64 (hiW (a * b)), .int .u64 (loW (a * b))]) ∧ Below w.heap.size w w' := by
  have HF := hide (fitR_of (mul_win a1 a2 b1 b2))
  go_enter Try.func31, Try.ntmps31
  go_wp2_with fail
  refine (rof_any a a1 a2 _).mono ?_
  rintro e w1 ⟨rfl, hb⟩
  have q1B : Below w.heap.size w w1 := (by refine Below.trans ?_ (hb.mono (by first | omega | (simp <;> omega))); (repeat (first | (with_reducible exact Below.refl _ _) | (with_reducible assumption) | ((with_reducible refine Below.alloc ?_ ?_ _); (rotate_left); (first | omega | (simp <;> omega))) | ((with_reducible refine Below.setCell ?_ ?_ _); (rotate_left); (first | omega | (simp <;> omega))) | (with_reducible refine Below.drew ?_) | (with_reducible refine below_drewN ?_ _))))
  have q1z := hb.size
  try simp at q1z
  have q1t : w.heap.size ≤ w1.heap.size := (by omega)
  have q1s0 : w.heap.size < w1.heap.size := (by omega)
  have q1n0_0 : ¬ w1.heap.size = w.heap.size := (by omega)
  have q1n0_1 : ¬ w1.heap.size + 1 = w.heap.size := (by omega)
  have q1n0_2 : ¬ w1.heap.size + 2 = w.heap.size := (by omega)
  have q1c0_0 := hb.cell (p := ⟨w.heap.size, 0, none⟩) (by first | omega | (simp <;> omega))
  simp [go_sem, *] at q1c0_0
  have q1c0_1 := hb.cell (p := ⟨w.heap.size, 1, none⟩) (by first | omega | (simp <;> omega))
  simp [go_sem, *] at q1c0_1
  have q1f0 := fun o => hb.frozen (p := ⟨w.heap.size, o, none⟩) (by first | omega | (simp <;> omega))
  simp [go_sem, *] at q1f0
  have q1o : ∀ b o, b < w.heap.size → w1.cell? ⟨b, o, none⟩ = w.cell? ⟨b, o, none⟩ := fun b o h => q1B.cell (p := ⟨b, o, none⟩) h
  clear hb
  go_wp2_with fail
  refine (rscale_any a b (int_win a1 a2) b1 b2 _).mono ?_
  rintro e w2 ⟨rfl, hb⟩
  rw [HF.out]
  have q2B : Below w.heap.size w w2 := (by refine Below.trans ?_ (hb.mono (by first | omega | (simp <;> omega))); (repeat (first | (with_reducible exact Below.refl _ _) | (with_reducible assumption) | ((with_reducible refine Below.alloc ?_ ?_ _); (rotate_left); (first | omega | (simp <;> omega))) | ((with_reducible refine Below.setCell ?_ ?_ _); (rotate_left); (first | omega | (simp <;> omega))) | (with_reducible refine Below.drew ?_) | (with_reducible refine below_drewN ?_ _))))
  have q2z := hb.size
  try simp at q2z
  have q2t : w.heap.size ≤ w2.heap.size := (by omega)
  have q2s0 : w.heap.size < w2.heap.size := (by omega)
  have q2n0_0 : ¬ w2.heap.size = w.heap.size := (by omega)
  have q2n0_1 : ¬ w2.heap.size + 1 = w.heap.size := (by omega)
  have q2n0_2 : ¬ w2.heap.size + 2 = w.heap.size := (by omega)
  have q2c0_0 := hb.cell (p := ⟨w.heap.size, 0, none⟩) (by first | omega | (simp <;> omega))
  simp [go_sem, *] at q2c0_0
  have q2c0_1 := hb.cell (p := ⟨w.heap.size, 1, none⟩) (by first | omega | (simp <;> omega))
  simp [go_sem, *] at q2c0_1
  have q2f0 := fun o => hb.frozen (p := ⟨w.heap.size, o, none⟩) (by first | omega | (simp <;> omega))
  simp [go_sem, *] at q2f0
  have q2o : ∀ b o, b < w.heap.size → w2.cell? ⟨b, o, none⟩ = w.cell? ⟨b, o, none⟩ := fun b o h => q2B.cell (p := ⟨b, o, none⟩) h
  clear hb q1o q1f0 q1c0_1 q1c0_0 q1s0 q1z q1B
  go_wp2_with fail
  refine bodyPost_ret (by simp [results, Try.results31, go_sem, *] <;> rfl) rfl ⟨?_, ?_⟩
  · rfl
  (repeat (first | (with_reducible exact Below.refl _ _) | (with_reducible assumption) | ((with_reducible refine Below.alloc ?_ ?_ _); (rotate_left); (first | omega | (simp <;> omega))) | ((with_reducible refine Below.setCell ?_ ?_ _); (rotate_left); (first | omega | (simp <;> omega))) | (with_reducible refine Below.drew ?_) | (with_reducible refine below_drewN ?_ _)))
end Go.Proofs.Ytjjclclianbnfaa
