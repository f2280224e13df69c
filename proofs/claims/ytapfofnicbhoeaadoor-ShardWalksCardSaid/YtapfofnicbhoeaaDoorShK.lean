/- The walks of the Shard laws: counting over all tasks. -/
import Derived.Test.YtapfofnicbhoeaaDoorShJ
namespace Go.Proofs.YtapfofnicbhoeaaDoor
open Go.RowKit

theorem fst_at {N i : Nat} (h : good8 (N : Int) = true) (hi : i < 8 * N) : fsts (tks N) i = 1 + ((i / N : Nat) : Int) ∧ snds (tks N) i = ((i % N : Nat) : Int) := by
  unfold fsts snds
  rw [tks_good h]
  have e : (tkl N (8 * N) ++ [(9, 0)]).getD i (0, 0) = (1 + ((i / N : Nat) : Int), ((i % N : Nat) : Int)) := by
    rw [List.getD_eq_getElem?_getD, List.getElem?_append_left (by rw [tkl_len]; exact hi)]
    simp [tkl, hi]
  rw [e]
  exact ⟨rfl, rfl⟩
theorem fst_last {N : Nat} (h : good8 (N : Int) = true) : fsts (tks N) (8 * N) = 9 ∧ snds (tks N) (8 * N) = 0 := by
  unfold fsts snds
  rw [tks_good h]
  have e : (tkl N (8 * N) ++ [(9, 0)]).getD (8 * N) (0, 0) = (9, 0) := by
    rw [List.getD_eq_getElem?_getD, List.getElem?_append_right (by rw [tkl_len]; exact Nat.le_refl _), tkl_len]
    simp
  rw [e]
  exact ⟨rfl, rfl⟩
/-- The last task before round i. -/
def lsA (N i : Nat) : Int := if i = 0 then 0 else fsts (tks N) (i - 1)
def lsS (N i : Nat) : Int := if i = 0 then 0 else snds (tks N) (i - 1)
theorem lsA_succ (N i : Nat) : lsA N (i + 1) = fsts (tks N) i := by unfold lsA; rw [if_neg (by omega)]; rfl
theorem lsS_succ (N i : Nat) : lsS N (i + 1) = snds (tks N) i := by unfold lsS; rw [if_neg (by omega)]; rfl
theorem tks_len_good {N : Nat} (h : good8 (N : Int) = true) : (tks N).length = 8 * N + 1 := by
  rw [tks_good h, List.length_append, tkl_len]; rfl
/-- What the law asks of round i. -/
theorem wk_round {N i : Nat} (h : good8 (N : Int) = true) (hi : i ≤ 8 * N) : 0 ≤ snds (tks N) i ∧ snds (tks N) i < N ∧ (0 < i → lsA N i ≤ fsts (tks N) i ∧ (fsts (tks N) i = lsA N i → lsS N i < snds (tks N) i)) := by
  have hN := good8_iff.1 h
  rcases Nat.lt_or_ge i (8 * N) with h1 | h1
  · obtain ⟨e1, e2⟩ := fst_at h h1
    have m1 := Nat.mod_lt i (show 0 < N by omega)
    refine ⟨by rw [e2]; omega, by rw [e2]; omega, fun h0 => ?_⟩
    obtain ⟨k, rfl⟩ : ∃ k, i = k + 1 := ⟨i - 1, by omega⟩
    rw [lsA_succ, lsS_succ]
    obtain ⟨e3, e4⟩ := fst_at h (show k < 8 * N by omega)
    rw [e1, e2, e3, e4]
    have d1 : k / N ≤ (k + 1) / N := Nat.div_le_div_right (by omega)
    refine ⟨by omega, fun he => ?_⟩
    have he2 : (k + 1) / N = k / N := by omega
    have a1 := Nat.div_add_mod k N
    have a2 := Nat.div_add_mod (k + 1) N
    rw [he2] at a2
    generalize N * (k / N) = z at a1 a2
    omega
  · obtain rfl : i = 8 * N := by omega
    obtain ⟨e1, e2⟩ := fst_last h
    refine ⟨by rw [e2]; exact Int.le_refl _, by rw [e2]; omega, fun h0 => ?_⟩
    obtain ⟨k, hk⟩ : ∃ k, 8 * N = k + 1 := ⟨8 * N - 1, by omega⟩
    obtain ⟨e3, e4⟩ := fst_at h (show k < 8 * N by omega)
    have e5 : lsA N (8 * N) = 1 + ((k / N : Nat) : Int) := by rw [hk, lsA_succ, e3]
    rw [e1, e5]
    have d2 : k / N < 8 := Nat.div_lt_of_lt_mul (by rw [Nat.mul_comm]; omega)
    exact ⟨by omega, fun he => by omega⟩
def WkInv (N : Nat) (rs : Int) (w : World) (v : Value) (wr : World) : Prop :=
  ∃ i : Nat, i ≤ 8 * N + 1 ∧ v = .int .i64 i ∧ Below w.heap.size w wr ∧ w.heap.size + 1 < wr.heap.size ∧
    (wr.cell? ⟨w.heap.size, 0, none⟩ = some (.bool true) ∧ (∃ x : Int, wr.cell? ⟨w.heap.size, 1, none⟩ = some (.int .i64 x)) ∧ wr.cell? ⟨w.heap.size, 2, none⟩ = some (.int .i64 N) ∧ wr.cell? ⟨w.heap.size, 3, none⟩ = some (.int .i64 rs) ∧ ∀ o, wr.frozen? ⟨w.heap.size, o, none⟩ = false) ∧
    (wr.cell? ⟨w.heap.size + 1, 0, none⟩ = some (.int .i64 (lsA N i)) ∧ wr.cell? ⟨w.heap.size + 1, 1, none⟩ = some (.int .i64 (lsS N i)) ∧ ∀ o, wr.frozen? ⟨w.heap.size + 1, o, none⟩ = false)
set_option maxHeartbeats 1000000 in
theorem walk_walks (s rs : Nat) (hs : s ≤ 255) (hrs : rs ≤ 255) (w : World) (ht : Tab w) :
    Calls Tryd.prog 7 #[.int .u8 s, .int .u8 rs] w fun e w' => e = .returned (.bool true) ∧ Below w.heap.size w w' := by
  obtain ⟨N, hN⟩ : ∃ N : Nat, N = 1 + s % 8 := ⟨_, rfl⟩
  have hg : good8 (N : Int) = true := good8_iff.2 (by omega)
  have HN := hide hN
  have hN1 : 1 ≤ N := by omega
  have hN2 : N ≤ 8 := by omega
  have HG := hide hg
  clear hN hg
  go_enter Tryd.func7, Tryd.ntmps7
  go_wp2_with fail
  rw [show (1 + (s : Int) % 8) = (N : Int) by have := HN.out; omega]
  go_loopw [8] (fun v wr => WkInv N rs w v wr) (fun v _ => 8 * N + 1 - (intOf v).toNat)
  case atStart => exact ⟨0, by omega, rfl, by (repeat (first | (with_reducible exact Below.refl _ _) | (with_reducible assumption) | ((with_reducible refine Below.alloc ?_ ?_ _); (rotate_left); (first | omega | (simp <;> omega))) | ((with_reducible refine Below.setCell ?_ ?_ _); (rotate_left); (first | omega | (simp <;> omega))) | (with_reducible refine Below.drew ?_) | (with_reducible refine below_drewN ?_ _))), by simp, ⟨by simp [go_sem], ⟨0, by simp [go_sem]⟩, by simp [go_sem], by simp [go_sem], by simp [go_sem]⟩, ⟨by simp [go_sem, lsA], by simp [go_sem, lsS], by simp [go_sem]⟩⟩
  case round =>
    obtain ⟨i, hi, rfl, hB, hz, ⟨r0, ⟨x, r1⟩, r2, r3, rf⟩, l0, l1, lf⟩ := hrel
    by_cases hlt : i < 8 * N + 1
    · have hm1 : (i : Int) < 8 * N + 1 := by omega
      obtain ⟨k1, k2, k3⟩ := wk_round HG.out (show i ≤ 8 * N by omega)
      have hok : nxB true i N = true := by unfold nxB; rw [tks_len_good HG.out]; simp; omega
      have HA := hide (show nxA true (i : Int) N = fsts (tks N) i by unfold nxA; rw [if_pos hok, Int.toNat_natCast])
      have HS := hide (show nxS true (i : Int) N = snds (tks N) i by unfold nxS; rw [if_pos hok, Int.toNat_natCast])
      have HB := hide hok
      have HC := hide (chkR_ok (rs := (rs : Int)) hok (by omega))
      have HL := hide (lsA_succ N i)
      have HM := hide (lsS_succ N i)
      have hw1 : w.heap.size + 1 < wr.heap.size := hz
      clear hok
      go_wp2_with fail
      refine (next_any true i N rs _).mono ?_
      rintro e w1 ⟨rfl, hb⟩
      rw [HA.out, HS.out, HB.out]
      have q1B : Below w.heap.size w w1 := (by refine Below.trans ?_ (hb.mono (by first | omega | (simp <;> omega))); (repeat (first | (with_reducible exact Below.refl _ _) | (with_reducible assumption) | ((with_reducible refine Below.alloc ?_ ?_ _); (rotate_left); (first | omega | (simp <;> omega))) | ((with_reducible refine Below.setCell ?_ ?_ _); (rotate_left); (first | omega | (simp <;> omega))) | (with_reducible refine Below.drew ?_) | (with_reducible refine below_drewN ?_ _))))
      have q1z := hb.size
      try simp at q1z
      have q1t : w.heap.size ≤ w1.heap.size := (by omega)
      have q1s0 : w.heap.size < w1.heap.size := (by omega)
      have q1n0_0 : ¬ w1.heap.size = w.heap.size := (by omega)
      have q1n0_1 : ¬ w1.heap.size + 1 = w.heap.size := (by omega)
      have q1n0_2 : ¬ w1.heap.size + 2 = w.heap.size := (by omega)
      have q1c0_0 := hb.cell (p := ⟨w.heap.size, 0, none⟩) (by first | omega | (simp <;> omega))
      simp [go_sem, *] at q1c0_0
      have q1c0_1 := hb.cell (p := ⟨w.heap.size, 1, none⟩) (by first | omega | (simp <;> omega))
      simp [go_sem, *] at q1c0_1
      have q1c0_2 := hb.cell (p := ⟨w.heap.size, 2, none⟩) (by first | omega | (simp <;> omega))
      simp [go_sem, *] at q1c0_2
      have q1c0_3 := hb.cell (p := ⟨w.heap.size, 3, none⟩) (by first | omega | (simp <;> omega))
      simp [go_sem, *] at q1c0_3
      have q1f0 := fun o => hb.frozen (p := ⟨w.heap.size, o, none⟩) (by first | omega | (simp <;> omega))
      simp [go_sem, *] at q1f0
      have q1s1 : w.heap.size + 1 < w1.heap.size := (by omega)
      have q1n1_0 : ¬ w1.heap.size = w.heap.size + 1 := (by omega)
      have q1n1_1 : ¬ w1.heap.size + 1 = w.heap.size + 1 := (by omega)
      have q1n1_2 : ¬ w1.heap.size + 2 = w.heap.size + 1 := (by omega)
      have q1c1_0 := hb.cell (p := ⟨w.heap.size + 1, 0, none⟩) (by first | omega | (simp <;> omega))
      simp [go_sem, *] at q1c1_0
      have q1c1_1 := hb.cell (p := ⟨w.heap.size + 1, 1, none⟩) (by first | omega | (simp <;> omega))
      simp [go_sem, *] at q1c1_1
      have q1f1 := fun o => hb.frozen (p := ⟨w.heap.size + 1, o, none⟩) (by first | omega | (simp <;> omega))
      simp [go_sem, *] at q1f1
      have q1o : ∀ b o, b < w.heap.size → w1.cell? ⟨b, o, none⟩ = w.cell? ⟨b, o, none⟩ := fun b o h => q1B.cell (p := ⟨b, o, none⟩) h
      clear hb
      go_wp2_with fail
      refine (check_any true i N rs _).mono ?_
      rintro e w2 ⟨rfl, hb⟩
      rw [HC.out]
      have q2B : Below w.heap.size w w2 := (by refine Below.trans ?_ (hb.mono (by first | omega | (simp <;> omega))); (repeat (first | (with_reducible exact Below.refl _ _) | (with_reducible assumption) | ((with_reducible refine Below.alloc ?_ ?_ _); (rotate_left); (first | omega | (simp <;> omega))) | ((with_reducible refine Below.setCell ?_ ?_ _); (rotate_left); (first | omega | (simp <;> omega))) | (with_reducible refine Below.drew ?_) | (with_reducible refine below_drewN ?_ _))))
      have q2z := hb.size
      try simp at q2z
      have q2t : w.heap.size ≤ w2.heap.size := (by omega)
      have q2s0 : w.heap.size < w2.heap.size := (by omega)
      have q2n0_0 : ¬ w2.heap.size = w.heap.size := (by omega)
      have q2n0_1 : ¬ w2.heap.size + 1 = w.heap.size := (by omega)
      have q2n0_2 : ¬ w2.heap.size + 2 = w.heap.size := (by omega)
      have q2c0_0 := hb.cell (p := ⟨w.heap.size, 0, none⟩) (by first | omega | (simp <;> omega))
      simp [go_sem, *] at q2c0_0
      have q2c0_1 := hb.cell (p := ⟨w.heap.size, 1, none⟩) (by first | omega | (simp <;> omega))
      simp [go_sem, *] at q2c0_1
      have q2c0_2 := hb.cell (p := ⟨w.heap.size, 2, none⟩) (by first | omega | (simp <;> omega))
      simp [go_sem, *] at q2c0_2
      have q2c0_3 := hb.cell (p := ⟨w.heap.size, 3, none⟩) (by first | omega | (simp <;> omega))
      simp [go_sem, *] at q2c0_3
      have q2f0 := fun o => hb.frozen (p := ⟨w.heap.size, o, none⟩) (by first | omega | (simp <;> omega))
      simp [go_sem, *] at q2f0
      have q2s1 : w.heap.size + 1 < w2.heap.size := (by omega)
      have q2n1_0 : ¬ w2.heap.size = w.heap.size + 1 := (by omega)
      have q2n1_1 : ¬ w2.heap.size + 1 = w.heap.size + 1 := (by omega)
      have q2n1_2 : ¬ w2.heap.size + 2 = w.heap.size + 1 := (by omega)
      have q2c1_0 := hb.cell (p := ⟨w.heap.size + 1, 0, none⟩) (by first | omega | (simp <;> omega))
      simp [go_sem, *] at q2c1_0
      have q2c1_1 := hb.cell (p := ⟨w.heap.size + 1, 1, none⟩) (by first | omega | (simp <;> omega))
      simp [go_sem, *] at q2c1_1
      have q2f1 := fun o => hb.frozen (p := ⟨w.heap.size + 1, o, none⟩) (by first | omega | (simp <;> omega))
      simp [go_sem, *] at q2f1
      have q2s2 : w1.heap.size < w2.heap.size := (by omega)
      have q2n2_0 : ¬ w2.heap.size = w1.heap.size := (by omega)
      have q2n2_1 : ¬ w2.heap.size + 1 = w1.heap.size := (by omega)
      have q2n2_2 : ¬ w2.heap.size + 2 = w1.heap.size := (by omega)
      have q2c2_0 := hb.cell (p := ⟨w1.heap.size, 0, none⟩) (by first | omega | (simp <;> omega))
      simp [go_sem, *] at q2c2_0
      have q2c2_1 := hb.cell (p := ⟨w1.heap.size, 1, none⟩) (by first | omega | (simp <;> omega))
      simp [go_sem, *] at q2c2_1
      have q2f2 := fun o => hb.frozen (p := ⟨w1.heap.size, o, none⟩) (by first | omega | (simp <;> omega))
      simp [go_sem, *] at q2f2
      have q2o : ∀ b o, b < w.heap.size → w2.cell? ⟨b, o, none⟩ = w.cell? ⟨b, o, none⟩ := fun b o h => q2B.cell (p := ⟨b, o, none⟩) h
      clear hb q1o q1f1 q1c1_1 q1c1_0 q1s1 q1f0 q1c0_3 q1c0_2 q1c0_1 q1c0_0 q1s0 q1z q1B
      by_cases h0 : 0 < i
      · obtain ⟨k4, k5⟩ := k3 h0
        have hm2 : (0 : Int) < i := by omega
        have hm3 : ¬ fsts (tks N) i < lsA N i := by omega
        clear k3
        by_cases he : fsts (tks N) i = lsA N i
        · have hm4 : (fsts (tks N) i == lsA N i) = true := beq_iff_eq.2 he
          have hm5 : ¬ snds (tks N) i ≤ lsS N i := by have := k5 he; omega
          clear he k5
          go_wp2_with fail
          go_roundw
          case rel => exact ⟨i + 1, by omega, by go_num, by (repeat (first | (with_reducible exact Below.refl _ _) | (with_reducible assumption) | ((with_reducible refine Below.alloc ?_ ?_ _); (rotate_left); (first | omega | (simp <;> omega))) | ((with_reducible refine Below.setCell ?_ ?_ _); (rotate_left); (first | omega | (simp <;> omega))) | (with_reducible refine Below.drew ?_) | (with_reducible refine below_drewN ?_ _))), by simp; omega, ⟨by simp [go_sem, *], ⟨i, by simp [go_sem, *]⟩, by simp [go_sem, *], by simp [go_sem, *], by simp [go_sem, *]⟩, ⟨by rw [HL.out]; simp [go_sem, *], by rw [HM.out]; simp [go_sem, *], by simp [go_sem, *]⟩⟩
          case measure => simp [intOf]; omega
        · have hm4 : (fsts (tks N) i == lsA N i) = false := beq_eq_false_iff_ne.2 he
          clear he k5
          go_wp2_with fail
          go_roundw
          case rel => exact ⟨i + 1, by omega, by go_num, by (repeat (first | (with_reducible exact Below.refl _ _) | (with_reducible assumption) | ((with_reducible refine Below.alloc ?_ ?_ _); (rotate_left); (first | omega | (simp <;> omega))) | ((with_reducible refine Below.setCell ?_ ?_ _); (rotate_left); (first | omega | (simp <;> omega))) | (with_reducible refine Below.drew ?_) | (with_reducible refine below_drewN ?_ _))), by simp; omega, ⟨by simp [go_sem, *], ⟨i, by simp [go_sem, *]⟩, by simp [go_sem, *], by simp [go_sem, *], by simp [go_sem, *]⟩, ⟨by rw [HL.out]; simp [go_sem, *], by rw [HM.out]; simp [go_sem, *], by simp [go_sem, *]⟩⟩
          case measure => simp [intOf]; omega
      · obtain rfl : i = 0 := by omega
        clear k3
        go_wp2_with fail
        go_roundw
        case rel => exact ⟨0 + 1, by omega, by go_num, by (repeat (first | (with_reducible exact Below.refl _ _) | (with_reducible assumption) | ((with_reducible refine Below.alloc ?_ ?_ _); (rotate_left); (first | omega | (simp <;> omega))) | ((with_reducible refine Below.setCell ?_ ?_ _); (rotate_left); (first | omega | (simp <;> omega))) | (with_reducible refine Below.drew ?_) | (with_reducible refine below_drewN ?_ _))), by simp; omega, ⟨by simp [go_sem, *], ⟨0, by simp [go_sem, *]⟩, by simp [go_sem, *], by simp [go_sem, *], by simp [go_sem, *]⟩, ⟨by rw [HL.out]; simp [go_sem, *], by rw [HM.out]; simp [go_sem, *], by simp [go_sem, *]⟩⟩
        case measure => simp [intOf]
    · obtain rfl : i = 8 * N + 1 := by omega
      have hA := fst_last HG.out
      have hl := lsA_succ N (8 * N)
      have hm := lsS_succ N (8 * N)
      rw [hl, hA.1] at l0
      rw [hm, hA.2] at l1
      have hbad : nxB true ((8 * (N : Int) + 1)) N = false := by unfold nxB; rw [tks_len_good HG.out]; simp
      have HA2 := hide (show nxA true (8 * (N : Int) + 1) N = 0 by unfold nxA; rw [hbad]; rfl)
      have HS2 := hide (show nxS true (8 * (N : Int) + 1) N = 0 by unfold nxS; rw [hbad]; rfl)
      have HB2 := hide hbad
      have HC2 := hide (chkR_bad (nx := 8 * (N : Int) + 1) (sh := N) (rs := rs) (fun h => by rw [hbad] at h; cases h))
      clear hA hl hm hbad
      go_wp2_with fail
      refine (next_any true (8 * N + 1) N rs _).mono ?_
      rintro e w1 ⟨rfl, hb⟩
      rw [HA2.out, HS2.out, HB2.out]
      have q1B : Below w.heap.size w w1 := (by refine Below.trans ?_ (hb.mono (by first | omega | (simp <;> omega))); (repeat (first | (with_reducible exact Below.refl _ _) | (with_reducible assumption) | ((with_reducible refine Below.alloc ?_ ?_ _); (rotate_left); (first | omega | (simp <;> omega))) | ((with_reducible refine Below.setCell ?_ ?_ _); (rotate_left); (first | omega | (simp <;> omega))) | (with_reducible refine Below.drew ?_) | (with_reducible refine below_drewN ?_ _))))
      have q1z := hb.size
      try simp at q1z
      have q1t : w.heap.size ≤ w1.heap.size := (by omega)
      have q1s0 : w.heap.size < w1.heap.size := (by omega)
      have q1n0_0 : ¬ w1.heap.size = w.heap.size := (by omega)
      have q1n0_1 : ¬ w1.heap.size + 1 = w.heap.size := (by omega)
      have q1n0_2 : ¬ w1.heap.size + 2 = w.heap.size := (by omega)
      have q1c0_0 := hb.cell (p := ⟨w.heap.size, 0, none⟩) (by first | omega | (simp <;> omega))
      simp [go_sem, *] at q1c0_0
      have q1c0_1 := hb.cell (p := ⟨w.heap.size, 1, none⟩) (by first | omega | (simp <;> omega))
      simp [go_sem, *] at q1c0_1
      have q1c0_2 := hb.cell (p := ⟨w.heap.size, 2, none⟩) (by first | omega | (simp <;> omega))
      simp [go_sem, *] at q1c0_2
      have q1c0_3 := hb.cell (p := ⟨w.heap.size, 3, none⟩) (by first | omega | (simp <;> omega))
      simp [go_sem, *] at q1c0_3
      have q1f0 := fun o => hb.frozen (p := ⟨w.heap.size, o, none⟩) (by first | omega | (simp <;> omega))
      simp [go_sem, *] at q1f0
      have q1s1 : w.heap.size + 1 < w1.heap.size := (by omega)
      have q1n1_0 : ¬ w1.heap.size = w.heap.size + 1 := (by omega)
      have q1n1_1 : ¬ w1.heap.size + 1 = w.heap.size + 1 := (by omega)
      have q1n1_2 : ¬ w1.heap.size + 2 = w.heap.size + 1 := (by omega)
      have q1c1_0 := hb.cell (p := ⟨w.heap.size + 1, 0, none⟩) (by first | omega | (simp <;> omega))
      simp [go_sem, *] at q1c1_0
      have q1c1_1 := hb.cell (p := ⟨w.heap.size + 1, 1, none⟩) (by first | omega | (simp <;> omega))
      simp [go_sem, *] at q1c1_1
      have q1f1 := fun o => hb.frozen (p := ⟨w.heap.size + 1, o, none⟩) (by first | omega | (simp <;> omega))
      simp [go_sem, *] at q1f1
      have q1o : ∀ b o, b < w.heap.size → w1.cell? ⟨b, o, none⟩ = w.cell? ⟨b, o, none⟩ := fun b o h => q1B.cell (p := ⟨b, o, none⟩) h
      clear hb
      go_wp2_with fail
      refine (check_any true (8 * N + 1) N rs _).mono ?_
      rintro e w2 ⟨rfl, hb⟩
      rw [HC2.out]
      have q2B : Below w.heap.size w w2 := (by refine Below.trans ?_ (hb.mono (by first | omega | (simp <;> omega))); (repeat (first | (with_reducible exact Below.refl _ _) | (with_reducible assumption) | ((with_reducible refine Below.alloc ?_ ?_ _); (rotate_left); (first | omega | (simp <;> omega))) | ((with_reducible refine Below.setCell ?_ ?_ _); (rotate_left); (first | omega | (simp <;> omega))) | (with_reducible refine Below.drew ?_) | (with_reducible refine below_drewN ?_ _))))
      have q2z := hb.size
      try simp at q2z
      have q2t : w.heap.size ≤ w2.heap.size := (by omega)
      have q2s0 : w.heap.size < w2.heap.size := (by omega)
      have q2n0_0 : ¬ w2.heap.size = w.heap.size := (by omega)
      have q2n0_1 : ¬ w2.heap.size + 1 = w.heap.size := (by omega)
      have q2n0_2 : ¬ w2.heap.size + 2 = w.heap.size := (by omega)
      have q2c0_0 := hb.cell (p := ⟨w.heap.size, 0, none⟩) (by first | omega | (simp <;> omega))
      simp [go_sem, *] at q2c0_0
      have q2c0_1 := hb.cell (p := ⟨w.heap.size, 1, none⟩) (by first | omega | (simp <;> omega))
      simp [go_sem, *] at q2c0_1
      have q2c0_2 := hb.cell (p := ⟨w.heap.size, 2, none⟩) (by first | omega | (simp <;> omega))
      simp [go_sem, *] at q2c0_2
      have q2c0_3 := hb.cell (p := ⟨w.heap.size, 3, none⟩) (by first | omega | (simp <;> omega))
      simp [go_sem, *] at q2c0_3
      have q2f0 := fun o => hb.frozen (p := ⟨w.heap.size, o, none⟩) (by first | omega | (simp <;> omega))
      simp [go_sem, *] at q2f0
      have q2s1 : w.heap.size + 1 < w2.heap.size := (by omega)
      have q2n1_0 : ¬ w2.heap.size = w.heap.size + 1 := (by omega)
      have q2n1_1 : ¬ w2.heap.size + 1 = w.heap.size + 1 := (by omega)
      have q2n1_2 : ¬ w2.heap.size + 2 = w.heap.size + 1 := (by omega)
      have q2c1_0 := hb.cell (p := ⟨w.heap.size + 1, 0, none⟩) (by first | omega | (simp <;> omega))
      simp [go_sem, *] at q2c1_0
      have q2c1_1 := hb.cell (p := ⟨w.heap.size + 1, 1, none⟩) (by first | omega | (simp <;> omega))
      simp [go_sem, *] at q2c1_1
      have q2f1 := fun o => hb.frozen (p := ⟨w.heap.size + 1, o, none⟩) (by first | omega | (simp <;> omega))
      simp [go_sem, *] at q2f1
      have q2o : ∀ b o, b < w.heap.size → w2.cell? ⟨b, o, none⟩ = w.cell? ⟨b, o, none⟩ := fun b o h => q2B.cell (p := ⟨b, o, none⟩) h
      clear hb q1o q1f1 q1c1_1 q1c1_0 q1s1 q1f0 q1c0_3 q1c0_2 q1c0_1 q1c0_0 q1s0 q1z q1B
      go_wp2_with fail
      refine (live_any _ (ht.below q2B)).mono ?_
      rintro e w3 ⟨rfl, hb⟩
      go_wp2_with fail
      go_ret
      exact ⟨rfl, q2B.trans (hb.mono q2B.size)⟩
end Go.Proofs.YtapfofnicbhoeaaDoor
