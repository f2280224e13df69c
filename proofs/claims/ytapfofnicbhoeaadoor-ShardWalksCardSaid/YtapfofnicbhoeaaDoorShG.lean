/- Contracts of package shard and its reference, 7: Next and Check. -/
import Derived.Test.YtapfofnicbhoeaaDoorShF
namespace Go.Proofs.YtapfofnicbhoeaaDoor
open Go.RowKit

/-- Next answers a task. -/
def nxB (ac : Bool) (nx sh : Int) : Bool := ac && decide (0 ≤ nx ∧ nx < (tks sh).length)
def nxA (ac : Bool) (nx sh : Int) : Int := if nxB ac nx sh then fsts (tks sh) nx.toNat else 0
def nxS (ac : Bool) (nx sh : Int) : Int := if nxB ac nx sh then snds (tks sh) nx.toNat else 0
/-- What Check answers. -/
def chkR (ac : Bool) (nx sh rs : Int) : Int := if ac then (if nxB ac nx sh = true ∧ 0 ≤ rs then 0 else 1) else if nx = 0 ∧ sh = 0 ∧ rs = 0 then 0 else 1
theorem tks_len (N : Int) : (tks N).length ≤ 65 := by
  unfold tks
  split
  · rename_i h
    have := good8_iff.1 h
    rw [List.length_append, tkl_len, List.length_singleton]
    omega
  · simp
theorem nxB_yes {ac : Bool} {nx sh : Int} (h : nxB ac nx sh = true) : ac = true ∧ 0 ≤ nx ∧ nx < (tks sh).length := by
  unfold nxB at h; simpa using h
theorem nxB_no {ac : Bool} {nx sh : Int} (h : nxB ac nx sh = false) : ac = false ∨ (ac = true ∧ (nx < 0 ∨ ¬ nx < (tks sh).length)) := by
  unfold nxB at h
  cases ac with
  | false => exact .inl rfl
  | true =>
    right
    simp at h
    refine ⟨rfl, ?_⟩
    omega
theorem next_any (ac : Bool) (nx sh rs : Int) (w : World) :
    Calls Tryd.prog 16 #[.agg #[.bool ac, .int .i64 nx, .int .i64 sh, .int .i64 rs]] w fun e w' => e = .returned (.tuple #[.agg #[.int .i64 (nxA ac nx sh), .int .i64 (nxS ac nx sh)], .bool (nxB ac nx sh)]) ∧ Below w.heap.size w w' := by
  have hl := tks_len sh
  by_cases hok : nxB ac nx sh = true
  · obtain ⟨rfl, h0, h1⟩ := nxB_yes hok
    obtain ⟨k, rfl⟩ : ∃ k : Nat, nx = k := ⟨nx.toNat, by omega⟩
    have HB := hide hok
    have HA := hide (show nxA true (k : Int) sh = fsts (tks sh) k by unfold nxA; rw [if_pos hok, Int.toNat_natCast])
    have HS := hide (show nxS true (k : Int) sh = snds (tks sh) k by unfold nxS; rw [if_pos hok, Int.toNat_natCast])
    clear hok
    go_enter Tryd.func16, Tryd.ntmps16
    go_wp2_with fail
    refine (tasks_any sh _).mono ?_
    rintro e w1 ⟨A, c, rfl, hr, hb⟩
    obtain ⟨b, off, rfl, hbl, hc⟩ := hr (by omega)
    obtain ⟨c0, c1⟩ := hc k (by omega)
    clear hc
    have q1B : Below w.heap.size w w1 := (by refine Below.trans ?_ (hb.mono (by first | omega | (simp <;> omega))); (repeat (first | (with_reducible exact Below.refl _ _) | (with_reducible assumption) | ((with_reducible refine Below.alloc ?_ ?_ _); (rotate_left); (first | omega | (simp <;> omega))) | ((with_reducible refine Below.setCell ?_ ?_ _); (rotate_left); (first | omega | (simp <;> omega))) | (with_reducible refine Below.drew ?_) | (with_reducible refine below_drewN ?_ _))))
    have q1z := hb.size
    try simp at q1z
    have q1t : w.heap.size ≤ w1.heap.size := (by omega)
    have q1s0 : w.heap.size < w1.heap.size := (by omega)
    have q1n0_0 : ¬ w1.heap.size = w.heap.size := (by omega)
    have q1n0_1 : ¬ w1.heap.size + 1 = w.heap.size := (by omega)
    have q1n0_2 : ¬ w1.heap.size + 2 = w.heap.size := (by omega)
    have q1c0_0 := hb.cell (p := ⟨w.heap.size, 0, none⟩) (by first | omega | (simp <;> omega))
    simp [go_sem, *] at q1c0_0
    have q1c0_1 := hb.cell (p := ⟨w.heap.size, 1, none⟩) (by first | omega | (simp <;> omega))
    simp [go_sem, *] at q1c0_1
    have q1c0_2 := hb.cell (p := ⟨w.heap.size, 2, none⟩) (by first | omega | (simp <;> omega))
    simp [go_sem, *] at q1c0_2
    have q1c0_3 := hb.cell (p := ⟨w.heap.size, 3, none⟩) (by first | omega | (simp <;> omega))
    simp [go_sem, *] at q1c0_3
    have q1f0 := fun o => hb.frozen (p := ⟨w.heap.size, o, none⟩) (by first | omega | (simp <;> omega))
    simp [go_sem, *] at q1f0
    have q1s1 : w.heap.size + 1 < w1.heap.size := (by omega)
    have q1n1_0 : ¬ w1.heap.size = w.heap.size + 1 := (by omega)
    have q1n1_1 : ¬ w1.heap.size + 1 = w.heap.size + 1 := (by omega)
    have q1n1_2 : ¬ w1.heap.size + 2 = w.heap.size + 1 := (by omega)
    have q1c1_0 := hb.cell (p := ⟨w.heap.size + 1, 0, none⟩) (by first | omega | (simp <;> omega))
    simp [go_sem, *] at q1c1_0
    have q1c1_1 := hb.cell (p := ⟨w.heap.size + 1, 1, none⟩) (by first | omega | (simp <;> omega))
    simp [go_sem, *] at q1c1_1
    have q1f1 := fun o => hb.frozen (p := ⟨w.heap.size + 1, o, none⟩) (by first | omega | (simp <;> omega))
    simp [go_sem, *] at q1f1
    have q1o : ∀ b o, b < w.heap.size → w1.cell? ⟨b, o, none⟩ = w.cell? ⟨b, o, none⟩ := fun b o h => q1B.cell (p := ⟨b, o, none⟩) h
    clear hb
    go_wp2_with fail
    refine bodyPost_ret (by simp [results, Tryd.results16, go_sem, *] <;> rfl) rfl ⟨?_, ?_⟩
    · rw [HB.out, HA.out, HS.out]
    (repeat (first | (with_reducible exact Below.refl _ _) | (with_reducible assumption) | ((with_reducible refine Below.alloc ?_ ?_ _); (rotate_left); (first | omega | (simp <;> omega))) | ((with_reducible refine Below.setCell ?_ ?_ _); (rotate_left); (first | omega | (simp <;> omega))) | (with_reducible refine Below.drew ?_) | (with_reducible refine below_drewN ?_ _)))
  · have HB := hide (show nxB ac nx sh = false by simpa using hok)
    have HA := hide (show nxA ac nx sh = 0 by unfold nxA; rw [if_neg hok])
    have HS := hide (show nxS ac nx sh = 0 by unfold nxS; rw [if_neg hok])
    have hno := nxB_no (show nxB ac nx sh = false by simpa using hok)
    clear hok
    rcases hno with rfl | ⟨rfl, h | h⟩
    · go_enter Tryd.func16, Tryd.ntmps16
      go_wp2_with fail
      refine (tasks_any sh _).mono ?_
      rintro e w1 ⟨A, c, rfl, hr, hb⟩
      have q1B : Below w.heap.size w w1 := (by refine Below.trans ?_ (hb.mono (by first | omega | (simp <;> omega))); (repeat (first | (with_reducible exact Below.refl _ _) | (with_reducible assumption) | ((with_reducible refine Below.alloc ?_ ?_ _); (rotate_left); (first | omega | (simp <;> omega))) | ((with_reducible refine Below.setCell ?_ ?_ _); (rotate_left); (first | omega | (simp <;> omega))) | (with_reducible refine Below.drew ?_) | (with_reducible refine below_drewN ?_ _))))
      have q1z := hb.size
      try simp at q1z
      have q1t : w.heap.size ≤ w1.heap.size := (by omega)
      have q1s0 : w.heap.size < w1.heap.size := (by omega)
      have q1n0_0 : ¬ w1.heap.size = w.heap.size := (by omega)
      have q1n0_1 : ¬ w1.heap.size + 1 = w.heap.size := (by omega)
      have q1n0_2 : ¬ w1.heap.size + 2 = w.heap.size := (by omega)
      have q1c0_0 := hb.cell (p := ⟨w.heap.size, 0, none⟩) (by first | omega | (simp <;> omega))
      simp [go_sem, *] at q1c0_0
      have q1c0_1 := hb.cell (p := ⟨w.heap.size, 1, none⟩) (by first | omega | (simp <;> omega))
      simp [go_sem, *] at q1c0_1
      have q1c0_2 := hb.cell (p := ⟨w.heap.size, 2, none⟩) (by first | omega | (simp <;> omega))
      simp [go_sem, *] at q1c0_2
      have q1c0_3 := hb.cell (p := ⟨w.heap.size, 3, none⟩) (by first | omega | (simp <;> omega))
      simp [go_sem, *] at q1c0_3
      have q1f0 := fun o => hb.frozen (p := ⟨w.heap.size, o, none⟩) (by first | omega | (simp <;> omega))
      simp [go_sem, *] at q1f0
      have q1s1 : w.heap.size + 1 < w1.heap.size := (by omega)
      have q1n1_0 : ¬ w1.heap.size = w.heap.size + 1 := (by omega)
      have q1n1_1 : ¬ w1.heap.size + 1 = w.heap.size + 1 := (by omega)
      have q1n1_2 : ¬ w1.heap.size + 2 = w.heap.size + 1 := (by omega)
      have q1c1_0 := hb.cell (p := ⟨w.heap.size + 1, 0, none⟩) (by first | omega | (simp <;> omega))
      simp [go_sem, *] at q1c1_0
      have q1c1_1 := hb.cell (p := ⟨w.heap.size + 1, 1, none⟩) (by first | omega | (simp <;> omega))
      simp [go_sem, *] at q1c1_1
      have q1f1 := fun o => hb.frozen (p := ⟨w.heap.size + 1, o, none⟩) (by first | omega | (simp <;> omega))
      simp [go_sem, *] at q1f1
      have q1o : ∀ b o, b < w.heap.size → w1.cell? ⟨b, o, none⟩ = w.cell? ⟨b, o, none⟩ := fun b o h => q1B.cell (p := ⟨b, o, none⟩) h
      clear hb
      go_wp2_with fail
      refine bodyPost_ret (by simp [results, Tryd.results16, go_sem, *] <;> rfl) rfl ⟨?_, ?_⟩
      · rw [HB.out, HA.out, HS.out]
      (repeat (first | (with_reducible exact Below.refl _ _) | (with_reducible assumption) | ((with_reducible refine Below.alloc ?_ ?_ _); (rotate_left); (first | omega | (simp <;> omega))) | ((with_reducible refine Below.setCell ?_ ?_ _); (rotate_left); (first | omega | (simp <;> omega))) | (with_reducible refine Below.drew ?_) | (with_reducible refine below_drewN ?_ _)))
    · go_enter Tryd.func16, Tryd.ntmps16
      go_wp2_with fail
      refine (tasks_any sh _).mono ?_
      rintro e w1 ⟨A, c, rfl, hr, hb⟩
      have q1B : Below w.heap.size w w1 := (by refine Below.trans ?_ (hb.mono (by first | omega | (simp <;> omega))); (repeat (first | (with_reducible exact Below.refl _ _) | (with_reducible assumption) | ((with_reducible refine Below.alloc ?_ ?_ _); (rotate_left); (first | omega | (simp <;> omega))) | ((with_reducible refine Below.setCell ?_ ?_ _); (rotate_left); (first | omega | (simp <;> omega))) | (with_reducible refine Below.drew ?_) | (with_reducible refine below_drewN ?_ _))))
      have q1z := hb.size
      try simp at q1z
      have q1t : w.heap.size ≤ w1.heap.size := (by omega)
      have q1s0 : w.heap.size < w1.heap.size := (by omega)
      have q1n0_0 : ¬ w1.heap.size = w.heap.size := (by omega)
      have q1n0_1 : ¬ w1.heap.size + 1 = w.heap.size := (by omega)
      have q1n0_2 : ¬ w1.heap.size + 2 = w.heap.size := (by omega)
      have q1c0_0 := hb.cell (p := ⟨w.heap.size, 0, none⟩) (by first | omega | (simp <;> omega))
      simp [go_sem, *] at q1c0_0
      have q1c0_1 := hb.cell (p := ⟨w.heap.size, 1, none⟩) (by first | omega | (simp <;> omega))
      simp [go_sem, *] at q1c0_1
      have q1c0_2 := hb.cell (p := ⟨w.heap.size, 2, none⟩) (by first | omega | (simp <;> omega))
      simp [go_sem, *] at q1c0_2
      have q1c0_3 := hb.cell (p := ⟨w.heap.size, 3, none⟩) (by first | omega | (simp <;> omega))
      simp [go_sem, *] at q1c0_3
      have q1f0 := fun o => hb.frozen (p := ⟨w.heap.size, o, none⟩) (by first | omega | (simp <;> omega))
      simp [go_sem, *] at q1f0
      have q1s1 : w.heap.size + 1 < w1.heap.size := (by omega)
      have q1n1_0 : ¬ w1.heap.size = w.heap.size + 1 := (by omega)
      have q1n1_1 : ¬ w1.heap.size + 1 = w.heap.size + 1 := (by omega)
      have q1n1_2 : ¬ w1.heap.size + 2 = w.heap.size + 1 := (by omega)
      have q1c1_0 := hb.cell (p := ⟨w.heap.size + 1, 0, none⟩) (by first | omega | (simp <;> omega))
      simp [go_sem, *] at q1c1_0
      have q1c1_1 := hb.cell (p := ⟨w.heap.size + 1, 1, none⟩) (by first | omega | (simp <;> omega))
      simp [go_sem, *] at q1c1_1
      have q1f1 := fun o => hb.frozen (p := ⟨w.heap.size + 1, o, none⟩) (by first | omega | (simp <;> omega))
      simp [go_sem, *] at q1f1
      have q1o : ∀ b o, b < w.heap.size → w1.cell? ⟨b, o, none⟩ = w.cell? ⟨b, o, none⟩ := fun b o h => q1B.cell (p := ⟨b, o, none⟩) h
      clear hb
      go_wp2_with fail
      refine bodyPost_ret (by simp [results, Tryd.results16, go_sem, *] <;> rfl) rfl ⟨?_, ?_⟩
      · rw [HB.out, HA.out, HS.out]
      (repeat (first | (with_reducible exact Below.refl _ _) | (with_reducible assumption) | ((with_reducible refine Below.alloc ?_ ?_ _); (rotate_left); (first | omega | (simp <;> omega))) | ((with_reducible refine Below.setCell ?_ ?_ _); (rotate_left); (first | omega | (simp <;> omega))) | (with_reducible refine Below.drew ?_) | (with_reducible refine below_drewN ?_ _)))
    · go_enter Tryd.func16, Tryd.ntmps16
      go_wp2_with fail
      refine (tasks_any sh _).mono ?_
      rintro e w1 ⟨A, c, rfl, hr, hb⟩
      have q1B : Below w.heap.size w w1 := (by refine Below.trans ?_ (hb.mono (by first | omega | (simp <;> omega))); (repeat (first | (with_reducible exact Below.refl _ _) | (with_reducible assumption) | ((with_reducible refine Below.alloc ?_ ?_ _); (rotate_left); (first | omega | (simp <;> omega))) | ((with_reducible refine Below.setCell ?_ ?_ _); (rotate_left); (first | omega | (simp <;> omega))) | (with_reducible refine Below.drew ?_) | (with_reducible refine below_drewN ?_ _))))
      have q1z := hb.size
      try simp at q1z
      have q1t : w.heap.size ≤ w1.heap.size := (by omega)
      have q1s0 : w.heap.size < w1.heap.size := (by omega)
      have q1n0_0 : ¬ w1.heap.size = w.heap.size := (by omega)
      have q1n0_1 : ¬ w1.heap.size + 1 = w.heap.size := (by omega)
      have q1n0_2 : ¬ w1.heap.size + 2 = w.heap.size := (by omega)
      have q1c0_0 := hb.cell (p := ⟨w.heap.size, 0, none⟩) (by first | omega | (simp <;> omega))
      simp [go_sem, *] at q1c0_0
      have q1c0_1 := hb.cell (p := ⟨w.heap.size, 1, none⟩) (by first | omega | (simp <;> omega))
      simp [go_sem, *] at q1c0_1
      have q1c0_2 := hb.cell (p := ⟨w.heap.size, 2, none⟩) (by first | omega | (simp <;> omega))
      simp [go_sem, *] at q1c0_2
      have q1c0_3 := hb.cell (p := ⟨w.heap.size, 3, none⟩) (by first | omega | (simp <;> omega))
      simp [go_sem, *] at q1c0_3
      have q1f0 := fun o => hb.frozen (p := ⟨w.heap.size, o, none⟩) (by first | omega | (simp <;> omega))
      simp [go_sem, *] at q1f0
      have q1s1 : w.heap.size + 1 < w1.heap.size := (by omega)
      have q1n1_0 : ¬ w1.heap.size = w.heap.size + 1 := (by omega)
      have q1n1_1 : ¬ w1.heap.size + 1 = w.heap.size + 1 := (by omega)
      have q1n1_2 : ¬ w1.heap.size + 2 = w.heap.size + 1 := (by omega)
      have q1c1_0 := hb.cell (p := ⟨w.heap.size + 1, 0, none⟩) (by first | omega | (simp <;> omega))
      simp [go_sem, *] at q1c1_0
      have q1c1_1 := hb.cell (p := ⟨w.heap.size + 1, 1, none⟩) (by first | omega | (simp <;> omega))
      simp [go_sem, *] at q1c1_1
      have q1f1 := fun o => hb.frozen (p := ⟨w.heap.size + 1, o, none⟩) (by first | omega | (simp <;> omega))
      simp [go_sem, *] at q1f1
      have q1o : ∀ b o, b < w.heap.size → w1.cell? ⟨b, o, none⟩ = w.cell? ⟨b, o, none⟩ := fun b o h => q1B.cell (p := ⟨b, o, none⟩) h
      clear hb
      go_wp2_with fail
      all_goals first
        | (exfalso; omega)
        | (refine bodyPost_ret (by simp [results, Tryd.results16, go_sem, *] <;> rfl) rfl ⟨?_, ?_⟩; (· rw [HB.out, HA.out, HS.out]); (· (repeat (first | (with_reducible exact Below.refl _ _) | (with_reducible assumption) | ((with_reducible refine Below.alloc ?_ ?_ _); (rotate_left); (first | omega | (simp <;> omega))) | ((with_reducible refine Below.setCell ?_ ?_ _); (rotate_left); (first | omega | (simp <;> omega))) | (with_reducible refine Below.drew ?_) | (with_reducible refine below_drewN ?_ _)))))
theorem rnext_any (ac : Bool) (nx sh rs : Int) (w : World) :
    Calls Tryd.prog 17 #[.agg #[.bool ac, .int .i64 nx, .int .i64 sh, .int .i64 rs]] w fun e w' => e = .returned (.tuple #[.agg #[.int .i64 (nxA ac nx sh), .int .i64 (nxS ac nx sh)], .bool (nxB ac nx sh)]) ∧ Below w.heap.size w w' := by
  have hl := tks_len sh
  by_cases hok : nxB ac nx sh = true
  · obtain ⟨rfl, h0, h1⟩ := nxB_yes hok
    obtain ⟨k, rfl⟩ : ∃ k : Nat, nx = k := ⟨nx.toNat, by omega⟩
    have HB := hide hok
    have HA := hide (show nxA true (k : Int) sh = fsts (tks sh) k by unfold nxA; rw [if_pos hok, Int.toNat_natCast])
    have HS := hide (show nxS true (k : Int) sh = snds (tks sh) k by unfold nxS; rw [if_pos hok, Int.toNat_natCast])
    clear hok
    go_enter Tryd.func17, Tryd.ntmps17
    go_wp2_with fail
    refine (rtasks_any sh _).mono ?_
    rintro e w1 ⟨A, c, rfl, hr, hb⟩
    obtain ⟨b, off, rfl, hbl, hc⟩ := hr (by omega)
    obtain ⟨c0, c1⟩ := hc k (by omega)
    clear hc
    have q1B : Below w.heap.size w w1 := (by refine Below.trans ?_ (hb.mono (by first | omega | (simp <;> omega))); (repeat (first | (with_reducible exact Below.refl _ _) | (with_reducible assumption) | ((with_reducible refine Below.alloc ?_ ?_ _); (rotate_left); (first | omega | (simp <;> omega))) | ((with_reducible refine Below.setCell ?_ ?_ _); (rotate_left); (first | omega | (simp <;> omega))) | (with_reducible refine Below.drew ?_) | (with_reducible refine below_drewN ?_ _))))
    have q1z := hb.size
    try simp at q1z
    have q1t : w.heap.size ≤ w1.heap.size := (by omega)
    have q1s0 : w.heap.size < w1.heap.size := (by omega)
    have q1n0_0 : ¬ w1.heap.size = w.heap.size := (by omega)
    have q1n0_1 : ¬ w1.heap.size + 1 = w.heap.size := (by omega)
    have q1n0_2 : ¬ w1.heap.size + 2 = w.heap.size := (by omega)
    have q1c0_0 := hb.cell (p := ⟨w.heap.size, 0, none⟩) (by first | omega | (simp <;> omega))
    simp [go_sem, *] at q1c0_0
    have q1c0_1 := hb.cell (p := ⟨w.heap.size, 1, none⟩) (by first | omega | (simp <;> omega))
    simp [go_sem, *] at q1c0_1
    have q1c0_2 := hb.cell (p := ⟨w.heap.size, 2, none⟩) (by first | omega | (simp <;> omega))
    simp [go_sem, *] at q1c0_2
    have q1c0_3 := hb.cell (p := ⟨w.heap.size, 3, none⟩) (by first | omega | (simp <;> omega))
    simp [go_sem, *] at q1c0_3
    have q1f0 := fun o => hb.frozen (p := ⟨w.heap.size, o, none⟩) (by first | omega | (simp <;> omega))
    simp [go_sem, *] at q1f0
    have q1s1 : w.heap.size + 1 < w1.heap.size := (by omega)
    have q1n1_0 : ¬ w1.heap.size = w.heap.size + 1 := (by omega)
    have q1n1_1 : ¬ w1.heap.size + 1 = w.heap.size + 1 := (by omega)
    have q1n1_2 : ¬ w1.heap.size + 2 = w.heap.size + 1 := (by omega)
    have q1c1_0 := hb.cell (p := ⟨w.heap.size + 1, 0, none⟩) (by first | omega | (simp <;> omega))
    simp [go_sem, *] at q1c1_0
    have q1c1_1 := hb.cell (p := ⟨w.heap.size + 1, 1, none⟩) (by first | omega | (simp <;> omega))
    simp [go_sem, *] at q1c1_1
    have q1f1 := fun o => hb.frozen (p := ⟨w.heap.size + 1, o, none⟩) (by first | omega | (simp <;> omega))
    simp [go_sem, *] at q1f1
    have q1o : ∀ b o, b < w.heap.size → w1.cell? ⟨b, o, none⟩ = w.cell? ⟨b, o, none⟩ := fun b o h => q1B.cell (p := ⟨b, o, none⟩) h
    clear hb
    go_wp2_with fail
    refine bodyPost_ret (by simp [results, Tryd.results17, go_sem, *] <;> rfl) rfl ⟨?_, ?_⟩
    · rw [HB.out, HA.out, HS.out]
    (repeat (first | (with_reducible exact Below.refl _ _) | (with_reducible assumption) | ((with_reducible refine Below.alloc ?_ ?_ _); (rotate_left); (first | omega | (simp <;> omega))) | ((with_reducible refine Below.setCell ?_ ?_ _); (rotate_left); (first | omega | (simp <;> omega))) | (with_reducible refine Below.drew ?_) | (with_reducible refine below_drewN ?_ _)))
  · have HB := hide (show nxB ac nx sh = false by simpa using hok)
    have HA := hide (show nxA ac nx sh = 0 by unfold nxA; rw [if_neg hok])
    have HS := hide (show nxS ac nx sh = 0 by unfold nxS; rw [if_neg hok])
    have hno := nxB_no (show nxB ac nx sh = false by simpa using hok)
    clear hok
    rcases hno with rfl | ⟨rfl, h | h⟩
    · go_enter Tryd.func17, Tryd.ntmps17
      go_wp2_with fail
      refine (rtasks_any sh _).mono ?_
      rintro e w1 ⟨A, c, rfl, hr, hb⟩
      have q1B : Below w.heap.size w w1 := (by refine Below.trans ?_ (hb.mono (by first | omega | (simp <;> omega))); (repeat (first | (with_reducible exact Below.refl _ _) | (with_reducible assumption) | ((with_reducible refine Below.alloc ?_ ?_ _); (rotate_left); (first | omega | (simp <;> omega))) | ((with_reducible refine Below.setCell ?_ ?_ _); (rotate_left); (first | omega | (simp <;> omega))) | (with_reducible refine Below.drew ?_) | (with_reducible refine below_drewN ?_ _))))
      have q1z := hb.size
      try simp at q1z
      have q1t : w.heap.size ≤ w1.heap.size := (by omega)
      have q1s0 : w.heap.size < w1.heap.size := (by omega)
      have q1n0_0 : ¬ w1.heap.size = w.heap.size := (by omega)
      have q1n0_1 : ¬ w1.heap.size + 1 = w.heap.size := (by omega)
      have q1n0_2 : ¬ w1.heap.size + 2 = w.heap.size := (by omega)
      have q1c0_0 := hb.cell (p := ⟨w.heap.size, 0, none⟩) (by first | omega | (simp <;> omega))
      simp [go_sem, *] at q1c0_0
      have q1c0_1 := hb.cell (p := ⟨w.heap.size, 1, none⟩) (by first | omega | (simp <;> omega))
      simp [go_sem, *] at q1c0_1
      have q1c0_2 := hb.cell (p := ⟨w.heap.size, 2, none⟩) (by first | omega | (simp <;> omega))
      simp [go_sem, *] at q1c0_2
      have q1c0_3 := hb.cell (p := ⟨w.heap.size, 3, none⟩) (by first | omega | (simp <;> omega))
      simp [go_sem, *] at q1c0_3
      have q1f0 := fun o => hb.frozen (p := ⟨w.heap.size, o, none⟩) (by first | omega | (simp <;> omega))
      simp [go_sem, *] at q1f0
      have q1s1 : w.heap.size + 1 < w1.heap.size := (by omega)
      have q1n1_0 : ¬ w1.heap.size = w.heap.size + 1 := (by omega)
      have q1n1_1 : ¬ w1.heap.size + 1 = w.heap.size + 1 := (by omega)
      have q1n1_2 : ¬ w1.heap.size + 2 = w.heap.size + 1 := (by omega)
      have q1c1_0 := hb.cell (p := ⟨w.heap.size + 1, 0, none⟩) (by first | omega | (simp <;> omega))
      simp [go_sem, *] at q1c1_0
      have q1c1_1 := hb.cell (p := ⟨w.heap.size + 1, 1, none⟩) (by first | omega | (simp <;> omega))
      simp [go_sem, *] at q1c1_1
      have q1f1 := fun o => hb.frozen (p := ⟨w.heap.size + 1, o, none⟩) (by first | omega | (simp <;> omega))
      simp [go_sem, *] at q1f1
      have q1o : ∀ b o, b < w.heap.size → w1.cell? ⟨b, o, none⟩ = w.cell? ⟨b, o, none⟩ := fun b o h => q1B.cell (p := ⟨b, o, none⟩) h
      clear hb
      go_wp2_with fail
      refine bodyPost_ret (by simp [results, Tryd.results17, go_sem, *] <;> rfl) rfl ⟨?_, ?_⟩
      · rw [HB.out, HA.out, HS.out]
      (repeat (first | (with_reducible exact Below.refl _ _) | (with_reducible assumption) | ((with_reducible refine Below.alloc ?_ ?_ _); (rotate_left); (first | omega | (simp <;> omega))) | ((with_reducible refine Below.setCell ?_ ?_ _); (rotate_left); (first | omega | (simp <;> omega))) | (with_reducible refine Below.drew ?_) | (with_reducible refine below_drewN ?_ _)))
    · go_enter Tryd.func17, Tryd.ntmps17
      go_wp2_with fail
      refine (rtasks_any sh _).mono ?_
      rintro e w1 ⟨A, c, rfl, hr, hb⟩
      have q1B : Below w.heap.size w w1 := (by refine Below.trans ?_ (hb.mono (by first | omega | (simp <;> omega))); (repeat (first | (with_reducible exact Below.refl _ _) | (with_reducible assumption) | ((with_reducible refine Below.alloc ?_ ?_ _); (rotate_left); (first | omega | (simp <;> omega))) | ((with_reducible refine Below.setCell ?_ ?_ _); (rotate_left); (first | omega | (simp <;> omega))) | (with_reducible refine Below.drew ?_) | (with_reducible refine below_drewN ?_ _))))
      have q1z := hb.size
      try simp at q1z
      have q1t : w.heap.size ≤ w1.heap.size := (by omega)
      have q1s0 : w.heap.size < w1.heap.size := (by omega)
      have q1n0_0 : ¬ w1.heap.size = w.heap.size := (by omega)
      have q1n0_1 : ¬ w1.heap.size + 1 = w.heap.size := (by omega)
      have q1n0_2 : ¬ w1.heap.size + 2 = w.heap.size := (by omega)
      have q1c0_0 := hb.cell (p := ⟨w.heap.size, 0, none⟩) (by first | omega | (simp <;> omega))
      simp [go_sem, *] at q1c0_0
      have q1c0_1 := hb.cell (p := ⟨w.heap.size, 1, none⟩) (by first | omega | (simp <;> omega))
      simp [go_sem, *] at q1c0_1
      have q1c0_2 := hb.cell (p := ⟨w.heap.size, 2, none⟩) (by first | omega | (simp <;> omega))
      simp [go_sem, *] at q1c0_2
      have q1c0_3 := hb.cell (p := ⟨w.heap.size, 3, none⟩) (by first | omega | (simp <;> omega))
      simp [go_sem, *] at q1c0_3
      have q1f0 := fun o => hb.frozen (p := ⟨w.heap.size, o, none⟩) (by first | omega | (simp <;> omega))
      simp [go_sem, *] at q1f0
      have q1s1 : w.heap.size + 1 < w1.heap.size := (by omega)
      have q1n1_0 : ¬ w1.heap.size = w.heap.size + 1 := (by omega)
      have q1n1_1 : ¬ w1.heap.size + 1 = w.heap.size + 1 := (by omega)
      have q1n1_2 : ¬ w1.heap.size + 2 = w.heap.size + 1 := (by omega)
      have q1c1_0 := hb.cell (p := ⟨w.heap.size + 1, 0, none⟩) (by first | omega | (simp <;> omega))
      simp [go_sem, *] at q1c1_0
      have q1c1_1 := hb.cell (p := ⟨w.heap.size + 1, 1, none⟩) (by first | omega | (simp <;> omega))
      simp [go_sem, *] at q1c1_1
      have q1f1 := fun o => hb.frozen (p := ⟨w.heap.size + 1, o, none⟩) (by first | omega | (simp <;> omega))
      simp [go_sem, *] at q1f1
      have q1o : ∀ b o, b < w.heap.size → w1.cell? ⟨b, o, none⟩ = w.cell? ⟨b, o, none⟩ := fun b o h => q1B.cell (p := ⟨b, o, none⟩) h
      clear hb
      go_wp2_with fail
      refine bodyPost_ret (by simp [results, Tryd.results17, go_sem, *] <;> rfl) rfl ⟨?_, ?_⟩
      · rw [HB.out, HA.out, HS.out]
      (repeat (first | (with_reducible exact Below.refl _ _) | (with_reducible assumption) | ((with_reducible refine Below.alloc ?_ ?_ _); (rotate_left); (first | omega | (simp <;> omega))) | ((with_reducible refine Below.setCell ?_ ?_ _); (rotate_left); (first | omega | (simp <;> omega))) | (with_reducible refine Below.drew ?_) | (with_reducible refine below_drewN ?_ _)))
    · go_enter Tryd.func17, Tryd.ntmps17
      go_wp2_with fail
      refine (rtasks_any sh _).mono ?_
      rintro e w1 ⟨A, c, rfl, hr, hb⟩
      have q1B : Below w.heap.size w w1 := (by refine Below.trans ?_ (hb.mono (by first | omega | (simp <;> omega))); (repeat (first | (with_reducible exact Below.refl _ _) | (with_reducible assumption) | ((with_reducible refine Below.alloc ?_ ?_ _); (rotate_left); (first | omega | (simp <;> omega))) | ((with_reducible refine Below.setCell ?_ ?_ _); (rotate_left); (first | omega | (simp <;> omega))) | (with_reducible refine Below.drew ?_) | (with_reducible refine below_drewN ?_ _))))
      have q1z := hb.size
      try simp at q1z
      have q1t : w.heap.size ≤ w1.heap.size := (by omega)
      have q1s0 : w.heap.size < w1.heap.size := (by omega)
      have q1n0_0 : ¬ w1.heap.size = w.heap.size := (by omega)
      have q1n0_1 : ¬ w1.heap.size + 1 = w.heap.size := (by omega)
      have q1n0_2 : ¬ w1.heap.size + 2 = w.heap.size := (by omega)
      have q1c0_0 := hb.cell (p := ⟨w.heap.size, 0, none⟩) (by first | omega | (simp <;> omega))
      simp [go_sem, *] at q1c0_0
      have q1c0_1 := hb.cell (p := ⟨w.heap.size, 1, none⟩) (by first | omega | (simp <;> omega))
      simp [go_sem, *] at q1c0_1
      have q1c0_2 := hb.cell (p := ⟨w.heap.size, 2, none⟩) (by first | omega | (simp <;> omega))
      simp [go_sem, *] at q1c0_2
      have q1c0_3 := hb.cell (p := ⟨w.heap.size, 3, none⟩) (by first | omega | (simp <;> omega))
      simp [go_sem, *] at q1c0_3
      have q1f0 := fun o => hb.frozen (p := ⟨w.heap.size, o, none⟩) (by first | omega | (simp <;> omega))
      simp [go_sem, *] at q1f0
      have q1s1 : w.heap.size + 1 < w1.heap.size := (by omega)
      have q1n1_0 : ¬ w1.heap.size = w.heap.size + 1 := (by omega)
      have q1n1_1 : ¬ w1.heap.size + 1 = w.heap.size + 1 := (by omega)
      have q1n1_2 : ¬ w1.heap.size + 2 = w.heap.size + 1 := (by omega)
      have q1c1_0 := hb.cell (p := ⟨w.heap.size + 1, 0, none⟩) (by first | omega | (simp <;> omega))
      simp [go_sem, *] at q1c1_0
      have q1c1_1 := hb.cell (p := ⟨w.heap.size + 1, 1, none⟩) (by first | omega | (simp <;> omega))
      simp [go_sem, *] at q1c1_1
      have q1f1 := fun o => hb.frozen (p := ⟨w.heap.size + 1, o, none⟩) (by first | omega | (simp <;> omega))
      simp [go_sem, *] at q1f1
      have q1o : ∀ b o, b < w.heap.size → w1.cell? ⟨b, o, none⟩ = w.cell? ⟨b, o, none⟩ := fun b o h => q1B.cell (p := ⟨b, o, none⟩) h
      clear hb
      go_wp2_with fail
      all_goals first
        | (exfalso; omega)
        | (refine bodyPost_ret (by simp [results, Tryd.results17, go_sem, *] <;> rfl) rfl ⟨?_, ?_⟩; (· rw [HB.out, HA.out, HS.out]); (· (repeat (first | (with_reducible exact Below.refl _ _) | (with_reducible assumption) | ((with_reducible refine Below.alloc ?_ ?_ _); (rotate_left); (first | omega | (simp <;> omega))) | ((with_reducible refine Below.setCell ?_ ?_ _); (rotate_left); (first | omega | (simp <;> omega))) | (with_reducible refine Below.drew ?_) | (with_reducible refine below_drewN ?_ _)))))
end Go.Proofs.YtapfofnicbhoeaaDoor
