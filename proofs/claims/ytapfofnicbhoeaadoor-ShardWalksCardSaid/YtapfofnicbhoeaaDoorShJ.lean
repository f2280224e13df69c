/- The walks of the Shard laws: numbers, lists, tasks. -/
import Derived.Test.YtapfofnicbhoeaaDoorShI
namespace Go.Proofs.YtapfofnicbhoeaaDoor
open Go.RowKit

theorem walk_numbers (id n : Int) (i1 : -9223372036854775808 ≤ id) (i2 : id ≤ 9223372036854775807) (w : World) (ht : Tab w) :
    Calls Tryd.prog 3 #[.int .i64 id, .int .i64 n] w fun e w' => e = .returned (.bool true) ∧ Below w.heap.size w w' := by
  go_enter Tryd.func3, Tryd.ntmps3
  go_wp2_with fail
  refine (of_any id n i1 i2 _ ht).mono ?_
  rintro e w1 ⟨rfl, hb1⟩
  go_wp2_with fail
  refine (rof_any id n i1 i2 _).mono ?_
  rintro e w2 ⟨rfl, hb2⟩
  have hb12 := hb1.trans (hb2.mono hb1.size)
  go_wp2_with fail
  refine (live_any _ (ht.below hb12)).mono ?_
  rintro e w3 ⟨rfl, hb3⟩
  go_wp2_with fail
  go_ret
  exact ⟨rfl, hb12.trans (hb3.mono hb12.size)⟩
theorem shs_le (N : Int) : shs N ≤ 8 := by
  unfold shs
  split
  · rename_i h; have := good8_iff.1 h; omega
  · omega
/-- A count of rounds; the world beside it only draws. -/
def CtInv (M : Nat) (w : World) (v : Value) (wr : World) : Prop := ∃ k : Nat, k ≤ M ∧ v = .int .i64 k ∧ Below w.heap.size w wr
set_option maxHeartbeats 1000000 in
theorem walk_lists (A : Option Addr) (n c : Nat) (f : Nat → Int) (hI : ∀ k, k < n → IIn (f k)) (N : Int) (w : World) (hr : RowI w A n f) (ht : Tab w) :
    Calls Tryd.prog 4 #[.slice A n c, .int .i64 N] w fun e w' => e = .returned (.bool true) ∧ Below w.heap.size w w' := by
  by_cases hn : 100 < n
  · have hm : (100 : Int) < n := by omega
    go_enter Tryd.func4, Tryd.ntmps4
    go_wp2_with fail
    refine (live_any _ ht).mono ?_
    rintro e w1 ⟨rfl, hb⟩
    go_wp2_with fail
    go_ret
    exact ⟨rfl, hb⟩
  · have hm : ¬ (100 : Int) < n := by omega
    go_enter Tryd.func4, Tryd.ntmps4
    go_wp2_with fail
    refine (split_any A n c f (by omega) hI N _ hr ht).mono ?_
    rintro e w1 ⟨A1, c1, rfl, hr1, hb1⟩
    go_wp2_with fail
    refine (rsplit_any A n c f (by omega) hI N _ (hr.below hb1)).mono ?_
    rintro e w2 ⟨A2, c2, rfl, hr2, hb2⟩
    have hr3 := hr1.below hb2
    clear hr1
    have hb12 := hb1.trans (hb2.mono hb1.size)
    have hs8 := shs_le N
    go_wp2_with fail
    go_loopw [7] (fun v wr => CtInv (shs N) w2 v wr) (fun v _ => shs N - (intOf v).toNat)
    case atStart => exact ⟨0, by omega, rfl, Below.refl _ _⟩
    case round =>
      obtain ⟨k, hk, rfl, hB⟩ := hrel
      obtain ⟨wo, rfl⟩ : ∃ wo, wo = wr := ⟨wr, rfl⟩
      by_cases hlt : k < shs N
      · have hm1 : (k : Int) < shs N := by omega
        have hlen := bk_len f N n k
        obtain ⟨b1, o1, rfl, l1, h1⟩ := hr3.below hB (by omega)
        obtain ⟨B1, d1, e1, q1⟩ := h1 k hlt
        obtain ⟨b2, o2, rfl, l2, h2⟩ := hr2.below hB (by omega)
        obtain ⟨B2, d2, e2, q2⟩ := h2 k hlt
        clear h1 h2
        go_wp2_with fail
        refine wp_region_seq (SB (wo.heap.size) [] _) [true, true, true, true, true, true, true, true, true, true, true] (by kernel_rfl) (by kernel_rfl) rfl (by kernel_rfl) (fun _ _ d _ _ h => by cases d <;> exact h) SB.refl.drew (fun hHeld => ?_)
        refine seq_take ?_ (by rfl) (fun wx hSx => ?_) ?_
        rotate_left
        · (unfold SB at hSx; go_simp; (try with_reducible rfl))
        (try simp only [Act.put, List.setIfInBounds_toArray, List.set_cons_zero, List.set_cons_succ])
        refine seq_take ?_ (by rfl) (fun wx hSx => ?_) ?_
        rotate_left
        · (unfold SB at hSx; go_simp; (try with_reducible rfl))
        (try simp only [Act.put, List.setIfInBounds_toArray, List.set_cons_zero, List.set_cons_succ])
        refine seq_take ?_ (by rfl) (fun wx hSx => ?_) ?_
        rotate_left
        · (unfold SB at hSx; go_simp; (try with_reducible rfl))
        (try simp only [Act.put, List.setIfInBounds_toArray, List.set_cons_zero, List.set_cons_succ])
        refine seq_take ?_ (by rfl) (fun wx hSx => ?_) ?_
        rotate_left
        · (unfold SB at hSx; go_simp; (try with_reducible rfl))
        (try simp only [Act.put, List.setIfInBounds_toArray, List.set_cons_zero, List.set_cons_succ])
        refine seq_take ?_ (by rfl) (fun wx hSx => ?_) ?_
        rotate_left
        · (unfold SB at hSx; go_simp; (try with_reducible rfl))
        (try simp only [Act.put, List.setIfInBounds_toArray, List.set_cons_zero, List.set_cons_succ])
        refine seq_take ?_ (by rfl) (fun wx hSx => ?_) ?_
        rotate_left
        · (unfold SB at hSx; go_simp; (try with_reducible rfl))
        (try simp only [Act.put, List.setIfInBounds_toArray, List.set_cons_zero, List.set_cons_succ])
        refine seq_take ?_ (by rfl) (fun wx hSx => ?_) ?_
        rotate_left
        · (unfold SB at hSx; go_simp; (try with_reducible rfl))
        (try simp only [Act.put, List.setIfInBounds_toArray, List.set_cons_zero, List.set_cons_succ])
        refine seq_take ?_ (by rfl) (fun wx hSx => ?_) ?_
        rotate_left
        · (unfold SB at hSx; go_simp; (try with_reducible rfl))
        (try simp only [Act.put, List.setIfInBounds_toArray, List.set_cons_zero, List.set_cons_succ])
        refine seq_take ?_ (by rfl) (fun wx hSx => ?_) ?_
        rotate_left
        · (unfold SB at hSx; go_simp; (try with_reducible rfl))
        (try simp only [Act.put, List.setIfInBounds_toArray, List.set_cons_zero, List.set_cons_succ])
        refine seq_take ?_ (by rfl) (fun wx hSx => ?_) ?_
        rotate_left
        · (unfold SB at hSx; go_simp; (try with_reducible rfl))
        (try simp only [Act.put, List.setIfInBounds_toArray, List.set_cons_zero, List.set_cons_succ])
        refine seq_take ?_ (by rfl) (fun wx hSx => ?_) ?_
        rotate_left
        · (unfold SB at hSx; go_simp; (try with_reducible rfl))
        (try simp only [Act.put, List.setIfInBounds_toArray, List.set_cons_zero, List.set_cons_succ])
        refine seq_end ?_
        go_wp2_with fail
        go_loopw [8] (fun v wi => CtInv (bk f N n k).length w2 v wi) (fun v _ => (bk f N n k).length - (intOf v).toNat)
        case atStart => exact ⟨0, by omega, rfl, hB.drew⟩
        case round =>
          obtain ⟨i, hi, rfl, hBi⟩ := hrel
          obtain ⟨b1', o1', e', l1, h1⟩ := hr3.below hBi (by omega)
          obtain ⟨rfl, rfl⟩ : b1 = b1' ∧ o1 = o1' := by simpa using e'
          clear e'
          obtain ⟨B1, d1, e1, q1⟩ := h1 k hlt
          obtain ⟨b2', o2', e', l2, h2⟩ := hr2.below hBi (by omega)
          obtain ⟨rfl, rfl⟩ : b2 = b2' ∧ o2 = o2' := by simpa using e'
          obtain ⟨B2, d2, e2, q2⟩ := h2 k hlt
          clear e' h1 h2
          by_cases hlt2 : i < (bk f N n k).length
          · have hm2 : (i : Int) < (bk f N n k).length := by omega
            obtain ⟨g1, p1, rfl, j1, h1⟩ := q1 (by omega)
            have x1 := h1 i hlt2
            obtain ⟨g2, p2, rfl, j2, h2⟩ := q2 (by omega)
            have x2 := h2 i hlt2
            clear h1 h2
            go_wp2_with fail
            refine wp_region_seq (SB (wr.heap.size) [] _) [true, true, true, true, true, true, true, true, true, true, true, true, true, true, true] (by kernel_rfl) (by kernel_rfl) rfl (by kernel_rfl) (fun _ _ d _ _ h => by cases d <;> exact h) SB.refl.drew (fun hHeld => ?_)
            refine seq_take ?_ (by rfl) (fun wx hSx => ?_) ?_
            rotate_left
            · (unfold SB at hSx; go_simp; (try with_reducible rfl))
            (try simp only [Act.put, List.setIfInBounds_toArray, List.set_cons_zero, List.set_cons_succ])
            refine seq_take ?_ (by rfl) (fun wx hSx => ?_) ?_
            rotate_left
            · (unfold SB at hSx; go_simp; (try with_reducible rfl))
            (try simp only [Act.put, List.setIfInBounds_toArray, List.set_cons_zero, List.set_cons_succ])
            refine seq_take ?_ (by rfl) (fun wx hSx => ?_) ?_
            rotate_left
            · (unfold SB at hSx; go_simp; (try with_reducible rfl))
            (try simp only [Act.put, List.setIfInBounds_toArray, List.set_cons_zero, List.set_cons_succ])
            refine seq_take ?_ (by rfl) (fun wx hSx => ?_) ?_
            rotate_left
            · (unfold SB at hSx; go_simp; (try with_reducible rfl))
            (try simp only [Act.put, List.setIfInBounds_toArray, List.set_cons_zero, List.set_cons_succ])
            refine seq_take ?_ (by rfl) (fun wx hSx => ?_) ?_
            rotate_left
            · (unfold SB at hSx; go_simp; (try with_reducible rfl))
            (try simp only [Act.put, List.setIfInBounds_toArray, List.set_cons_zero, List.set_cons_succ])
            refine seq_take ?_ (by rfl) (fun wx hSx => ?_) ?_
            rotate_left
            · (unfold SB at hSx; go_simp; (try with_reducible rfl))
            (try simp only [Act.put, List.setIfInBounds_toArray, List.set_cons_zero, List.set_cons_succ])
            refine seq_take ?_ (by rfl) (fun wx hSx => ?_) ?_
            rotate_left
            · (unfold SB at hSx; go_simp; (try with_reducible rfl))
            (try simp only [Act.put, List.setIfInBounds_toArray, List.set_cons_zero, List.set_cons_succ])
            refine seq_take ?_ (by rfl) (fun wx hSx => ?_) ?_
            rotate_left
            · (unfold SB at hSx; go_simp; (try with_reducible rfl))
            (try simp only [Act.put, List.setIfInBounds_toArray, List.set_cons_zero, List.set_cons_succ])
            refine seq_take ?_ (by rfl) (fun wx hSx => ?_) ?_
            rotate_left
            · (unfold SB at hSx; go_simp; (try with_reducible rfl))
            (try simp only [Act.put, List.setIfInBounds_toArray, List.set_cons_zero, List.set_cons_succ])
            refine seq_take ?_ (by rfl) (fun wx hSx => ?_) ?_
            rotate_left
            · (unfold SB at hSx; go_simp; (try with_reducible rfl))
            (try simp only [Act.put, List.setIfInBounds_toArray, List.set_cons_zero, List.set_cons_succ])
            refine seq_take ?_ (by rfl) (fun wx hSx => ?_) ?_
            rotate_left
            · (unfold SB at hSx; go_simp; (try with_reducible rfl))
            (try simp only [Act.put, List.setIfInBounds_toArray, List.set_cons_zero, List.set_cons_succ])
            refine seq_take ?_ (by rfl) (fun wx hSx => ?_) ?_
            rotate_left
            · (unfold SB at hSx; go_simp; (try with_reducible rfl))
            (try simp only [Act.put, List.setIfInBounds_toArray, List.set_cons_zero, List.set_cons_succ])
            refine seq_take ?_ (by rfl) (fun wx hSx => ?_) ?_
            rotate_left
            · (unfold SB at hSx; go_simp; (try with_reducible rfl))
            (try simp only [Act.put, List.setIfInBounds_toArray, List.set_cons_zero, List.set_cons_succ])
            refine seq_take ?_ (by rfl) (fun wx hSx => ?_) ?_
            rotate_left
            · (unfold SB at hSx; go_simp; (try with_reducible rfl))
            (try simp only [Act.put, List.setIfInBounds_toArray, List.set_cons_zero, List.set_cons_succ])
            refine seq_take ?_ (by rfl) (fun wx hSx => ?_) ?_
            rotate_left
            · (unfold SB at hSx; go_simp; (try with_reducible rfl))
            (try simp only [Act.put, List.setIfInBounds_toArray, List.set_cons_zero, List.set_cons_succ])
            refine seq_end ?_
            go_wp2_with fail
            go_roundw
            case rel => exact ⟨i + 1, by omega, by go_num, hBi.drew⟩
            case measure => simp [intOf]; omega
          · have hm2 : ¬ (i : Int) < (bk f N n k).length := by omega
            go_wp2_with fail
            go_roundw
            case rel => exact ⟨k + 1, by omega, by go_num, hBi⟩
            case measure => simp [intOf]; omega
      · have hm1 : ¬ (k : Int) < shs N := by omega
        have hb3 := hb12.trans (hB.mono hb12.size)
        go_wp2_with fail
        refine (live_any _ (ht.below hb3)).mono ?_
        rintro e w3 ⟨rfl, hb⟩
        go_wp2_with fail
        go_ret
        exact ⟨rfl, hb3.trans (hb.mono hb3.size)⟩
def TaskInv (M : Nat) (w : World) (v : Value) (wr : World) : Prop := ∃ k : Nat, k ≤ M ∧ v = .int .i64 k ∧ Below w.heap.size w wr
set_option maxHeartbeats 1000000 in
theorem walk_tasks (ac : Bool) (nx sh rs : Int) (N : Int) (w : World) (ht : Tab w) :
    Calls Tryd.prog 6 #[.agg #[.bool ac, .int .i64 nx, .int .i64 sh, .int .i64 rs], .int .i64 N] w fun e w' => e = .returned (.bool true) ∧ Below w.heap.size w w' := by
  have hl := tks_len N
  go_enter Tryd.func6, Tryd.ntmps6
  go_wp2_with fail
  refine (tasks_any N _).mono ?_
  rintro e w1 ⟨A1, c1, rfl, hr1, hb⟩
  have q1B : Below w.heap.size w w1 := (by refine Below.trans ?_ (hb.mono (by first | omega | (simp <;> omega))); (repeat (first | (with_reducible exact Below.refl _ _) | (with_reducible assumption) | ((with_reducible refine Below.alloc ?_ ?_ _); (rotate_left); (first | omega | (simp <;> omega))) | ((with_reducible refine Below.setCell ?_ ?_ _); (rotate_left); (first | omega | (simp <;> omega))) | (with_reducible refine Below.drew ?_) | (with_reducible refine below_drewN ?_ _))))
  have q1z := hb.size
  try simp at q1z
  have q1t : w.heap.size ≤ w1.heap.size := (by omega)
  have q1s0 : w.heap.size < w1.heap.size := (by omega)
  have q1n0_0 : ¬ w1.heap.size = w.heap.size := (by omega)
  have q1n0_1 : ¬ w1.heap.size + 1 = w.heap.size := (by omega)
  have q1n0_2 : ¬ w1.heap.size + 2 = w.heap.size := (by omega)
  have q1c0_0 := hb.cell (p := ⟨w.heap.size, 0, none⟩) (by first | omega | (simp <;> omega))
  simp [go_sem, *] at q1c0_0
  have q1c0_1 := hb.cell (p := ⟨w.heap.size, 1, none⟩) (by first | omega | (simp <;> omega))
  simp [go_sem, *] at q1c0_1
  have q1c0_2 := hb.cell (p := ⟨w.heap.size, 2, none⟩) (by first | omega | (simp <;> omega))
  simp [go_sem, *] at q1c0_2
  have q1c0_3 := hb.cell (p := ⟨w.heap.size, 3, none⟩) (by first | omega | (simp <;> omega))
  simp [go_sem, *] at q1c0_3
  have q1f0 := fun o => hb.frozen (p := ⟨w.heap.size, o, none⟩) (by first | omega | (simp <;> omega))
  simp [go_sem, *] at q1f0
  have q1o : ∀ b o, b < w.heap.size → w1.cell? ⟨b, o, none⟩ = w.cell? ⟨b, o, none⟩ := fun b o h => q1B.cell (p := ⟨b, o, none⟩) h
  clear hb
  go_wp2_with fail
  refine (rtasks_any N _).mono ?_
  rintro e w2 ⟨A2, c2, rfl, hr2, hb⟩
  have hr3 := hr1.below hb
  clear hr1
  have q2B : Below w.heap.size w w2 := (by refine Below.trans ?_ (hb.mono (by first | omega | (simp <;> omega))); (repeat (first | (with_reducible exact Below.refl _ _) | (with_reducible assumption) | ((with_reducible refine Below.alloc ?_ ?_ _); (rotate_left); (first | omega | (simp <;> omega))) | ((with_reducible refine Below.setCell ?_ ?_ _); (rotate_left); (first | omega | (simp <;> omega))) | (with_reducible refine Below.drew ?_) | (with_reducible refine below_drewN ?_ _))))
  have q2z := hb.size
  try simp at q2z
  have q2t : w.heap.size ≤ w2.heap.size := (by omega)
  have q2s0 : w.heap.size < w2.heap.size := (by omega)
  have q2n0_0 : ¬ w2.heap.size = w.heap.size := (by omega)
  have q2n0_1 : ¬ w2.heap.size + 1 = w.heap.size := (by omega)
  have q2n0_2 : ¬ w2.heap.size + 2 = w.heap.size := (by omega)
  have q2c0_0 := hb.cell (p := ⟨w.heap.size, 0, none⟩) (by first | omega | (simp <;> omega))
  simp [go_sem, *] at q2c0_0
  have q2c0_1 := hb.cell (p := ⟨w.heap.size, 1, none⟩) (by first | omega | (simp <;> omega))
  simp [go_sem, *] at q2c0_1
  have q2c0_2 := hb.cell (p := ⟨w.heap.size, 2, none⟩) (by first | omega | (simp <;> omega))
  simp [go_sem, *] at q2c0_2
  have q2c0_3 := hb.cell (p := ⟨w.heap.size, 3, none⟩) (by first | omega | (simp <;> omega))
  simp [go_sem, *] at q2c0_3
  have q2f0 := fun o => hb.frozen (p := ⟨w.heap.size, o, none⟩) (by first | omega | (simp <;> omega))
  simp [go_sem, *] at q2f0
  have q2o : ∀ b o, b < w.heap.size → w2.cell? ⟨b, o, none⟩ = w.cell? ⟨b, o, none⟩ := fun b o h => q2B.cell (p := ⟨b, o, none⟩) h
  clear hb q1o q1f0 q1c0_3 q1c0_2 q1c0_1 q1c0_0 q1s0 q1z q1B
  go_wp2_with fail
  go_loopw [7] (fun v wr => CtInv (tks N).length w2 v wr) (fun v _ => (tks N).length - (intOf v).toNat)
  case atStart => exact ⟨0, by omega, rfl, Below.refl _ _⟩
  case round =>
    obtain ⟨k, hk, rfl, hB⟩ := hrel
    by_cases hlt : k < (tks N).length
    · have hm1 : (k : Int) < (tks N).length := by omega
      obtain ⟨b1, o1, rfl, l1, h1⟩ := hr3.below hB (by omega)
      obtain ⟨x1, y1⟩ := h1 k hlt
      obtain ⟨b2, o2, rfl, l2, h2⟩ := hr2.below hB (by omega)
      obtain ⟨x2, y2⟩ := h2 k hlt
      clear h1 h2
      go_wp2_with fail
      refine wp_region_seq (SB (wr.heap.size) [] _) [true, true, true, true, true, true, true, true, true] (by kernel_rfl) (by kernel_rfl) rfl (by kernel_rfl) (fun _ _ d _ _ h => by cases d <;> exact h) SB.refl.drew (fun hHeld => ?_)
      refine seq_take ?_ (by rfl) (fun wx hSx => ?_) ?_
      rotate_left
      · (unfold SB at hSx; go_simp; (try with_reducible rfl))
      (try simp only [Act.put, List.setIfInBounds_toArray, List.set_cons_zero, List.set_cons_succ])
      refine seq_take ?_ (by rfl) (fun wx hSx => ?_) ?_
      rotate_left
      · (unfold SB at hSx; go_simp; (try with_reducible rfl))
      (try simp only [Act.put, List.setIfInBounds_toArray, List.set_cons_zero, List.set_cons_succ])
      refine seq_take ?_ (by rfl) (fun wx hSx => ?_) ?_
      rotate_left
      · (unfold SB at hSx; go_simp; (try with_reducible rfl))
      (try simp only [Act.put, List.setIfInBounds_toArray, List.set_cons_zero, List.set_cons_succ])
      refine seq_take ?_ (by rfl) (fun wx hSx => ?_) ?_
      rotate_left
      · (unfold SB at hSx; go_simp; (try with_reducible rfl))
      (try simp only [Act.put, List.setIfInBounds_toArray, List.set_cons_zero, List.set_cons_succ])
      refine seq_take ?_ (by rfl) (fun wx hSx => ?_) ?_
      rotate_left
      · (unfold SB at hSx; go_simp; (try with_reducible rfl))
      (try simp only [Act.put, List.setIfInBounds_toArray, List.set_cons_zero, List.set_cons_succ])
      refine seq_take ?_ (by rfl) (fun wx hSx => ?_) ?_
      rotate_left
      · (unfold SB at hSx; go_simp; (try with_reducible rfl))
      (try simp only [Act.put, List.setIfInBounds_toArray, List.set_cons_zero, List.set_cons_succ])
      refine seq_take ?_ (by rfl) (fun wx hSx => ?_) ?_
      rotate_left
      · (unfold SB at hSx; go_simp; (try with_reducible rfl))
      (try simp only [Act.put, List.setIfInBounds_toArray, List.set_cons_zero, List.set_cons_succ])
      refine seq_take ?_ (by rfl) (fun wx hSx => ?_) ?_
      rotate_left
      · (unfold SB at hSx; go_simp; (try with_reducible rfl))
      (try simp only [Act.put, List.setIfInBounds_toArray, List.set_cons_zero, List.set_cons_succ])
      refine seq_take ?_ (by rfl) (fun wx hSx => ?_) ?_
      rotate_left
      · (unfold SB at hSx; go_simp; (try with_reducible rfl))
      (try simp only [Act.put, List.setIfInBounds_toArray, List.set_cons_zero, List.set_cons_succ])
      refine seq_end ?_
      go_wp2_with fail
      go_roundw
      case rel => exact ⟨k + 1, by omega, by go_num, hB.drew⟩
      case measure => simp [intOf]; omega
    · have hm1 : ¬ (k : Int) < (tks N).length := by omega
      have hb := hB
      have q3B : Below w.heap.size w wr := (by refine Below.trans ?_ (hb.mono (by first | omega | (simp <;> omega))); (repeat (first | (with_reducible exact Below.refl _ _) | (with_reducible assumption) | ((with_reducible refine Below.alloc ?_ ?_ _); (rotate_left); (first | omega | (simp <;> omega))) | ((with_reducible refine Below.setCell ?_ ?_ _); (rotate_left); (first | omega | (simp <;> omega))) | (with_reducible refine Below.drew ?_) | (with_reducible refine below_drewN ?_ _))))
      have q3z := hb.size
      try simp at q3z
      have q3t : w.heap.size ≤ wr.heap.size := (by omega)
      have q3s0 : w.heap.size < wr.heap.size := (by omega)
      have q3n0_0 : ¬ wr.heap.size = w.heap.size := (by omega)
      have q3n0_1 : ¬ wr.heap.size + 1 = w.heap.size := (by omega)
      have q3n0_2 : ¬ wr.heap.size + 2 = w.heap.size := (by omega)
      have q3c0_0 := hb.cell (p := ⟨w.heap.size, 0, none⟩) (by first | omega | (simp <;> omega))
      simp [go_sem, *] at q3c0_0
      have q3c0_1 := hb.cell (p := ⟨w.heap.size, 1, none⟩) (by first | omega | (simp <;> omega))
      simp [go_sem, *] at q3c0_1
      have q3c0_2 := hb.cell (p := ⟨w.heap.size, 2, none⟩) (by first | omega | (simp <;> omega))
      simp [go_sem, *] at q3c0_2
      have q3c0_3 := hb.cell (p := ⟨w.heap.size, 3, none⟩) (by first | omega | (simp <;> omega))
      simp [go_sem, *] at q3c0_3
      have q3f0 := fun o => hb.frozen (p := ⟨w.heap.size, o, none⟩) (by first | omega | (simp <;> omega))
      simp [go_sem, *] at q3f0
      have q3o : ∀ b o, b < w.heap.size → wr.cell? ⟨b, o, none⟩ = w.cell? ⟨b, o, none⟩ := fun b o h => q3B.cell (p := ⟨b, o, none⟩) h
      clear hb q2o q2f0 q2c0_3 q2c0_2 q2c0_1 q2c0_0 q2s0 q2z q2B
      go_wp2_with fail
      refine (next_any ac nx sh rs _).mono ?_
      rintro e w4 ⟨rfl, hb⟩
      have q4B : Below w.heap.size w w4 := (by refine Below.trans ?_ (hb.mono (by first | omega | (simp <;> omega))); (repeat (first | (with_reducible exact Below.refl _ _) | (with_reducible assumption) | ((with_reducible refine Below.alloc ?_ ?_ _); (rotate_left); (first | omega | (simp <;> omega))) | ((with_reducible refine Below.setCell ?_ ?_ _); (rotate_left); (first | omega | (simp <;> omega))) | (with_reducible refine Below.drew ?_) | (with_reducible refine below_drewN ?_ _))))
      have q4z := hb.size
      try simp at q4z
      have q4t : w.heap.size ≤ w4.heap.size := (by omega)
      have q4s0 : w.heap.size < w4.heap.size := (by omega)
      have q4n0_0 : ¬ w4.heap.size = w.heap.size := (by omega)
      have q4n0_1 : ¬ w4.heap.size + 1 = w.heap.size := (by omega)
      have q4n0_2 : ¬ w4.heap.size + 2 = w.heap.size := (by omega)
      have q4c0_0 := hb.cell (p := ⟨w.heap.size, 0, none⟩) (by first | omega | (simp <;> omega))
      simp [go_sem, *] at q4c0_0
      have q4c0_1 := hb.cell (p := ⟨w.heap.size, 1, none⟩) (by first | omega | (simp <;> omega))
      simp [go_sem, *] at q4c0_1
      have q4c0_2 := hb.cell (p := ⟨w.heap.size, 2, none⟩) (by first | omega | (simp <;> omega))
      simp [go_sem, *] at q4c0_2
      have q4c0_3 := hb.cell (p := ⟨w.heap.size, 3, none⟩) (by first | omega | (simp <;> omega))
      simp [go_sem, *] at q4c0_3
      have q4f0 := fun o => hb.frozen (p := ⟨w.heap.size, o, none⟩) (by first | omega | (simp <;> omega))
      simp [go_sem, *] at q4f0
      have q4o : ∀ b o, b < w.heap.size → w4.cell? ⟨b, o, none⟩ = w.cell? ⟨b, o, none⟩ := fun b o h => q4B.cell (p := ⟨b, o, none⟩) h
      clear hb q3o q3f0 q3c0_3 q3c0_2 q3c0_1 q3c0_0 q3s0 q3z q3B
      go_wp2_with fail
      refine (rnext_any ac nx sh rs _).mono ?_
      rintro e w5 ⟨rfl, hb⟩
      have q5B : Below w.heap.size w w5 := (by refine Below.trans ?_ (hb.mono (by first | omega | (simp <;> omega))); (repeat (first | (with_reducible exact Below.refl _ _) | (with_reducible assumption) | ((with_reducible refine Below.alloc ?_ ?_ _); (rotate_left); (first | omega | (simp <;> omega))) | ((with_reducible refine Below.setCell ?_ ?_ _); (rotate_left); (first | omega | (simp <;> omega))) | (with_reducible refine Below.drew ?_) | (with_reducible refine below_drewN ?_ _))))
      have q5z := hb.size
      try simp at q5z
      have q5t : w.heap.size ≤ w5.heap.size := (by omega)
      have q5s0 : w.heap.size < w5.heap.size := (by omega)
      have q5n0_0 : ¬ w5.heap.size = w.heap.size := (by omega)
      have q5n0_1 : ¬ w5.heap.size + 1 = w.heap.size := (by omega)
      have q5n0_2 : ¬ w5.heap.size + 2 = w.heap.size := (by omega)
      have q5c0_0 := hb.cell (p := ⟨w.heap.size, 0, none⟩) (by first | omega | (simp <;> omega))
      simp [go_sem, *] at q5c0_0
      have q5c0_1 := hb.cell (p := ⟨w.heap.size, 1, none⟩) (by first | omega | (simp <;> omega))
      simp [go_sem, *] at q5c0_1
      have q5c0_2 := hb.cell (p := ⟨w.heap.size, 2, none⟩) (by first | omega | (simp <;> omega))
      simp [go_sem, *] at q5c0_2
      have q5c0_3 := hb.cell (p := ⟨w.heap.size, 3, none⟩) (by first | omega | (simp <;> omega))
      simp [go_sem, *] at q5c0_3
      have q5f0 := fun o => hb.frozen (p := ⟨w.heap.size, o, none⟩) (by first | omega | (simp <;> omega))
      simp [go_sem, *] at q5f0
      have q5s1 : w4.heap.size < w5.heap.size := (by omega)
      have q5n1_0 : ¬ w5.heap.size = w4.heap.size := (by omega)
      have q5n1_1 : ¬ w5.heap.size + 1 = w4.heap.size := (by omega)
      have q5n1_2 : ¬ w5.heap.size + 2 = w4.heap.size := (by omega)
      have q5c1_0 := hb.cell (p := ⟨w4.heap.size, 0, none⟩) (by first | omega | (simp <;> omega))
      simp [go_sem, *] at q5c1_0
      have q5c1_1 := hb.cell (p := ⟨w4.heap.size, 1, none⟩) (by first | omega | (simp <;> omega))
      simp [go_sem, *] at q5c1_1
      have q5f1 := fun o => hb.frozen (p := ⟨w4.heap.size, o, none⟩) (by first | omega | (simp <;> omega))
      simp [go_sem, *] at q5f1
      have q5o : ∀ b o, b < w.heap.size → w5.cell? ⟨b, o, none⟩ = w.cell? ⟨b, o, none⟩ := fun b o h => q5B.cell (p := ⟨b, o, none⟩) h
      clear hb q4o q4f0 q4c0_3 q4c0_2 q4c0_1 q4c0_0 q4s0 q4z q4B
      go_wp2_with fail
      refine ord_start (SB (w5.heap.size + 1) [] _) 19 #[false, false, false, false, false, false, false, false, false, false, false, false, false, false, false, false, false, false, false] (by kernel_rfl) (by kernel_rfl) (by kernel_rfl) SB.refl.drew (fun hHeld => ?_)
      refine ord_take (i := 0) #[true, false, false, false, false, false, false, false, false, false, false, false, false, false, false, false, false, false, false] ?_ rfl (by kernel_rfl) (by kernel_rfl) (by kernel_rfl) (by kernel_rfl) (fun _ _ _ h => h) hHeld (by rfl) (fun wx hSx => ?_) ?_
      rotate_left
      · (unfold SB at hSx; go_simp; (try with_reducible rfl))
      (try simp only [Act.put, List.setIfInBounds_toArray, List.set_cons_zero, List.set_cons_succ])
      refine ord_take (i := 1) #[true, true, false, false, false, false, false, false, false, false, false, false, false, false, false, false, false, false, false] ?_ rfl (by kernel_rfl) (by kernel_rfl) (by kernel_rfl) (by kernel_rfl) (fun _ _ _ h => h) hHeld (by rfl) (fun wx hSx => ?_) ?_
      rotate_left
      · (unfold SB at hSx; go_simp; (try with_reducible rfl))
      (try simp only [Act.put, List.setIfInBounds_toArray, List.set_cons_zero, List.set_cons_succ])
      refine ord_take (i := 2) #[true, true, true, false, false, false, false, false, false, false, false, false, false, false, false, false, false, false, false] ?_ rfl (by kernel_rfl) (by kernel_rfl) (by kernel_rfl) (by kernel_rfl) (fun _ _ _ h => h) hHeld (by rfl) (fun wx hSx => ?_) ?_
      rotate_left
      · (unfold SB at hSx; go_simp; (try with_reducible rfl))
      (try simp only [Act.put, List.setIfInBounds_toArray, List.set_cons_zero, List.set_cons_succ])
      refine ord_take (i := 3) #[true, true, true, true, false, false, false, false, false, false, false, false, false, false, false, false, false, false, false] ?_ rfl (by kernel_rfl) (by kernel_rfl) (by kernel_rfl) (by kernel_rfl) (fun _ _ _ h => h) hHeld (by rfl) (fun wx hSx => ?_) ?_
      rotate_left
      · (unfold SB at hSx; go_simp; (try with_reducible rfl))
      (try simp only [Act.put, List.setIfInBounds_toArray, List.set_cons_zero, List.set_cons_succ])
      refine ord_take (i := 4) #[true, true, true, true, true, false, false, false, false, false, false, false, false, false, false, false, false, false, false] ?_ rfl (by kernel_rfl) (by kernel_rfl) (by kernel_rfl) (by kernel_rfl) (fun _ _ _ h => h) hHeld (by rfl) (fun wx hSx => ?_) ?_
      rotate_left
      · (unfold SB at hSx; go_simp; (try with_reducible rfl))
      (try simp only [Act.put, List.setIfInBounds_toArray, List.set_cons_zero, List.set_cons_succ])
      refine ord_take (i := 5) #[true, true, true, true, true, true, false, false, false, false, false, false, false, false, false, false, false, false, false] ?_ rfl (by kernel_rfl) (by kernel_rfl) (by kernel_rfl) (by kernel_rfl) (fun _ _ _ h => h) hHeld (by rfl) (fun wx hSx => ?_) ?_
      rotate_left
      · (unfold SB at hSx; go_simp; (try with_reducible rfl))
      (try simp only [Act.put, List.setIfInBounds_toArray, List.set_cons_zero, List.set_cons_succ])
      refine ord_take (i := 6) #[true, true, true, true, true, true, true, false, false, false, false, false, false, false, false, false, false, false, false] ?_ rfl (by kernel_rfl) (by kernel_rfl) (by kernel_rfl) (by kernel_rfl) (fun _ _ _ h => h) hHeld (by rfl) (fun wx hSx => ?_) ?_
      rotate_left
      · (unfold SB at hSx; go_simp; (try with_reducible rfl))
      (try simp only [Act.put, List.setIfInBounds_toArray, List.set_cons_zero, List.set_cons_succ])
      refine ord_take (i := 7) #[true, true, true, true, true, true, true, true, false, false, false, false, false, false, false, false, false, false, false] ?_ rfl (by kernel_rfl) (by kernel_rfl) (by kernel_rfl) (by kernel_rfl) (fun _ _ _ h => h) hHeld (by rfl) (fun wx hSx => ?_) ?_
      rotate_left
      · (unfold SB at hSx; go_simp; (try with_reducible rfl))
      (try simp only [Act.put, List.setIfInBounds_toArray, List.set_cons_zero, List.set_cons_succ])
      refine ord_take (i := 8) #[true, true, true, true, true, true, true, true, true, false, false, false, false, false, false, false, false, false, false] ?_ rfl (by kernel_rfl) (by kernel_rfl) (by kernel_rfl) (by kernel_rfl) (fun _ _ _ h => h) hHeld (by rfl) (fun wx hSx => ?_) ?_
      rotate_left
      · (unfold SB at hSx; go_simp; (try with_reducible rfl))
      (try simp only [Act.put, List.setIfInBounds_toArray, List.set_cons_zero, List.set_cons_succ])
      refine ord_take (i := 9) #[true, true, true, true, true, true, true, true, true, true, false, false, false, false, false, false, false, false, false] ?_ rfl (by kernel_rfl) (by kernel_rfl) (by kernel_rfl) (by kernel_rfl) (fun _ _ _ h => h) hHeld (by rfl) (fun wx hSx => ?_) ?_
      rotate_left
      · (unfold SB at hSx; go_simp; (try with_reducible rfl))
      (try simp only [Act.put, List.setIfInBounds_toArray, List.set_cons_zero, List.set_cons_succ])
      refine ord_take (i := 11) #[true, true, true, true, true, true, true, true, true, true, false, true, false, false, false, false, false, false, false] ?_ rfl (by kernel_rfl) (by kernel_rfl) (by kernel_rfl) (by kernel_rfl) (fun _ _ _ h => h) hHeld (by rfl) (fun wx hSx => ?_) ?_
      rotate_left
      · (unfold SB at hSx; go_simp; (try with_reducible rfl))
      (try simp only [Act.put, List.setIfInBounds_toArray, List.set_cons_zero, List.set_cons_succ])
      refine wpAnyH_ready (rs := [10]) (by kernel_rfl) (by simp) ?_
      refine ord_run (i := 10) #[true, true, true, true, true, true, true, true, true, true, true, true, false, false, false, false, false, false, false] rfl (by kernel_rfl) (by rfl) (fun K hK => ?_) AllReadyH.nil
      go_simp
      go_wp2_with (go_at_call 18; refine (check_any ac nx sh rs _).mono ?_; rintro e w6 ⟨rfl, hbS⟩; have z6 := hbS.size; (try simp at z6); have b6 : Below w.heap.size w w6 := (by refine Below.trans ?_ (hbS.mono (by first | omega | (simp <;> omega))); (repeat (first | (with_reducible exact Below.refl _ _) | (with_reducible assumption) | ((with_reducible refine Below.alloc ?_ ?_ _); (rotate_left); (first | omega | (simp <;> omega))) | ((with_reducible refine Below.setCell ?_ ?_ _); (rotate_left); (first | omega | (simp <;> omega))) | (with_reducible refine Below.drew ?_) | (with_reducible refine below_drewN ?_ _)))))
      refine hK.out _ _ ?_ (fun hHeld => ?_)
      · (repeat (first | (with_reducible exact SB.refl) | (with_reducible exact hHeld) | (with_reducible refine SB.drew ?_) | (with_reducible refine SB.drewN ?_ _) | ((with_reducible refine SB.alloc ?_ ?_ _); (rotate_left); (first | omega | (simp <;> omega))) | ((with_reducible refine SB.setCell ?_ ?_ _); (rotate_left); (focus (first | (simp; done) | (right; first | omega | (simp <;> omega))))) | ((with_reducible refine SB.below ?_ hbS ?_); (rotate_left); (first | omega | (simp <;> omega))) | ((with_reducible refine SB.below ?_ hbS1 ?_); (rotate_left); (first | omega | (simp <;> omega))) | ((with_reducible refine SB.below ?_ hbS2 ?_); (rotate_left); (first | omega | (simp <;> omega))) | ((with_reducible refine SB.below ?_ hbS3 ?_); (rotate_left); (first | omega | (simp <;> omega))) | ((with_reducible refine SB.below ?_ hbS4 ?_); (rotate_left); (first | omega | (simp <;> omega))) | (with_reducible refine SB.undrew ?_) | ((with_reducible refine SB.congr ?_ ?_); (rotate_left); (focus (simp; done))) | ((with_reducible refine SB.realloc ?_ ?_ ?_); (rotate_left); (focus (simp; done)); (focus (simp; done)))))
      clear hK K
      (try simp only [Act.put, List.setIfInBounds_toArray, List.set_cons_zero, List.set_cons_succ])
      refine wpAnyH_ready (rs := [12]) (by kernel_rfl) (by simp) ?_
      refine ord_run (i := 12) #[true, true, true, true, true, true, true, true, true, true, true, true, true, false, false, false, false, false, false] rfl (by kernel_rfl) (by rfl) (fun K hK => ?_) AllReadyH.nil
      go_simp
      go_wp2_with (go_at_call 19; refine (rcheck_any ac nx sh rs _).mono ?_; rintro e w7 ⟨rfl, hbS1⟩; have z7 := hbS1.size; (try simp at z7); have b7 : Below w.heap.size w w7 := (by refine Below.trans ?_ (hbS1.mono (by first | omega | (simp <;> omega))); (repeat (first | (with_reducible exact Below.refl _ _) | (with_reducible assumption) | ((with_reducible refine Below.alloc ?_ ?_ _); (rotate_left); (first | omega | (simp <;> omega))) | ((with_reducible refine Below.setCell ?_ ?_ _); (rotate_left); (first | omega | (simp <;> omega))) | (with_reducible refine Below.drew ?_) | (with_reducible refine below_drewN ?_ _)))))
      refine hK.out _ _ ?_ (fun hHeld => ?_)
      · (repeat (first | (with_reducible exact SB.refl) | (with_reducible exact hHeld) | (with_reducible refine SB.drew ?_) | (with_reducible refine SB.drewN ?_ _) | ((with_reducible refine SB.alloc ?_ ?_ _); (rotate_left); (first | omega | (simp <;> omega))) | ((with_reducible refine SB.setCell ?_ ?_ _); (rotate_left); (focus (first | (simp; done) | (right; first | omega | (simp <;> omega))))) | ((with_reducible refine SB.below ?_ hbS ?_); (rotate_left); (first | omega | (simp <;> omega))) | ((with_reducible refine SB.below ?_ hbS1 ?_); (rotate_left); (first | omega | (simp <;> omega))) | ((with_reducible refine SB.below ?_ hbS2 ?_); (rotate_left); (first | omega | (simp <;> omega))) | ((with_reducible refine SB.below ?_ hbS3 ?_); (rotate_left); (first | omega | (simp <;> omega))) | ((with_reducible refine SB.below ?_ hbS4 ?_); (rotate_left); (first | omega | (simp <;> omega))) | (with_reducible refine SB.undrew ?_) | ((with_reducible refine SB.congr ?_ ?_); (rotate_left); (focus (simp; done))) | ((with_reducible refine SB.realloc ?_ ?_ ?_); (rotate_left); (focus (simp; done)); (focus (simp; done)))))
      clear hK K
      (try simp only [Act.put, List.setIfInBounds_toArray, List.set_cons_zero, List.set_cons_succ])
      refine ord_take (i := 13) #[true, true, true, true, true, true, true, true, true, true, true, true, true, true, false, false, false, false, false] ?_ rfl (by kernel_rfl) (by kernel_rfl) (by kernel_rfl) (by kernel_rfl) (fun _ _ _ h => h) hHeld (by rfl) (fun wx hSx => ?_) ?_
      rotate_left
      · (unfold SB at hSx; go_simp; (try with_reducible rfl))
      (try simp only [Act.put, List.setIfInBounds_toArray, List.set_cons_zero, List.set_cons_succ])
      refine ord_take (i := 14) #[true, true, true, true, true, true, true, true, true, true, true, true, true, true, true, false, false, false, false] ?_ rfl (by kernel_rfl) (by kernel_rfl) (by kernel_rfl) (by kernel_rfl) (fun _ _ _ h => h) hHeld (by rfl) (fun wx hSx => ?_) ?_
      rotate_left
      · (unfold SB at hSx; go_simp; (try with_reducible rfl))
      (try simp only [Act.put, List.setIfInBounds_toArray, List.set_cons_zero, List.set_cons_succ])
      refine ord_take (i := 15) #[true, true, true, true, true, true, true, true, true, true, true, true, true, true, true, true, false, false, false] ?_ rfl (by kernel_rfl) (by kernel_rfl) (by kernel_rfl) (by kernel_rfl) (fun _ _ _ h => h) hHeld (by rfl) (fun wx hSx => ?_) ?_
      rotate_left
      · (unfold SB at hSx; go_simp; (try with_reducible rfl))
      (try simp only [Act.put, List.setIfInBounds_toArray, List.set_cons_zero, List.set_cons_succ])
      refine wpAnyH_ready (rs := [16]) (by kernel_rfl) (by simp) ?_
      refine ord_run (i := 16) #[true, true, true, true, true, true, true, true, true, true, true, true, true, true, true, true, true, false, false] rfl (by kernel_rfl) (by rfl) (fun K hK => ?_) AllReadyH.nil
      go_simp
      go_wp2_with (go_at_call 10; refine (live_any _ (ht.below (by (repeat (first | (with_reducible exact Below.refl _ _) | (with_reducible assumption) | ((with_reducible refine Below.alloc ?_ ?_ _); (rotate_left); (first | omega | (simp <;> omega))) | ((with_reducible refine Below.setCell ?_ ?_ _); (rotate_left); (first | omega | (simp <;> omega))) | (with_reducible refine Below.drew ?_) | (with_reducible refine below_drewN ?_ _)))))).mono ?_; rintro e w8 ⟨rfl, hbS2⟩; have z8 := hbS2.size; (try simp at z8); have b8 : Below w.heap.size w w8 := (by refine Below.trans ?_ (hbS2.mono (by first | omega | (simp <;> omega))); (repeat (first | (with_reducible exact Below.refl _ _) | (with_reducible assumption) | ((with_reducible refine Below.alloc ?_ ?_ _); (rotate_left); (first | omega | (simp <;> omega))) | ((with_reducible refine Below.setCell ?_ ?_ _); (rotate_left); (first | omega | (simp <;> omega))) | (with_reducible refine Below.drew ?_) | (with_reducible refine below_drewN ?_ _)))))
      refine hK.out _ _ ?_ (fun hHeld => ?_)
      · (repeat (first | (with_reducible exact SB.refl) | (with_reducible exact hHeld) | (with_reducible refine SB.drew ?_) | (with_reducible refine SB.drewN ?_ _) | ((with_reducible refine SB.alloc ?_ ?_ _); (rotate_left); (first | omega | (simp <;> omega))) | ((with_reducible refine SB.setCell ?_ ?_ _); (rotate_left); (focus (first | (simp; done) | (right; first | omega | (simp <;> omega))))) | ((with_reducible refine SB.below ?_ hbS ?_); (rotate_left); (first | omega | (simp <;> omega))) | ((with_reducible refine SB.below ?_ hbS1 ?_); (rotate_left); (first | omega | (simp <;> omega))) | ((with_reducible refine SB.below ?_ hbS2 ?_); (rotate_left); (first | omega | (simp <;> omega))) | ((with_reducible refine SB.below ?_ hbS3 ?_); (rotate_left); (first | omega | (simp <;> omega))) | ((with_reducible refine SB.below ?_ hbS4 ?_); (rotate_left); (first | omega | (simp <;> omega))) | (with_reducible refine SB.undrew ?_) | ((with_reducible refine SB.congr ?_ ?_); (rotate_left); (focus (simp; done))) | ((with_reducible refine SB.realloc ?_ ?_ ?_); (rotate_left); (focus (simp; done)); (focus (simp; done)))))
      clear hK K
      (try simp only [Act.put, List.setIfInBounds_toArray, List.set_cons_zero, List.set_cons_succ])
      refine ord_take (i := 17) #[true, true, true, true, true, true, true, true, true, true, true, true, true, true, true, true, true, true, false] ?_ rfl (by kernel_rfl) (by kernel_rfl) (by kernel_rfl) (by kernel_rfl) (fun _ _ _ h => h) hHeld (by rfl) (fun wx hSx => ?_) ?_
      rotate_left
      · (unfold SB at hSx; go_simp; (try with_reducible rfl))
      (try simp only [Act.put, List.setIfInBounds_toArray, List.set_cons_zero, List.set_cons_succ])
      refine ord_take (i := 18) #[true, true, true, true, true, true, true, true, true, true, true, true, true, true, true, true, true, true, true] ?_ rfl (by kernel_rfl) (by kernel_rfl) (by kernel_rfl) (by kernel_rfl) (fun _ _ _ h => h) hHeld (by rfl) (fun wx hSx => ?_) ?_
      rotate_left
      · (unfold SB at hSx; go_simp; (try with_reducible rfl))
      (try simp only [Act.put, List.setIfInBounds_toArray, List.set_cons_zero, List.set_cons_succ])
      refine wpAnyH_done (by kernel_rfl) ?_ _
      go_wp2_with fail; go_ret; exact ⟨rfl, b8⟩
end Go.Proofs.YtapfofnicbhoeaaDoor
