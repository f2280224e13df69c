/- The chapter's examples: live answers true. -/
import Derived.Test.YtapfofnicbhoeaaDoorShH
namespace Go.Proofs.YtapfofnicbhoeaaDoor
open Go.RowKit

theorem tk_cells {w : World} {b off : Nat} (h : ∀ k, k < (tks 2).length → w.cell? ⟨b, off + k * 2, none⟩ = some (.int .i64 (fsts (tks 2) k)) ∧ w.cell? ⟨b, off + k * 2 + 1, none⟩ = some (.int .i64 (snds (tks 2) k))) :
    w.cell? ⟨b, off, none⟩ = some (.int .i64 1) ∧ w.cell? ⟨b, off + 1, none⟩ = some (.int .i64 0) ∧ w.cell? ⟨b, off + 2, none⟩ = some (.int .i64 1) ∧ w.cell? ⟨b, off + 3, none⟩ = some (.int .i64 1) ∧ w.cell? ⟨b, off + 32, none⟩ = some (.int .i64 9) ∧ w.cell? ⟨b, off + 33, none⟩ = some (.int .i64 0) := by
  have h0 := h 0 (by decide)
  have h1 := h 1 (by decide)
  have h16 := h 16 (by decide)
  exact ⟨h0.1, h0.2, h1.1, h1.2, h16.1, h16.2⟩
theorem rowI_one {w : World} {b : Nat} {x : Int} (h : b < w.heap.size) (h0 : w.cell? ⟨b, 0, none⟩ = some (.int .i64 x)) : RowI w (some ⟨b, 0, none⟩) 1 (fun _ => x) := fun _ =>
  ⟨b, 0, rfl, h, fun k hk => by obtain rfl : k = 0 := by omega
                                exact h0⟩
set_option maxHeartbeats 2000000 in
theorem live_any (w : World) (ht : Tab w) :
    Calls Tryd.prog 10 #[] w fun e w' => e = .returned (.bool true) ∧ Below w.heap.size w w' := by
  go_enter Tryd.func10, Tryd.ntmps10
  go_wp2_with fail
  refine (tasks_any 2 _).mono ?_
  rintro e w1 ⟨A, c, rfl, hr, hb1⟩
  obtain ⟨b, off, rfl, hbl, hc⟩ := hr (by decide)
  obtain ⟨t0, t1, t2, t3, t4, t5⟩ := tk_cells hc
  clear hc hr
  rw [show (tks 2).length = 17 by decide]
  go_wp2_with fail
  refine (next_any true 17 2 0 _).mono ?_
  rintro e w2 ⟨rfl, hb2⟩
  rw [show nxA true 17 2 = 0 by decide, show nxS true 17 2 = 0 by decide, show nxB true 17 2 = false by decide]
  have hz2 := hb2.size
  go_wp2_with fail
  refine (next_any true 16 2 0 _).mono ?_
  rintro e w3 ⟨rfl, hb3⟩
  rw [show nxA true 16 2 = 9 by decide, show nxS true 16 2 = 0 by decide, show nxB true 16 2 = true by decide]
  have hz3 := hb3.size
  simp only [World.size_alloc] at hz3
  have hb13 : Below w1.heap.size w1 w3 := (hb2.alloc hz2 _).trans (hb3.mono (by simp; omega))
  have key : ∀ o, w3.cell? ⟨b, o, none⟩ = w1.cell? ⟨b, o, none⟩ := fun o => hb13.cell (p := ⟨b, o, none⟩) hbl
  rw [← key] at t0 t1 t2 t3 t4 t5
  clear key
  have hbl3 : b < w3.heap.size := by omega
  have hn2 : ¬ w2.heap.size = b := by omega
  have hn3 : ¬ w3.heap.size = b := by omega
  have hb4 : Below w.heap.size w w3 := ((hb1.trans (hb2.mono hb1.size)).alloc (by have := hb1.size; omega) _).trans (hb3.mono (by have := hb1.size; simp; omega))
  have hz4 := hb4.size
  go_wp2_with fail
  refine wp_region_seq (SB (w3.heap.size + 1) [] _) [true, true, true, true, true, true, true, true, true, true, true, true, true, true, true, true, true, true, true, true, true, true, true, true, true, true, true, true, true, true, true, true, true, true, true, true, true, true, true, false, false, true, true, true, true, true, false, true, true, true, true, false, true, true, true] (by kernel_rfl) (by kernel_rfl) rfl (by kernel_rfl) (fun _ _ d _ _ h => by cases d <;> exact h) SB.refl.drew (fun hHeld => ?_)
  refine seq_take ?_ (by rfl) (fun wx hSx => ?_) ?_
  rotate_left
  · (unfold SB at hSx; go_simp; (try with_reducible rfl))
  (try simp only [Act.put, List.setIfInBounds_toArray, List.set_cons_zero, List.set_cons_succ])
  refine seq_take ?_ (by rfl) (fun wx hSx => ?_) ?_
  rotate_left
  · (unfold SB at hSx; go_simp; (try with_reducible rfl))
  (try simp only [Act.put, List.setIfInBounds_toArray, List.set_cons_zero, List.set_cons_succ])
  refine seq_take ?_ (by rfl) (fun wx hSx => ?_) ?_
  rotate_left
  · (unfold SB at hSx; go_simp; (try with_reducible rfl))
  (try simp only [Act.put, List.setIfInBounds_toArray, List.set_cons_zero, List.set_cons_succ])
  refine seq_take ?_ (by rfl) (fun wx hSx => ?_) ?_
  rotate_left
  · (unfold SB at hSx; go_simp; (try with_reducible rfl))
  (try simp only [Act.put, List.setIfInBounds_toArray, List.set_cons_zero, List.set_cons_succ])
  refine seq_take ?_ (by rfl) (fun wx hSx => ?_) ?_
  rotate_left
  · (unfold SB at hSx; go_simp; (try with_reducible rfl))
  (try simp only [Act.put, List.setIfInBounds_toArray, List.set_cons_zero, List.set_cons_succ])
  refine seq_take ?_ (by rfl) (fun wx hSx => ?_) ?_
  rotate_left
  · (unfold SB at hSx; go_simp; (try with_reducible rfl))
  (try simp only [Act.put, List.setIfInBounds_toArray, List.set_cons_zero, List.set_cons_succ])
  refine seq_take ?_ (by rfl) (fun wx hSx => ?_) ?_
  rotate_left
  · (unfold SB at hSx; go_simp; (try with_reducible rfl))
  (try simp only [Act.put, List.setIfInBounds_toArray, List.set_cons_zero, List.set_cons_succ])
  refine seq_take ?_ (by rfl) (fun wx hSx => ?_) ?_
  rotate_left
  · (unfold SB at hSx; go_simp; (try with_reducible rfl))
  (try simp only [Act.put, List.setIfInBounds_toArray, List.set_cons_zero, List.set_cons_succ])
  refine seq_take ?_ (by rfl) (fun wx hSx => ?_) ?_
  rotate_left
  · (unfold SB at hSx; go_simp; (try with_reducible rfl))
  (try simp only [Act.put, List.setIfInBounds_toArray, List.set_cons_zero, List.set_cons_succ])
  refine seq_take ?_ (by rfl) (fun wx hSx => ?_) ?_
  rotate_left
  · (unfold SB at hSx; go_simp; (try with_reducible rfl))
  (try simp only [Act.put, List.setIfInBounds_toArray, List.set_cons_zero, List.set_cons_succ])
  refine seq_take ?_ (by rfl) (fun wx hSx => ?_) ?_
  rotate_left
  · (unfold SB at hSx; go_simp; (try with_reducible rfl))
  (try simp only [Act.put, List.setIfInBounds_toArray, List.set_cons_zero, List.set_cons_succ])
  refine seq_take ?_ (by rfl) (fun wx hSx => ?_) ?_
  rotate_left
  · (unfold SB at hSx; go_simp; (try with_reducible rfl))
  (try simp only [Act.put, List.setIfInBounds_toArray, List.set_cons_zero, List.set_cons_succ])
  refine seq_take ?_ (by rfl) (fun wx hSx => ?_) ?_
  rotate_left
  · (unfold SB at hSx; go_simp; (try with_reducible rfl))
  (try simp only [Act.put, List.setIfInBounds_toArray, List.set_cons_zero, List.set_cons_succ])
  refine seq_take ?_ (by rfl) (fun wx hSx => ?_) ?_
  rotate_left
  · (unfold SB at hSx; go_simp; (try with_reducible rfl))
  (try simp only [Act.put, List.setIfInBounds_toArray, List.set_cons_zero, List.set_cons_succ])
  refine seq_take ?_ (by rfl) (fun wx hSx => ?_) ?_
  rotate_left
  · (unfold SB at hSx; go_simp; (try with_reducible rfl))
  (try simp only [Act.put, List.setIfInBounds_toArray, List.set_cons_zero, List.set_cons_succ])
  refine seq_take ?_ (by rfl) (fun wx hSx => ?_) ?_
  rotate_left
  · (unfold SB at hSx; go_simp; (try with_reducible rfl))
  (try simp only [Act.put, List.setIfInBounds_toArray, List.set_cons_zero, List.set_cons_succ])
  refine seq_take ?_ (by rfl) (fun wx hSx => ?_) ?_
  rotate_left
  · (unfold SB at hSx; go_simp; (try with_reducible rfl))
  (try simp only [Act.put, List.setIfInBounds_toArray, List.set_cons_zero, List.set_cons_succ])
  refine seq_take ?_ (by rfl) (fun wx hSx => ?_) ?_
  rotate_left
  · (unfold SB at hSx; go_simp; (try with_reducible rfl))
  (try simp only [Act.put, List.setIfInBounds_toArray, List.set_cons_zero, List.set_cons_succ])
  refine seq_take ?_ (by rfl) (fun wx hSx => ?_) ?_
  rotate_left
  · (unfold SB at hSx; go_simp; (try with_reducible rfl))
  (try simp only [Act.put, List.setIfInBounds_toArray, List.set_cons_zero, List.set_cons_succ])
  refine seq_take ?_ (by rfl) (fun wx hSx => ?_) ?_
  rotate_left
  · (unfold SB at hSx; go_simp; (try with_reducible rfl))
  (try simp only [Act.put, List.setIfInBounds_toArray, List.set_cons_zero, List.set_cons_succ])
  refine seq_take ?_ (by rfl) (fun wx hSx => ?_) ?_
  rotate_left
  · (unfold SB at hSx; go_simp; (try with_reducible rfl))
  (try simp only [Act.put, List.setIfInBounds_toArray, List.set_cons_zero, List.set_cons_succ])
  refine seq_take ?_ (by rfl) (fun wx hSx => ?_) ?_
  rotate_left
  · (unfold SB at hSx; go_simp; (try with_reducible rfl))
  (try simp only [Act.put, List.setIfInBounds_toArray, List.set_cons_zero, List.set_cons_succ])
  refine seq_take ?_ (by rfl) (fun wx hSx => ?_) ?_
  rotate_left
  · (unfold SB at hSx; go_simp; (try with_reducible rfl))
  (try simp only [Act.put, List.setIfInBounds_toArray, List.set_cons_zero, List.set_cons_succ])
  refine seq_take ?_ (by rfl) (fun wx hSx => ?_) ?_
  rotate_left
  · (unfold SB at hSx; go_simp; (try with_reducible rfl))
  (try simp only [Act.put, List.setIfInBounds_toArray, List.set_cons_zero, List.set_cons_succ])
  refine seq_take ?_ (by rfl) (fun wx hSx => ?_) ?_
  rotate_left
  · (unfold SB at hSx; go_simp; (try with_reducible rfl))
  (try simp only [Act.put, List.setIfInBounds_toArray, List.set_cons_zero, List.set_cons_succ])
  refine seq_take ?_ (by rfl) (fun wx hSx => ?_) ?_
  rotate_left
  · (unfold SB at hSx; go_simp; (try with_reducible rfl))
  (try simp only [Act.put, List.setIfInBounds_toArray, List.set_cons_zero, List.set_cons_succ])
  refine seq_take ?_ (by rfl) (fun wx hSx => ?_) ?_
  rotate_left
  · (unfold SB at hSx; go_simp; (try with_reducible rfl))
  (try simp only [Act.put, List.setIfInBounds_toArray, List.set_cons_zero, List.set_cons_succ])
  refine seq_take ?_ (by rfl) (fun wx hSx => ?_) ?_
  rotate_left
  · (unfold SB at hSx; go_simp; (try with_reducible rfl))
  (try simp only [Act.put, List.setIfInBounds_toArray, List.set_cons_zero, List.set_cons_succ])
  refine seq_take ?_ (by rfl) (fun wx hSx => ?_) ?_
  rotate_left
  · (unfold SB at hSx; go_simp; (try with_reducible rfl))
  (try simp only [Act.put, List.setIfInBounds_toArray, List.set_cons_zero, List.set_cons_succ])
  refine seq_take ?_ (by rfl) (fun wx hSx => ?_) ?_
  rotate_left
  · (unfold SB at hSx; go_simp; (try with_reducible rfl))
  (try simp only [Act.put, List.setIfInBounds_toArray, List.set_cons_zero, List.set_cons_succ])
  refine seq_take ?_ (by rfl) (fun wx hSx => ?_) ?_
  rotate_left
  · (unfold SB at hSx; go_simp; (try with_reducible rfl))
  (try simp only [Act.put, List.setIfInBounds_toArray, List.set_cons_zero, List.set_cons_succ])
  refine seq_take ?_ (by rfl) (fun wx hSx => ?_) ?_
  rotate_left
  · (unfold SB at hSx; go_simp; (try with_reducible rfl))
  (try simp only [Act.put, List.setIfInBounds_toArray, List.set_cons_zero, List.set_cons_succ])
  refine seq_take ?_ (by rfl) (fun wx hSx => ?_) ?_
  rotate_left
  · (unfold SB at hSx; go_simp; (try with_reducible rfl))
  (try simp only [Act.put, List.setIfInBounds_toArray, List.set_cons_zero, List.set_cons_succ])
  refine seq_take ?_ (by rfl) (fun wx hSx => ?_) ?_
  rotate_left
  · (unfold SB at hSx; go_simp; (try with_reducible rfl))
  (try simp only [Act.put, List.setIfInBounds_toArray, List.set_cons_zero, List.set_cons_succ])
  refine seq_take ?_ (by rfl) (fun wx hSx => ?_) ?_
  rotate_left
  · (unfold SB at hSx; go_simp; (try with_reducible rfl))
  (try simp only [Act.put, List.setIfInBounds_toArray, List.set_cons_zero, List.set_cons_succ])
  refine seq_take ?_ (by rfl) (fun wx hSx => ?_) ?_
  rotate_left
  · (unfold SB at hSx; go_simp; (try with_reducible rfl))
  (try simp only [Act.put, List.setIfInBounds_toArray, List.set_cons_zero, List.set_cons_succ])
  refine seq_take ?_ (by rfl) (fun wx hSx => ?_) ?_
  rotate_left
  · (unfold SB at hSx; go_simp; (try with_reducible rfl))
  (try simp only [Act.put, List.setIfInBounds_toArray, List.set_cons_zero, List.set_cons_succ])
  refine seq_take ?_ (by rfl) (fun wx hSx => ?_) ?_
  rotate_left
  · (unfold SB at hSx; go_simp; (try with_reducible rfl))
  (try simp only [Act.put, List.setIfInBounds_toArray, List.set_cons_zero, List.set_cons_succ])
  refine seq_take ?_ (by rfl) (fun wx hSx => ?_) ?_
  rotate_left
  · (unfold SB at hSx; go_simp; (try with_reducible rfl))
  (try simp only [Act.put, List.setIfInBounds_toArray, List.set_cons_zero, List.set_cons_succ])
  refine seq_run (by rfl) (fun K hK => ?_)
  go_simp
  refine hK.out _ _ ?_ (fun hHeld => ?_)
  · (repeat (first | (with_reducible exact SB.refl) | (with_reducible exact hHeld) | (with_reducible refine SB.drew ?_) | (with_reducible refine SB.drewN ?_ _) | ((with_reducible refine SB.alloc ?_ ?_ _); (rotate_left); (first | omega | (simp <;> omega))) | ((with_reducible refine SB.setCell ?_ ?_ _); (rotate_left); (focus (first | (simp; done) | (right; first | omega | (simp <;> omega))))) | ((with_reducible refine SB.below ?_ hbS ?_); (rotate_left); (first | omega | (simp <;> omega))) | ((with_reducible refine SB.below ?_ hbS1 ?_); (rotate_left); (first | omega | (simp <;> omega))) | ((with_reducible refine SB.below ?_ hbS2 ?_); (rotate_left); (first | omega | (simp <;> omega))) | ((with_reducible refine SB.below ?_ hbS3 ?_); (rotate_left); (first | omega | (simp <;> omega))) | ((with_reducible refine SB.below ?_ hbS4 ?_); (rotate_left); (first | omega | (simp <;> omega))) | (with_reducible refine SB.undrew ?_) | ((with_reducible refine SB.congr ?_ ?_); (rotate_left); (focus (simp; done))) | ((with_reducible refine SB.realloc ?_ ?_ ?_); (rotate_left); (focus (simp; done)); (focus (simp; done)))))
  clear hK K
  (try simp only [Act.put, List.setIfInBounds_toArray, List.set_cons_zero, List.set_cons_succ])
  refine seq_run (by rfl) (fun K hK => ?_)
  go_simp
  go_wp2_with (go_loud ((with_reducible refine (split_any (some ⟨w3.heap.size + 1, 0, none⟩) 1 1 (fun _ => 1000) (by omega) (fun k hk => by simp [IIn]) 1 _ (rowI_one (by simp) (by simp [go_sem])) (ht.below (by (repeat (first | (with_reducible exact Below.refl _ _) | (with_reducible assumption) | ((with_reducible refine Below.alloc ?_ ?_ _); (rotate_left); (first | omega | (simp <;> omega))) | ((with_reducible refine Below.setCell ?_ ?_ _); (rotate_left); (first | omega | (simp <;> omega))) | (with_reducible refine Below.drew ?_) | (with_reducible refine below_drewN ?_ _)))))).mono ?_); rintro e w5 ⟨A5, c5, rfl, hr5, hbS⟩; rw [show shs 1 = 1 by decide]; have z5 := hbS.size; simp at z5))
  refine hK.out _ _ ?_ (fun hHeld => ?_)
  · (repeat (first | (with_reducible exact SB.refl) | (with_reducible exact hHeld) | (with_reducible refine SB.drew ?_) | (with_reducible refine SB.drewN ?_ _) | ((with_reducible refine SB.alloc ?_ ?_ _); (rotate_left); (first | omega | (simp <;> omega))) | ((with_reducible refine SB.setCell ?_ ?_ _); (rotate_left); (focus (first | (simp; done) | (right; first | omega | (simp <;> omega))))) | ((with_reducible refine SB.below ?_ hbS ?_); (rotate_left); (first | omega | (simp <;> omega))) | ((with_reducible refine SB.below ?_ hbS1 ?_); (rotate_left); (first | omega | (simp <;> omega))) | ((with_reducible refine SB.below ?_ hbS2 ?_); (rotate_left); (first | omega | (simp <;> omega))) | ((with_reducible refine SB.below ?_ hbS3 ?_); (rotate_left); (first | omega | (simp <;> omega))) | ((with_reducible refine SB.below ?_ hbS4 ?_); (rotate_left); (first | omega | (simp <;> omega))) | (with_reducible refine SB.undrew ?_) | ((with_reducible refine SB.congr ?_ ?_); (rotate_left); (focus (simp; done))) | ((with_reducible refine SB.realloc ?_ ?_ ?_); (rotate_left); (focus (simp; done)); (focus (simp; done)))))
  clear hK K
  (try simp only [Act.put, List.setIfInBounds_toArray, List.set_cons_zero, List.set_cons_succ])
  refine seq_take ?_ (by rfl) (fun wx hSx => ?_) ?_
  rotate_left
  · (unfold SB at hSx; go_simp; (try with_reducible rfl))
  (try simp only [Act.put, List.setIfInBounds_toArray, List.set_cons_zero, List.set_cons_succ])
  refine seq_take ?_ (by rfl) (fun wx hSx => ?_) ?_
  rotate_left
  · (unfold SB at hSx; go_simp; (try with_reducible rfl))
  (try simp only [Act.put, List.setIfInBounds_toArray, List.set_cons_zero, List.set_cons_succ])
  refine seq_take ?_ (by rfl) (fun wx hSx => ?_) ?_
  rotate_left
  · (unfold SB at hSx; go_simp; (try with_reducible rfl))
  (try simp only [Act.put, List.setIfInBounds_toArray, List.set_cons_zero, List.set_cons_succ])
  refine seq_take ?_ (by rfl) (fun wx hSx => ?_) ?_
  rotate_left
  · (unfold SB at hSx; go_simp; (try with_reducible rfl))
  (try simp only [Act.put, List.setIfInBounds_toArray, List.set_cons_zero, List.set_cons_succ])
  refine seq_take ?_ (by rfl) (fun wx hSx => ?_) ?_
  rotate_left
  · (unfold SB at hSx; go_simp; (try with_reducible rfl))
  (try simp only [Act.put, List.setIfInBounds_toArray, List.set_cons_zero, List.set_cons_succ])
  refine seq_run (by rfl) (fun K hK => ?_)
  go_simp
  go_wp2_with (((with_reducible refine (check_any _ _ _ _ _).mono ?_); rintro e w6 ⟨rfl, hbS1⟩; rw [show chkR false 0 0 0 = 0 by decide]; have z6 := hbS1.size))
  refine hK.out _ _ ?_ (fun hHeld => ?_)
  · (repeat (first | (with_reducible exact SB.refl) | (with_reducible exact hHeld) | (with_reducible refine SB.drew ?_) | (with_reducible refine SB.drewN ?_ _) | ((with_reducible refine SB.alloc ?_ ?_ _); (rotate_left); (first | omega | (simp <;> omega))) | ((with_reducible refine SB.setCell ?_ ?_ _); (rotate_left); (focus (first | (simp; done) | (right; first | omega | (simp <;> omega))))) | ((with_reducible refine SB.below ?_ hbS ?_); (rotate_left); (first | omega | (simp <;> omega))) | ((with_reducible refine SB.below ?_ hbS1 ?_); (rotate_left); (first | omega | (simp <;> omega))) | ((with_reducible refine SB.below ?_ hbS2 ?_); (rotate_left); (first | omega | (simp <;> omega))) | ((with_reducible refine SB.below ?_ hbS3 ?_); (rotate_left); (first | omega | (simp <;> omega))) | ((with_reducible refine SB.below ?_ hbS4 ?_); (rotate_left); (first | omega | (simp <;> omega))) | (with_reducible refine SB.undrew ?_) | ((with_reducible refine SB.congr ?_ ?_); (rotate_left); (focus (simp; done))) | ((with_reducible refine SB.realloc ?_ ?_ ?_); (rotate_left); (focus (simp; done)); (focus (simp; done)))))
  clear hK K
  (try simp only [Act.put, List.setIfInBounds_toArray, List.set_cons_zero, List.set_cons_succ])
  refine seq_take ?_ (by rfl) (fun wx hSx => ?_) ?_
  rotate_left
  · (unfold SB at hSx; go_simp; (try with_reducible rfl))
  (try simp only [Act.put, List.setIfInBounds_toArray, List.set_cons_zero, List.set_cons_succ])
  refine seq_take ?_ (by rfl) (fun wx hSx => ?_) ?_
  rotate_left
  · (unfold SB at hSx; go_simp; (try with_reducible rfl))
  (try simp only [Act.put, List.setIfInBounds_toArray, List.set_cons_zero, List.set_cons_succ])
  refine seq_take ?_ (by rfl) (fun wx hSx => ?_) ?_
  rotate_left
  · (unfold SB at hSx; go_simp; (try with_reducible rfl))
  (try simp only [Act.put, List.setIfInBounds_toArray, List.set_cons_zero, List.set_cons_succ])
  refine seq_take ?_ (by rfl) (fun wx hSx => ?_) ?_
  rotate_left
  · (unfold SB at hSx; go_simp; (try with_reducible rfl))
  (try simp only [Act.put, List.setIfInBounds_toArray, List.set_cons_zero, List.set_cons_succ])
  refine seq_run (by rfl) (fun K hK => ?_)
  go_simp
  go_wp2_with (((with_reducible refine (check_any _ _ _ _ _).mono ?_); rintro e w7 ⟨rfl, hbS2⟩; rw [show chkR true 0 0 0 = 1 by decide]; have z7 := hbS2.size))
  refine hK.out _ _ ?_ (fun hHeld => ?_)
  · (repeat (first | (with_reducible exact SB.refl) | (with_reducible exact hHeld) | (with_reducible refine SB.drew ?_) | (with_reducible refine SB.drewN ?_ _) | ((with_reducible refine SB.alloc ?_ ?_ _); (rotate_left); (first | omega | (simp <;> omega))) | ((with_reducible refine SB.setCell ?_ ?_ _); (rotate_left); (focus (first | (simp; done) | (right; first | omega | (simp <;> omega))))) | ((with_reducible refine SB.below ?_ hbS ?_); (rotate_left); (first | omega | (simp <;> omega))) | ((with_reducible refine SB.below ?_ hbS1 ?_); (rotate_left); (first | omega | (simp <;> omega))) | ((with_reducible refine SB.below ?_ hbS2 ?_); (rotate_left); (first | omega | (simp <;> omega))) | ((with_reducible refine SB.below ?_ hbS3 ?_); (rotate_left); (first | omega | (simp <;> omega))) | ((with_reducible refine SB.below ?_ hbS4 ?_); (rotate_left); (first | omega | (simp <;> omega))) | (with_reducible refine SB.undrew ?_) | ((with_reducible refine SB.congr ?_ ?_); (rotate_left); (focus (simp; done))) | ((with_reducible refine SB.realloc ?_ ?_ ?_); (rotate_left); (focus (simp; done)); (focus (simp; done)))))
  clear hK K
  (try simp only [Act.put, List.setIfInBounds_toArray, List.set_cons_zero, List.set_cons_succ])
  refine seq_take ?_ (by rfl) (fun wx hSx => ?_) ?_
  rotate_left
  · (unfold SB at hSx; go_simp; (try with_reducible rfl))
  (try simp only [Act.put, List.setIfInBounds_toArray, List.set_cons_zero, List.set_cons_succ])
  refine seq_take ?_ (by rfl) (fun wx hSx => ?_) ?_
  rotate_left
  · (unfold SB at hSx; go_simp; (try with_reducible rfl))
  (try simp only [Act.put, List.setIfInBounds_toArray, List.set_cons_zero, List.set_cons_succ])
  refine seq_take ?_ (by rfl) (fun wx hSx => ?_) ?_
  rotate_left
  · (unfold SB at hSx; go_simp; (try with_reducible rfl))
  (try simp only [Act.put, List.setIfInBounds_toArray, List.set_cons_zero, List.set_cons_succ])
  refine seq_end ?_
  go_wp2_with fail
  go_ret
  exact ⟨rfl, (((((hb4.alloc hz4 _).alloc (by simp; omega) _).drew).trans (hbS.mono (by simp; omega))).trans (hbS1.mono (by omega))).trans (hbS2.mono (by omega))⟩
end Go.Proofs.YtapfofnicbhoeaaDoor
