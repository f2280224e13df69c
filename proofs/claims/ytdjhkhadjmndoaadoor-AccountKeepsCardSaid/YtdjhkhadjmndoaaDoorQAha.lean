/- Texts laid together: Aha. -/
import Derived.Test.YtdjhkhadjmndoaaDoorQAgW
namespace Go.Proofs.YtdjhkhadjmndoaaDoor
set_option maxRecDepth 4000
set_option linter.unusedSimpArgs false
set_option linter.unusedVariables false
open Go.RowKit
theorem gen_w {P : Program} {Q : Exit → Act → World → Prop} {a : Act} {c : Code} (S : World → Prop) {w : World} (hs : S w) (h : ∀ w, S w → c.wp P Q a w) : c.wp P Q a w := h w hs
def LvA (ab : Nat) (s : ByteArray) (w W : World) : Prop := Below w.heap.size w W ∧ w.heap.size ≤ ab ∧ W.heap[ab]? = some (.cells #[.int .i64 1000, .int .i64 5, .int .i64 0, .int .i64 0, .string ⟨#[97, 110, 110]⟩, .string ⟨#[103, 105, 114, 111]⟩, .string s] 44 (0, 0))
def LvB (W : World) (v2 v3 : Value) (wx : World) : Prop := ∃ p D, v2 = .pointer (some ⟨p, 0, none⟩) ∧ v3 = .int .i64 0 ∧ wx.heap[p]? = some (.cells D 41 (0, 0)) ∧ ElT (Old wx) wx 15 bkA D ∧ Below W.heap.size W wx ∧ W.heap.size ≤ p
set_option maxRecDepth 20000 in
set_option maxHeartbeats 16000000 in
theorem lives_any (w : World) (ht : Tab w) : Calls Tryd.prog 11 #[] w fun e w' => e = .returned (.bool true) ∧ Below w.heap.size w w' := by
  obtain ⟨s, hs⟩ : ∃ s : ByteArray, s = ⟨(numI 1000).toArray⟩ := ⟨_, rfl⟩
  obtain ⟨i0, Z, hi0, hi1, hi2, hi3, hi4⟩ := zb_zero
  obtain ⟨i1, Z1, ho0, ho1, ho2⟩ := pz_zero
  have HI := hide (And.intro hi0 hi1)
  have HZS := hide hi2
  have HI1 := hide (And.intro ho0 ho1)
  have HZS1 := hide ho2
  have HS := hide hs
  have HNR := hide (fun W => by have t := numberR_any 1000 W; rw [← hs] at t; exact t)
  have HNP := hide (fun W (h : Tab W) => by have t := number_any 1000 W h; rw [← hs] at t; exact t)
  have HT := hide ht
  clear ht hs hi0 hi1 hi2 hi3 hi4 ho0 ho1 ho2
  go_enter Tryd.func11, Tryd.ntmps11
  go_wp2_with fail
  refine (HNR.out _).mono ?_
  rintro e w1 ⟨rfl, hb⟩
  go_upto_region 2 with fail
  refine gen_w (LvA w1.heap.size s w) ⟨by refine hb.trans ?_; have := hb.size; (repeat (first | (with_reducible first | exact Below.refl _ _ | assumption | refine Below.drew ?_) | ((with_reducible first | refine Below.alloc ?_ ?_ _ | refine Below.setCell ?_ ?_ _); rotate_left; (first | omega | (simp <;> omega))))), hb.size, blk_new rfl⟩ ?_
  clear hb
  generalize w1.heap.size = ab at *
  rintro W ⟨hW, hab, hA⟩
  have HA := hide hA
  have HW := hide hW
  have HTW := hide (HT.out.below hW)
  have hab2 := heap_lt hA
  have y0 := cell_of_cells hA 0
  have y1 := cell_of_cells hA 1
  have y2 := cell_of_cells hA 2
  have y3 := cell_of_cells hA 3
  have y4 := cell_of_cells hA 4
  have y5 := cell_of_cells hA 5
  have y6 := cell_of_cells hA 6
  clear hA hW
  go_cut [2, 3] (fun v2 v3 wx => LvB W v2 v3 wx)
  case first =>
    refine ord_start (SB (W.heap.size) [] _) 9 (preB 0 9) (by kernel_rfl) (by kernel_rfl) (by kernel_rfl) SB.refl.drew (fun hHeld => ?_)
    refine ord_take (i := 1) #[false, true, false, false, false, false, false, false, false] ?_ rfl (by kernel_rfl) (by kernel_rfl) (by kernel_rfl) (by kernel_rfl) (fun _ _ _ h => h) hHeld (by rfl) (fun wx hSx => ?_) ?_
    rotate_left
    · (unfold SB at hSx; go_simp; (try with_reducible rfl))
    (try simp only [Act.put, putA, putB, putC])
    refine wpAnyH_ready (rs := [0, 6]) (by kernel_rfl) (by simp) ?_
    refine ord_run (i := 0) (preB 2 7) rfl (by kernel_rfl) (by rfl) (fun K hK => ?_) ?_
    · go_simp
      go_wp2_with (go_at_call 31; refine (sample_any _).mono ?_; rintro e w2 ⟨C, rfl, hC, hb⟩; have hbS := hb; have hbS1 := hb; have HbA := hide hb; have HC := hide hC; have zA := hb.size; (try simp at zA); have JA := hide (show Below W.heap.size W w2 from Below.trans (by (repeat (first | (with_reducible first | exact Below.refl _ _ | assumption | refine Below.drew ?_) | ((with_reducible first | refine Below.alloc ?_ ?_ _ | refine Below.setCell ?_ ?_ _); rotate_left; (first | omega | (simp <;> omega)))))) (hb.mono (by first | omega | (simp <;> omega)))); have zJ := JA.out.size; clear hb hC)
      refine hK.out _ _ ?_ (fun hHeld => ?_)
      · (repeat (first | (with_reducible first | exact SB.refl | exact hHeld | refine SB.drew ?_ | refine SB.drewN ?_ _) | ((with_reducible first | refine SB.alloc ?_ ?_ _ | refine SB.below ?_ hbS ?_ | refine SB.below ?_ hbS1 ?_ | refine SB.below ?_ hbS2 ?_ | refine SB.below ?_ hbS3 ?_ | refine SB.below ?_ hbS4 ?_); rotate_left; (first | omega | (simp <;> omega))) | ((with_reducible refine SB.setCell ?_ ?_ _); rotate_left; (focus (first | (simp; done) | (right; first | omega | (simp <;> omega))))) | (with_reducible refine SB.undrew ?_) | ((with_reducible refine SB.congr ?_ ?_); rotate_left; (focus (simp; done))) | ((with_reducible refine SB.realloc ?_ ?_ ?_); rotate_left; (focus (simp; done)); (focus (simp; done)))))
      clear hK K
      (try simp only [Act.put, putA, putB, putC])
      refine wpAnyH_ready (rs := [2, 6]) (by kernel_rfl) (by simp) ?_
      refine ord_run (i := 2) (preB 3 6) rfl (by kernel_rfl) (by rfl) (fun K hK => ?_) ?_
      · go_simp
        go_wp2_with (go_at_call 23; refine (lv_open HS.out _ (HTW.out.below (JA.out.trans (by (repeat (first | (with_reducible first | exact Below.refl _ _ | assumption | refine Below.drew ?_) | ((with_reducible first | refine Below.alloc ?_ ?_ _ | refine Below.setCell ?_ ?_ _); rotate_left; (first | omega | (simp <;> omega)))))))) (HC.out.below (by (repeat (first | (with_reducible first | exact Below.refl _ _ | assumption | refine Below.drew ?_) | ((with_reducible first | refine Below.alloc ?_ ?_ _ | refine Below.setCell ?_ ?_ _); rotate_left; (first | omega | (simp <;> omega)))))))).mono ?_; rintro e w3 ⟨D, rfl, hD, hb⟩; have hbS2 := hb; have HbB := hide hb; have HD := hide hD; have HDI := hide (zb_size (C := D) hD.size); have HDZ := hide (show Z.size = D.size from HZS.out.trans hD.size.symm); have zB := hb.size; (try simp at zB); have JB := hide (show Below W.heap.size W w3 from JA.out.trans (Below.trans (by (repeat (first | (with_reducible first | exact Below.refl _ _ | assumption | refine Below.drew ?_) | ((with_reducible first | refine Below.alloc ?_ ?_ _ | refine Below.setCell ?_ ?_ _); rotate_left; (first | omega | (simp <;> omega)))))) (hb.mono (by first | omega | (simp <;> omega))))); have zK := JB.out.size; clear hb hD)
        refine hK.out _ _ ?_ (fun hHeld => ?_)
        · (repeat (first | (with_reducible first | exact SB.refl | exact hHeld | refine SB.drew ?_ | refine SB.drewN ?_ _) | ((with_reducible first | refine SB.alloc ?_ ?_ _ | refine SB.below ?_ hbS ?_ | refine SB.below ?_ hbS1 ?_ | refine SB.below ?_ hbS2 ?_ | refine SB.below ?_ hbS3 ?_ | refine SB.below ?_ hbS4 ?_); rotate_left; (first | omega | (simp <;> omega))) | ((with_reducible refine SB.setCell ?_ ?_ _); rotate_left; (focus (first | (simp; done) | (right; first | omega | (simp <;> omega))))) | (with_reducible refine SB.undrew ?_) | ((with_reducible refine SB.congr ?_ ?_); rotate_left; (focus (simp; done))) | ((with_reducible refine SB.realloc ?_ ?_ ?_); rotate_left; (focus (simp; done)); (focus (simp; done)))))
        clear hK K
        (try simp only [Act.put, putA, putB, putC])
        refine ord_take (i := 3) (preB 4 5) ?_ rfl (by kernel_rfl) (by kernel_rfl) (by kernel_rfl) (by kernel_rfl) (fun _ _ _ h => h) hHeld (by rfl) (fun wx hSx => ?_) ?_
        rotate_left
        · (unfold SB at hSx; go_simp; (try with_reducible rfl))
        (try simp only [Act.put, putA, putB, putC])
        refine ord_take (i := 4) (preB 5 4) ?_ rfl (by kernel_rfl) (by kernel_rfl) (by kernel_rfl) (by kernel_rfl) (fun _ _ _ h => h) hHeld (by rfl) (fun wx hSx => ?_) ?_
        rotate_left
        · (unfold SB at hSx; go_simp; (try with_reducible rfl))
        (try simp only [Act.put, putA, putB, putC])
        refine ord_take (i := 5) (preB 6 3) ?_ rfl (by kernel_rfl) (by kernel_rfl) (by kernel_rfl) (by kernel_rfl) (fun _ _ _ h => h) hHeld (by rfl) (fun wx hSx => ?_) ?_
        rotate_left
        · (unfold SB at hSx; go_simp; (try with_reducible rfl))
        (try simp only [Act.put, putA, putB, putC])
        refine wpAnyH_ready (rs := [6]) (by kernel_rfl) (by simp) ?_
        refine ord_run (i := 6) (preB 7 2) rfl (by kernel_rfl) (by rfl) (fun K hK => ?_) AllReadyH.nil
        ((first | (refine wp_alloc_row 41 rfl i0 HI.out.1 Z HI.out.2 w3.heap.size rfl ?_) | (refine wp_alloc_row 41 rfl i0 HI.out.1 Z HI.out.2 w2.heap.size rfl ?_) | (refine wp_alloc_row 41 rfl i0 HI.out.1 Z HI.out.2 W.heap.size rfl ?_)))
        refine hK.out _ _ ?_ (fun hHeld => ?_)
        · (repeat (first | (with_reducible first | exact SB.refl | exact hHeld | refine SB.drew ?_ | refine SB.drewN ?_ _) | ((with_reducible first | refine SB.alloc ?_ ?_ _ | refine SB.below ?_ hbS ?_ | refine SB.below ?_ hbS1 ?_ | refine SB.below ?_ hbS2 ?_ | refine SB.below ?_ hbS3 ?_ | refine SB.below ?_ hbS4 ?_); rotate_left; (first | omega | (simp <;> omega))) | ((with_reducible refine SB.setCell ?_ ?_ _); rotate_left; (focus (first | (simp; done) | (right; first | omega | (simp <;> omega))))) | (with_reducible refine SB.undrew ?_) | ((with_reducible refine SB.congr ?_ ?_); rotate_left; (focus (simp; done))) | ((with_reducible refine SB.realloc ?_ ?_ ?_); rotate_left; (focus (simp; done)); (focus (simp; done)))))
        clear hK K
        (try simp only [Act.put, putA, putB, putC])
        refine wpAnyH_ready (rs := [7]) (by kernel_rfl) (by simp) ?_
        refine ord_run (i := 7) (preB 8 1) rfl (by kernel_rfl) (by rfl) (fun K hK => ?_) AllReadyH.nil
        ((first | (refine wp_store_newrow 41 (.tmp 2) (.tmp 20) rfl rfl w3.heap.size D rfl rfl 41 Z (blk_new rfl) HDI.out HDZ.out HD.out.ones ?_) | (refine wp_store_newrow 41 (.tmp 2) (.tmp 20) rfl rfl w2.heap.size D rfl rfl 41 Z (blk_below HbB.out (by first | omega | (simp <;> omega)) (blk_new rfl)) HDI.out HDZ.out HD.out.ones ?_) | (refine wp_store_newrow 41 (.tmp 2) (.tmp 20) rfl rfl W.heap.size D rfl rfl 41 Z (blk_below HbB.out (by first | omega | (simp <;> omega)) (blk_below HbA.out (by first | omega | (simp <;> omega)) (blk_new rfl))) HDI.out HDZ.out HD.out.ones ?_)); intro w5 hb5 hs5 hx5 hk5; have hbS3 := hb5)
        refine hK.out _ _ ?_ (fun hHeld => ?_)
        · (repeat (first | (with_reducible first | exact SB.refl | exact hHeld | refine SB.drew ?_ | refine SB.drewN ?_ _) | ((with_reducible first | refine SB.alloc ?_ ?_ _ | refine SB.below ?_ hbS ?_ | refine SB.below ?_ hbS1 ?_ | refine SB.below ?_ hbS2 ?_ | refine SB.below ?_ hbS3 ?_ | refine SB.below ?_ hbS4 ?_); rotate_left; (first | omega | (simp <;> omega))) | ((with_reducible refine SB.setCell ?_ ?_ _); rotate_left; (focus (first | (simp; done) | (right; first | omega | (simp <;> omega))))) | (with_reducible refine SB.undrew ?_) | ((with_reducible refine SB.congr ?_ ?_); rotate_left; (focus (simp; done))) | ((with_reducible refine SB.realloc ?_ ?_ ?_); rotate_left; (focus (simp; done)); (focus (simp; done)))))
        clear hK K
        (try simp only [Act.put, putA, putB, putC])
        refine ord_take (i := 8) (preB 9 0) ?_ rfl (by kernel_rfl) (by kernel_rfl) (by kernel_rfl) (by kernel_rfl) (fun _ _ _ h => h) hHeld (by rfl) (fun wx hSx => ?_) ?_
        rotate_left
        · (unfold SB at hSx; go_simp; (try with_reducible rfl))
        (try simp only [Act.put, putA, putB, putC])
        refine wpAnyH_done (by kernel_rfl) ?_ _
        go_wp2_with fail
        go_meet
        refine ⟨_, D, rfl, rfl, hx5, ?_, ?_, ?_⟩
        · refine HD.out.mono (fun b h => ?_) (fun b h => ?_)
          · have h2 := h.2
            try simp at hs5
            show b < w5.heap.size
            omega
          · refine (hk5 b ?_).trans ?_
            · have h1 := h.1
              have h2 := h.2
              try simp at h1
              first | omega | (simp; omega)
            · first | rfl | exact Go.Deep.blk_alloc_lt _ _ _ h.2
        · exact JB.out.trans (Below.trans (by (repeat (first | (with_reducible first | exact Below.refl _ _ | assumption | refine Below.drew ?_) | ((with_reducible first | refine Below.alloc ?_ ?_ _ | refine Below.setCell ?_ ?_ _); rotate_left; (first | omega | (simp <;> omega)))))) (hb5.mono (by first | omega | (simp <;> omega))))
        · first | omega | (simp <;> omega)
      refine ord_run (i := 6) #[true, true, false, false, false, false, true, false, false] rfl (by kernel_rfl) (by rfl) (fun K hK => ?_) ?_
      · ((first | (refine wp_alloc_row 41 rfl i0 HI.out.1 Z HI.out.2 w3.heap.size rfl ?_) | (refine wp_alloc_row 41 rfl i0 HI.out.1 Z HI.out.2 w2.heap.size rfl ?_) | (refine wp_alloc_row 41 rfl i0 HI.out.1 Z HI.out.2 W.heap.size rfl ?_)))
        refine hK.out _ _ ?_ (fun hHeld => ?_)
        · (repeat (first | (with_reducible first | exact SB.refl | exact hHeld | refine SB.drew ?_ | refine SB.drewN ?_ _) | ((with_reducible first | refine SB.alloc ?_ ?_ _ | refine SB.below ?_ hbS ?_ | refine SB.below ?_ hbS1 ?_ | refine SB.below ?_ hbS2 ?_ | refine SB.below ?_ hbS3 ?_ | refine SB.below ?_ hbS4 ?_); rotate_left; (first | omega | (simp <;> omega))) | ((with_reducible refine SB.setCell ?_ ?_ _); rotate_left; (focus (first | (simp; done) | (right; first | omega | (simp <;> omega))))) | (with_reducible refine SB.undrew ?_) | ((with_reducible refine SB.congr ?_ ?_); rotate_left; (focus (simp; done))) | ((with_reducible refine SB.realloc ?_ ?_ ?_); rotate_left; (focus (simp; done)); (focus (simp; done)))))
        clear hK K
        (try simp only [Act.put, putA, putB, putC])
        refine wpAnyH_ready (rs := [2]) (by kernel_rfl) (by simp) ?_
        refine ord_run (i := 2) #[true, true, true, false, false, false, true, false, false] rfl (by kernel_rfl) (by rfl) (fun K hK => ?_) AllReadyH.nil
        go_simp
        go_wp2_with (go_at_call 23; refine (lv_open HS.out _ (HTW.out.below (JA.out.trans (by (repeat (first | (with_reducible first | exact Below.refl _ _ | assumption | refine Below.drew ?_) | ((with_reducible first | refine Below.alloc ?_ ?_ _ | refine Below.setCell ?_ ?_ _); rotate_left; (first | omega | (simp <;> omega)))))))) (HC.out.below (by (repeat (first | (with_reducible first | exact Below.refl _ _ | assumption | refine Below.drew ?_) | ((with_reducible first | refine Below.alloc ?_ ?_ _ | refine Below.setCell ?_ ?_ _); rotate_left; (first | omega | (simp <;> omega)))))))).mono ?_; rintro e w3 ⟨D, rfl, hD, hb⟩; have hbS2 := hb; have HbB := hide hb; have HD := hide hD; have HDI := hide (zb_size (C := D) hD.size); have HDZ := hide (show Z.size = D.size from HZS.out.trans hD.size.symm); have zB := hb.size; (try simp at zB); have JB := hide (show Below W.heap.size W w3 from JA.out.trans (Below.trans (by (repeat (first | (with_reducible first | exact Below.refl _ _ | assumption | refine Below.drew ?_) | ((with_reducible first | refine Below.alloc ?_ ?_ _ | refine Below.setCell ?_ ?_ _); rotate_left; (first | omega | (simp <;> omega)))))) (hb.mono (by first | omega | (simp <;> omega))))); have zK := JB.out.size; clear hb hD)
        refine hK.out _ _ ?_ (fun hHeld => ?_)
        · (repeat (first | (with_reducible first | exact SB.refl | exact hHeld | refine SB.drew ?_ | refine SB.drewN ?_ _) | ((with_reducible first | refine SB.alloc ?_ ?_ _ | refine SB.below ?_ hbS ?_ | refine SB.below ?_ hbS1 ?_ | refine SB.below ?_ hbS2 ?_ | refine SB.below ?_ hbS3 ?_ | refine SB.below ?_ hbS4 ?_); rotate_left; (first | omega | (simp <;> omega))) | ((with_reducible refine SB.setCell ?_ ?_ _); rotate_left; (focus (first | (simp; done) | (right; first | omega | (simp <;> omega))))) | (with_reducible refine SB.undrew ?_) | ((with_reducible refine SB.congr ?_ ?_); rotate_left; (focus (simp; done))) | ((with_reducible refine SB.realloc ?_ ?_ ?_); rotate_left; (focus (simp; done)); (focus (simp; done)))))
        clear hK K
        (try simp only [Act.put, putA, putB, putC])
        refine ord_take (i := 3) #[true, true, true, true, false, false, true, false, false] ?_ rfl (by kernel_rfl) (by kernel_rfl) (by kernel_rfl) (by kernel_rfl) (fun _ _ _ h => h) hHeld (by rfl) (fun wx hSx => ?_) ?_
        rotate_left
        · (unfold SB at hSx; go_simp; (try with_reducible rfl))
        (try simp only [Act.put, putA, putB, putC])
        refine ord_take (i := 4) #[true, true, true, true, true, false, true, false, false] ?_ rfl (by kernel_rfl) (by kernel_rfl) (by kernel_rfl) (by kernel_rfl) (fun _ _ _ h => h) hHeld (by rfl) (fun wx hSx => ?_) ?_
        rotate_left
        · (unfold SB at hSx; go_simp; (try with_reducible rfl))
        (try simp only [Act.put, putA, putB, putC])
        refine ord_take (i := 5) (preB 7 2) ?_ rfl (by kernel_rfl) (by kernel_rfl) (by kernel_rfl) (by kernel_rfl) (fun _ _ _ h => h) hHeld (by rfl) (fun wx hSx => ?_) ?_
        rotate_left
        · (unfold SB at hSx; go_simp; (try with_reducible rfl))
        (try simp only [Act.put, putA, putB, putC])
        refine wpAnyH_ready (rs := [7]) (by kernel_rfl) (by simp) ?_
        refine ord_run (i := 7) (preB 8 1) rfl (by kernel_rfl) (by rfl) (fun K hK => ?_) AllReadyH.nil
        ((first | (refine wp_store_newrow 41 (.tmp 2) (.tmp 20) rfl rfl w3.heap.size D rfl rfl 41 Z (blk_new rfl) HDI.out HDZ.out HD.out.ones ?_) | (refine wp_store_newrow 41 (.tmp 2) (.tmp 20) rfl rfl w2.heap.size D rfl rfl 41 Z (blk_below HbB.out (by first | omega | (simp <;> omega)) (blk_new rfl)) HDI.out HDZ.out HD.out.ones ?_) | (refine wp_store_newrow 41 (.tmp 2) (.tmp 20) rfl rfl W.heap.size D rfl rfl 41 Z (blk_below HbB.out (by first | omega | (simp <;> omega)) (blk_below HbA.out (by first | omega | (simp <;> omega)) (blk_new rfl))) HDI.out HDZ.out HD.out.ones ?_)); intro w5 hb5 hs5 hx5 hk5; have hbS3 := hb5)
        refine hK.out _ _ ?_ (fun hHeld => ?_)
        · (repeat (first | (with_reducible first | exact SB.refl | exact hHeld | refine SB.drew ?_ | refine SB.drewN ?_ _) | ((with_reducible first | refine SB.alloc ?_ ?_ _ | refine SB.below ?_ hbS ?_ | refine SB.below ?_ hbS1 ?_ | refine SB.below ?_ hbS2 ?_ | refine SB.below ?_ hbS3 ?_ | refine SB.below ?_ hbS4 ?_); rotate_left; (first | omega | (simp <;> omega))) | ((with_reducible refine SB.setCell ?_ ?_ _); rotate_left; (focus (first | (simp; done) | (right; first | omega | (simp <;> omega))))) | (with_reducible refine SB.undrew ?_) | ((with_reducible refine SB.congr ?_ ?_); rotate_left; (focus (simp; done))) | ((with_reducible refine SB.realloc ?_ ?_ ?_); rotate_left; (focus (simp; done)); (focus (simp; done)))))
        clear hK K
        (try simp only [Act.put, putA, putB, putC])
        refine ord_take (i := 8) (preB 9 0) ?_ rfl (by kernel_rfl) (by kernel_rfl) (by kernel_rfl) (by kernel_rfl) (fun _ _ _ h => h) hHeld (by rfl) (fun wx hSx => ?_) ?_
        rotate_left
        · (unfold SB at hSx; go_simp; (try with_reducible rfl))
        (try simp only [Act.put, putA, putB, putC])
        refine wpAnyH_done (by kernel_rfl) ?_ _
        go_wp2_with fail
        go_meet
        refine ⟨_, D, rfl, rfl, hx5, ?_, ?_, ?_⟩
        · refine HD.out.mono (fun b h => ?_) (fun b h => ?_)
          · have h2 := h.2
            try simp at hs5
            show b < w5.heap.size
            omega
          · refine (hk5 b ?_).trans ?_
            · have h1 := h.1
              have h2 := h.2
              try simp at h1
              first | omega | (simp; omega)
            · first | rfl | exact Go.Deep.blk_alloc_lt _ _ _ h.2
        · exact JB.out.trans (Below.trans (by (repeat (first | (with_reducible first | exact Below.refl _ _ | assumption | refine Below.drew ?_) | ((with_reducible first | refine Below.alloc ?_ ?_ _ | refine Below.setCell ?_ ?_ _); rotate_left; (first | omega | (simp <;> omega)))))) (hb5.mono (by first | omega | (simp <;> omega))))
        · first | omega | (simp <;> omega)
      exact AllReadyH.nil
    refine ord_run (i := 6) #[false, true, false, false, false, false, true, false, false] rfl (by kernel_rfl) (by rfl) (fun K hK => ?_) ?_
    · ((first | (refine wp_alloc_row 41 rfl i0 HI.out.1 Z HI.out.2 w3.heap.size rfl ?_) | (refine wp_alloc_row 41 rfl i0 HI.out.1 Z HI.out.2 w2.heap.size rfl ?_) | (refine wp_alloc_row 41 rfl i0 HI.out.1 Z HI.out.2 W.heap.size rfl ?_)))
      refine hK.out _ _ ?_ (fun hHeld => ?_)
      · (repeat (first | (with_reducible first | exact SB.refl | exact hHeld | refine SB.drew ?_ | refine SB.drewN ?_ _) | ((with_reducible first | refine SB.alloc ?_ ?_ _ | refine SB.below ?_ hbS ?_ | refine SB.below ?_ hbS1 ?_ | refine SB.below ?_ hbS2 ?_ | refine SB.below ?_ hbS3 ?_ | refine SB.below ?_ hbS4 ?_); rotate_left; (first | omega | (simp <;> omega))) | ((with_reducible refine SB.setCell ?_ ?_ _); rotate_left; (focus (first | (simp; done) | (right; first | omega | (simp <;> omega))))) | (with_reducible refine SB.undrew ?_) | ((with_reducible refine SB.congr ?_ ?_); rotate_left; (focus (simp; done))) | ((with_reducible refine SB.realloc ?_ ?_ ?_); rotate_left; (focus (simp; done)); (focus (simp; done)))))
      clear hK K
      (try simp only [Act.put, putA, putB, putC])
      refine wpAnyH_ready (rs := [0]) (by kernel_rfl) (by simp) ?_
      refine ord_run (i := 0) #[true, true, false, false, false, false, true, false, false] rfl (by kernel_rfl) (by rfl) (fun K hK => ?_) AllReadyH.nil
      go_simp
      go_wp2_with (go_at_call 31; refine (sample_any _).mono ?_; rintro e w2 ⟨C, rfl, hC, hb⟩; have hbS := hb; have hbS1 := hb; have HbA := hide hb; have HC := hide hC; have zA := hb.size; (try simp at zA); have JA := hide (show Below W.heap.size W w2 from Below.trans (by (repeat (first | (with_reducible first | exact Below.refl _ _ | assumption | refine Below.drew ?_) | ((with_reducible first | refine Below.alloc ?_ ?_ _ | refine Below.setCell ?_ ?_ _); rotate_left; (first | omega | (simp <;> omega)))))) (hb.mono (by first | omega | (simp <;> omega)))); have zJ := JA.out.size; clear hb hC)
      refine hK.out _ _ ?_ (fun hHeld => ?_)
      · (repeat (first | (with_reducible first | exact SB.refl | exact hHeld | refine SB.drew ?_ | refine SB.drewN ?_ _) | ((with_reducible first | refine SB.alloc ?_ ?_ _ | refine SB.below ?_ hbS ?_ | refine SB.below ?_ hbS1 ?_ | refine SB.below ?_ hbS2 ?_ | refine SB.below ?_ hbS3 ?_ | refine SB.below ?_ hbS4 ?_); rotate_left; (first | omega | (simp <;> omega))) | ((with_reducible refine SB.setCell ?_ ?_ _); rotate_left; (focus (first | (simp; done) | (right; first | omega | (simp <;> omega))))) | (with_reducible refine SB.undrew ?_) | ((with_reducible refine SB.congr ?_ ?_); rotate_left; (focus (simp; done))) | ((with_reducible refine SB.realloc ?_ ?_ ?_); rotate_left; (focus (simp; done)); (focus (simp; done)))))
      clear hK K
      (try simp only [Act.put, putA, putB, putC])
      refine wpAnyH_ready (rs := [2]) (by kernel_rfl) (by simp) ?_
      refine ord_run (i := 2) #[true, true, true, false, false, false, true, false, false] rfl (by kernel_rfl) (by rfl) (fun K hK => ?_) AllReadyH.nil
      go_simp
      go_wp2_with (go_at_call 23; refine (lv_open HS.out _ (HTW.out.below (JA.out.trans (by (repeat (first | (with_reducible first | exact Below.refl _ _ | assumption | refine Below.drew ?_) | ((with_reducible first | refine Below.alloc ?_ ?_ _ | refine Below.setCell ?_ ?_ _); rotate_left; (first | omega | (simp <;> omega)))))))) (HC.out.below (by (repeat (first | (with_reducible first | exact Below.refl _ _ | assumption | refine Below.drew ?_) | ((with_reducible first | refine Below.alloc ?_ ?_ _ | refine Below.setCell ?_ ?_ _); rotate_left; (first | omega | (simp <;> omega)))))))).mono ?_; rintro e w3 ⟨D, rfl, hD, hb⟩; have hbS2 := hb; have HbB := hide hb; have HD := hide hD; have HDI := hide (zb_size (C := D) hD.size); have HDZ := hide (show Z.size = D.size from HZS.out.trans hD.size.symm); have zB := hb.size; (try simp at zB); have JB := hide (show Below W.heap.size W w3 from JA.out.trans (Below.trans (by (repeat (first | (with_reducible first | exact Below.refl _ _ | assumption | refine Below.drew ?_) | ((with_reducible first | refine Below.alloc ?_ ?_ _ | refine Below.setCell ?_ ?_ _); rotate_left; (first | omega | (simp <;> omega)))))) (hb.mono (by first | omega | (simp <;> omega))))); have zK := JB.out.size; clear hb hD)
      refine hK.out _ _ ?_ (fun hHeld => ?_)
      · (repeat (first | (with_reducible first | exact SB.refl | exact hHeld | refine SB.drew ?_ | refine SB.drewN ?_ _) | ((with_reducible first | refine SB.alloc ?_ ?_ _ | refine SB.below ?_ hbS ?_ | refine SB.below ?_ hbS1 ?_ | refine SB.below ?_ hbS2 ?_ | refine SB.below ?_ hbS3 ?_ | refine SB.below ?_ hbS4 ?_); rotate_left; (first | omega | (simp <;> omega))) | ((with_reducible refine SB.setCell ?_ ?_ _); rotate_left; (focus (first | (simp; done) | (right; first | omega | (simp <;> omega))))) | (with_reducible refine SB.undrew ?_) | ((with_reducible refine SB.congr ?_ ?_); rotate_left; (focus (simp; done))) | ((with_reducible refine SB.realloc ?_ ?_ ?_); rotate_left; (focus (simp; done)); (focus (simp; done)))))
      clear hK K
      (try simp only [Act.put, putA, putB, putC])
      refine ord_take (i := 3) #[true, true, true, true, false, false, true, false, false] ?_ rfl (by kernel_rfl) (by kernel_rfl) (by kernel_rfl) (by kernel_rfl) (fun _ _ _ h => h) hHeld (by rfl) (fun wx hSx => ?_) ?_
      rotate_left
      · (unfold SB at hSx; go_simp; (try with_reducible rfl))
      (try simp only [Act.put, putA, putB, putC])
      refine ord_take (i := 4) #[true, true, true, true, true, false, true, false, false] ?_ rfl (by kernel_rfl) (by kernel_rfl) (by kernel_rfl) (by kernel_rfl) (fun _ _ _ h => h) hHeld (by rfl) (fun wx hSx => ?_) ?_
      rotate_left
      · (unfold SB at hSx; go_simp; (try with_reducible rfl))
      (try simp only [Act.put, putA, putB, putC])
      refine ord_take (i := 5) (preB 7 2) ?_ rfl (by kernel_rfl) (by kernel_rfl) (by kernel_rfl) (by kernel_rfl) (fun _ _ _ h => h) hHeld (by rfl) (fun wx hSx => ?_) ?_
      rotate_left
      · (unfold SB at hSx; go_simp; (try with_reducible rfl))
      (try simp only [Act.put, putA, putB, putC])
      refine wpAnyH_ready (rs := [7]) (by kernel_rfl) (by simp) ?_
      refine ord_run (i := 7) (preB 8 1) rfl (by kernel_rfl) (by rfl) (fun K hK => ?_) AllReadyH.nil
      ((first | (refine wp_store_newrow 41 (.tmp 2) (.tmp 20) rfl rfl w3.heap.size D rfl rfl 41 Z (blk_new rfl) HDI.out HDZ.out HD.out.ones ?_) | (refine wp_store_newrow 41 (.tmp 2) (.tmp 20) rfl rfl w2.heap.size D rfl rfl 41 Z (blk_below HbB.out (by first | omega | (simp <;> omega)) (blk_new rfl)) HDI.out HDZ.out HD.out.ones ?_) | (refine wp_store_newrow 41 (.tmp 2) (.tmp 20) rfl rfl W.heap.size D rfl rfl 41 Z (blk_below HbB.out (by first | omega | (simp <;> omega)) (blk_below HbA.out (by first | omega | (simp <;> omega)) (blk_new rfl))) HDI.out HDZ.out HD.out.ones ?_)); intro w5 hb5 hs5 hx5 hk5; have hbS3 := hb5)
      refine hK.out _ _ ?_ (fun hHeld => ?_)
      · (repeat (first | (with_reducible first | exact SB.refl | exact hHeld | refine SB.drew ?_ | refine SB.drewN ?_ _) | ((with_reducible first | refine SB.alloc ?_ ?_ _ | refine SB.below ?_ hbS ?_ | refine SB.below ?_ hbS1 ?_ | refine SB.below ?_ hbS2 ?_ | refine SB.below ?_ hbS3 ?_ | refine SB.below ?_ hbS4 ?_); rotate_left; (first | omega | (simp <;> omega))) | ((with_reducible refine SB.setCell ?_ ?_ _); rotate_left; (focus (first | (simp; done) | (right; first | omega | (simp <;> omega))))) | (with_reducible refine SB.undrew ?_) | ((with_reducible refine SB.congr ?_ ?_); rotate_left; (focus (simp; done))) | ((with_reducible refine SB.realloc ?_ ?_ ?_); rotate_left; (focus (simp; done)); (focus (simp; done)))))
      clear hK K
      (try simp only [Act.put, putA, putB, putC])
      refine ord_take (i := 8) (preB 9 0) ?_ rfl (by kernel_rfl) (by kernel_rfl) (by kernel_rfl) (by kernel_rfl) (fun _ _ _ h => h) hHeld (by rfl) (fun wx hSx => ?_) ?_
      rotate_left
      · (unfold SB at hSx; go_simp; (try with_reducible rfl))
      (try simp only [Act.put, putA, putB, putC])
      refine wpAnyH_done (by kernel_rfl) ?_ _
      go_wp2_with fail
      go_meet
      refine ⟨_, D, rfl, rfl, hx5, ?_, ?_, ?_⟩
      · refine HD.out.mono (fun b h => ?_) (fun b h => ?_)
        · have h2 := h.2
          try simp at hs5
          show b < w5.heap.size
          omega
        · refine (hk5 b ?_).trans ?_
          · have h1 := h.1
            have h2 := h.2
            try simp at h1
            first | omega | (simp; omega)
          · first | rfl | exact Go.Deep.blk_alloc_lt _ _ _ h.2
      · exact JB.out.trans (Below.trans (by (repeat (first | (with_reducible first | exact Below.refl _ _ | assumption | refine Below.drew ?_) | ((with_reducible first | refine Below.alloc ?_ ?_ _ | refine Below.setCell ?_ ?_ _); rotate_left; (first | omega | (simp <;> omega)))))) (hb5.mono (by first | omega | (simp <;> omega))))
      · first | omega | (simp <;> omega)
    exact AllReadyH.nil
  case rest =>
    rename World => wB
    obtain ⟨p, D, rfl, rfl, hx, hD, hb, hp⟩ := hcut
    clear y0 y1 y2 y3 y4 y5 y6
    have HD := hide hD
    have HDI := hide (zb_size (C := D) hD.size)
    have HX := hide hx
    have HBB := hide hb
    have HAB := hide (blk_below hb hab2 HA.out)
    have zB := hb.size
    have hp2 := heap_lt hx
    obtain ⟨b, off, cap, h18, hbl, r0, r1, r2, r3, r4, r5, r6⟩ := lv_row HS.out hD
    have g18 := (cell_of_cells hx 18).trans h18
    have y0 := cell_of_cells HAB.out 0
    have y1 := cell_of_cells HAB.out 1
    have y2 := cell_of_cells HAB.out 2
    have y3 := cell_of_cells HAB.out 3
    have y4 := cell_of_cells HAB.out 4
    have y5 := cell_of_cells HAB.out 5
    have y6 := cell_of_cells HAB.out 6
    have hab3 : ab < wB.heap.size := by omega
    clear hx hD hb
    go_upto_region 3 with fail
    refine ord_start (SB (wB.heap.size) [] _) 16 (preB 0 16) (by kernel_rfl) (by kernel_rfl) (by kernel_rfl) SB.refl.drew (fun hHeld => ?_)
    refine ord_take (i := 0) (preB 1 15) ?_ rfl (by kernel_rfl) (by kernel_rfl) (by kernel_rfl) (by kernel_rfl) (fun _ _ _ h => h) hHeld (by rfl) (fun wx hSx => ?_) ?_
    rotate_left
    · (unfold SB at hSx; go_simp; (try with_reducible rfl))
    (try simp only [Act.put, putA, putB, putC])
    refine ord_take (i := 1) (preB 2 14) ?_ rfl (by kernel_rfl) (by kernel_rfl) (by kernel_rfl) (by kernel_rfl) (fun _ _ _ h => h) hHeld (by rfl) (fun wx hSx => ?_) ?_
    rotate_left
    · (unfold SB at hSx; go_simp; (try with_reducible rfl))
    (try simp only [Act.put, putA, putB, putC])
    refine ord_take (i := 2) (preB 3 13) ?_ rfl (by kernel_rfl) (by kernel_rfl) (by kernel_rfl) (by kernel_rfl) (fun _ _ _ h => h) hHeld (by rfl) (fun wx hSx => ?_) ?_
    rotate_left
    · (unfold SB at hSx; go_simp; (try with_reducible rfl))
    (try simp only [Act.put, putA, putB, putC])
    refine ord_take (i := 3) (preB 4 12) ?_ rfl (by kernel_rfl) (by kernel_rfl) (by kernel_rfl) (by kernel_rfl) (fun _ _ _ h => h) hHeld (by rfl) (fun wx hSx => ?_) ?_
    rotate_left
    · (unfold SB at hSx; go_simp; (try with_reducible rfl))
    (try simp only [Act.put, putA, putB, putC])
    refine ord_take (i := 4) (preB 5 11) ?_ rfl (by kernel_rfl) (by kernel_rfl) (by kernel_rfl) (by kernel_rfl) (fun _ _ _ h => h) hHeld (by rfl) (fun wx hSx => ?_) ?_
    rotate_left
    · (unfold SB at hSx; go_simp; (try with_reducible rfl))
    (try simp only [Act.put, putA, putB, putC])
    refine ord_take (i := 5) (preB 6 10) ?_ rfl (by kernel_rfl) (by kernel_rfl) (by kernel_rfl) (by kernel_rfl) (fun _ _ _ h => h) hHeld (by rfl) (fun wx hSx => ?_) ?_
    rotate_left
    · (unfold SB at hSx; go_simp; (try with_reducible rfl))
    (try simp only [Act.put, putA, putB, putC])
    refine ord_take (i := 6) (preB 7 9) ?_ rfl (by kernel_rfl) (by kernel_rfl) (by kernel_rfl) (by kernel_rfl) (fun _ _ _ h => h) hHeld (by rfl) (fun wx hSx => ?_) ?_
    rotate_left
    · (unfold SB at hSx; go_simp; (try with_reducible rfl))
    (try simp only [Act.put, putA, putB, putC])
    refine ord_take (i := 7) (preB 8 8) ?_ rfl (by kernel_rfl) (by kernel_rfl) (by kernel_rfl) (by kernel_rfl) (fun _ _ _ h => h) hHeld (by rfl) (fun wx hSx => ?_) ?_
    rotate_left
    · (unfold SB at hSx; go_simp; (try with_reducible rfl))
    (try simp only [Act.put, putA, putB, putC])
    refine ord_take (i := 8) (preB 9 7) ?_ rfl (by kernel_rfl) (by kernel_rfl) (by kernel_rfl) (by kernel_rfl) (fun _ _ _ h => h) hHeld (by rfl) (fun wx hSx => ?_) ?_
    rotate_left
    · (unfold SB at hSx; go_simp; (try with_reducible rfl))
    (try simp only [Act.put, putA, putB, putC])
    refine ord_take (i := 9) (preB 10 6) ?_ rfl (by kernel_rfl) (by kernel_rfl) (by kernel_rfl) (by kernel_rfl) (fun _ _ _ h => h) hHeld (by rfl) (fun wx hSx => ?_) ?_
    rotate_left
    · (unfold SB at hSx; go_simp; (try with_reducible rfl))
    (try simp only [Act.put, putA, putB, putC])
    refine ord_take (i := 10) (preB 11 5) ?_ rfl (by kernel_rfl) (by kernel_rfl) (by kernel_rfl) (by kernel_rfl) (fun _ _ _ h => h) hHeld (by rfl) (fun wx hSx => ?_) ?_
    rotate_left
    · (unfold SB at hSx; go_simp; (try with_reducible rfl))
    (try simp only [Act.put, putA, putB, putC])
    refine ord_take (i := 11) (preB 12 4) ?_ rfl (by kernel_rfl) (by kernel_rfl) (by kernel_rfl) (by kernel_rfl) (fun _ _ _ h => h) hHeld (by rfl) (fun wx hSx => ?_) ?_
    rotate_left
    · (unfold SB at hSx; go_simp; (try with_reducible rfl))
    (try simp only [Act.put, putA, putB, putC])
    refine ord_take (i := 12) (preB 13 3) ?_ rfl (by kernel_rfl) (by kernel_rfl) (by kernel_rfl) (by kernel_rfl) (fun _ _ _ h => h) hHeld (by rfl) (fun wx hSx => ?_) ?_
    rotate_left
    · (unfold SB at hSx; go_simp; (try with_reducible rfl))
    (try simp only [Act.put, putA, putB, putC])
    refine ord_take (i := 13) (preB 14 2) ?_ rfl (by kernel_rfl) (by kernel_rfl) (by kernel_rfl) (by kernel_rfl) (fun _ _ _ h => h) hHeld (by rfl) (fun wx hSx => ?_) ?_
    rotate_left
    · (unfold SB at hSx; go_simp; (try with_reducible rfl))
    (try simp only [Act.put, putA, putB, putC])
    refine ord_take (i := 14) (preB 15 1) ?_ rfl (by kernel_rfl) (by kernel_rfl) (by kernel_rfl) (by kernel_rfl) (fun _ _ _ h => h) hHeld (by rfl) (fun wx hSx => ?_) ?_
    rotate_left
    · (unfold SB at hSx; go_simp; (try with_reducible rfl))
    (try simp only [Act.put, putA, putB, putC])
    refine ord_take (i := 15) (preB 16 0) ?_ rfl (by kernel_rfl) (by kernel_rfl) (by kernel_rfl) (by kernel_rfl) (fun _ _ _ h => h) hHeld (by rfl) (fun wx hSx => ?_) ?_
    rotate_left
    · (unfold SB at hSx; go_simp; (try with_reducible rfl))
    (try simp only [Act.put, putA, putB, putC])
    refine wpAnyH_done (by kernel_rfl) ?_ _
    clear r0 r1 r2 r3 r4 r5 r6 g18 y0 y1 y2 y3 y4 y5 y6 h18 hbl
    go_wp2_with (with_reducible refine wpList_load_row rfl 41 (.tmp 2) rfl p rfl 41 D (0, 0) _ (blk_drew HX.out) Tryd.underlying41 rfl HDI.out ?_)
    refine (lv_close _ (HD.out.below (by (repeat (first | (with_reducible first | exact Below.refl _ _ | assumption | refine Below.drew ?_) | ((with_reducible first | refine Below.alloc ?_ ?_ _ | refine Below.setCell ?_ ?_ _); rotate_left; (first | omega | (simp <;> omega)))))))).mono ?_
    rintro e w3 ⟨D5, rfl, hD5, hb⟩
    have HD5 := hide hD5
    have HDI5 := hide (zb_size (C := D5) hD5.size)
    have HDZ5 := hide (show Z.size = D5.size from HZS.out.trans hD5.size.symm)
    have HB3 := hide (show Below wB.heap.size wB w3 from Below.trans (by (repeat (first | (with_reducible first | exact Below.refl _ _ | assumption | refine Below.drew ?_) | ((with_reducible first | refine Below.alloc ?_ ?_ _ | refine Below.setCell ?_ ?_ _); rotate_left; (first | omega | (simp <;> omega)))))) hb)
    have z3 := HB3.out.size
    clear hD5 hb
    go_wp2_with (first
      | (with_reducible refine wpList_alloc_row rfl 41 rfl (some 4) rfl i0 HI.out.1 Z HI.out.2 w3.heap.size rfl ?_)
      | ((with_reducible refine wpList_store_newrow2 rfl 41 (.tmp 4) (.tmp 41) rfl rfl w3.heap.size D5 rfl rfl 41 Z (blk_new rfl) HDI5.out HDZ5.out HD5.out.ones ?_); intro w4 hb4 hs4 hx4 hk4; have HX4 := hide hx4; have HB4 := hide (show Below w3.heap.size w3 w4 from Below.trans (by (repeat (first | (with_reducible first | exact Below.refl _ _ | assumption | refine Below.drew ?_) | ((with_reducible first | refine Below.alloc ?_ ?_ _ | refine Below.setCell ?_ ?_ _); rotate_left; (first | omega | (simp <;> omega)))))) hb4); clear hb4 hs4 hx4 hk4)
      | (with_reducible refine wpList_load_row rfl 41 (.tmp 4) rfl w3.heap.size rfl 41 D5 (0, 0) _ HX4.out Tryd.underlying41 rfl HDI5.out ?_))
    have zq := heap_lt HX4.out
    have HC5 := hide (show ElT (Old w4) w4 15 bkC D5 from HD5.out.mono (fun b h => Nat.lt_of_lt_of_le h.2 HB4.out.size) (fun b h => HB4.out.block b h.2))
    have HBA := hide (HB3.out.trans (HB4.out.mono z3))
    generalize w3.heap.size = q at *
    have HXp := hide (blk_below HBA.out hp2 HX.out)
    have HAp := hide (blk_below HBA.out hab3 HAB.out)
    have HDp := hide (HD.out.below HBA.out)
    have HT4 := hide (HTW.out.below (HBB.out.trans (HBA.out.mono zB)))
    have HW4 := hide (HW.out.trans ((HBB.out.trans (HBA.out.mono zB)).mono HW.out.size))
    have zp := heap_lt HXp.out
    have za := heap_lt HAp.out
    clear HD5 HB4 HB3 HBA HX HAB HD HBB HTW HW HA z3 zB hp hp2 hab2 hab3
    refine (lv_close2 _ HC5.out).mono ?_
    rintro e w5 ⟨D6, rfl, hD6, hb⟩
    have HD6 := hide hD6
    have HDI6 := hide (zb_size (C := D6) hD6.size)
    have HDZ6 := hide (show Z.size = D6.size from HZS.out.trans hD6.size.symm)
    have K5 := hide hb
    have z5 := hb.size
    clear hD6 hb
    go_wp2_with (first
      | (with_reducible refine wpList_alloc_row rfl 41 rfl (some 6) rfl i0 HI.out.1 Z HI.out.2 w5.heap.size rfl ?_)
      | ((with_reducible refine wpList_store_newrow2 rfl 41 (.tmp 6) (.tmp 46) rfl rfl w5.heap.size D6 rfl rfl 41 Z (blk_new rfl) HDI6.out HDZ6.out HD6.out.ones ?_); intro w6 hb6 hs6 hx6 hk6; have K6 := hide (K5.out.trans ((show Below w5.heap.size w5 w6 from Below.trans (by (repeat (first | (with_reducible first | exact Below.refl _ _ | assumption | refine Below.drew ?_) | ((with_reducible first | refine Below.alloc ?_ ?_ _ | refine Below.setCell ?_ ?_ _); rotate_left; (first | omega | (simp <;> omega)))))) hb6).mono z5)); have z6 := K6.out.size; have HA6 := hide (blk_below K6.out za HAp.out); have y0 := cell_of_cells HA6.out 0; have y1 := cell_of_cells HA6.out 1; have y2 := cell_of_cells HA6.out 2; have y3 := cell_of_cells HA6.out 3; have y4 := cell_of_cells HA6.out 4; have y5 := cell_of_cells HA6.out 5; have y6 := cell_of_cells HA6.out 6; clear hb6 hs6 hx6 hk6)
      | (with_reducible refine wpList_load_row rfl 41 (.tmp 2) rfl p rfl 41 D (0, 0) _ (blk_below K6.out zp HXp.out) Tryd.underlying41 rfl HDI.out ?_))
    refine (lv_open2 HS.out _ (HT4.out.below K6.out) (HDp.out.below K6.out)).mono ?_
    rintro e w7 ⟨D8, rfl, hD8, hb⟩
    have HD8 := hide hD8
    have HDI8 := hide (zb_size (C := D8) hD8.size)
    have HDZ8 := hide (show Z.size = D8.size from HZS.out.trans hD8.size.symm)
    have K7 := hide (K6.out.trans (hb.mono z6))
    have z7 := K7.out.size
    clear hD8 hb y0 y1 y2 y3 y4 y5 y6
    go_wp2_with (first
      | (with_reducible refine wpList_alloc_row rfl 41 rfl (some 8) rfl i0 HI.out.1 Z HI.out.2 w7.heap.size rfl ?_)
      | ((with_reducible refine wpList_store_newrow2 rfl 41 (.tmp 8) (.tmp 52) rfl rfl w7.heap.size D8 rfl rfl 41 Z (blk_new rfl) HDI8.out HDZ8.out HD8.out.ones ?_); intro w8 hb8 hs8 hx8 hk8; have K8 := hide (K7.out.trans ((show Below w7.heap.size w7 w8 from Below.trans (by (repeat (first | (with_reducible first | exact Below.refl _ _ | assumption | refine Below.drew ?_) | ((with_reducible first | refine Below.alloc ?_ ?_ _ | refine Below.setCell ?_ ?_ _); rotate_left; (first | omega | (simp <;> omega)))))) hb8).mono z7)); have z8 := K8.out.size; clear hb8 hs8 hx8 hk8))
    refine (HNR.out _).mono ?_
    rintro e w9 ⟨rfl, hb⟩
    have K9 := hide (K8.out.trans (hb.mono z8))
    have z9 := K9.out.size
    clear hb
    go_wp2_with fail
    refine (lv_id HS.out _ (HT4.out.below K9.out)).mono ?_
    rintro e w10 ⟨rfl, hb⟩
    have K10 := hide (K9.out.trans (hb.mono z9))
    have z10 := K10.out.size
    clear hb
    go_wp2_with (with_reducible refine wpList_load_row rfl 41 (.tmp 2) rfl p rfl 41 D (0, 0) _ (blk_below K10.out zp HXp.out) Tryd.underlying41 rfl HDI.out ?_)
    refine (lv_prod _ (HDp.out.below K10.out)).mono ?_
    rintro e w11 ⟨G, rfl, hG1, hG2, hG3, hb⟩
    have HG := hide (And.intro hG1 (And.intro hG2 hG3))
    have HGZ := hide (show Z1.size = G.size from HZS1.out.trans hG1.symm)
    have K11 := hide (K10.out.trans (hb.mono z10))
    have z11 := K11.out.size
    clear hb hG1 hG2 hG3
    go_wp2_with (first
      | (with_reducible refine wpList_alloc_row rfl 53 rfl (some 12) rfl i1 HI1.out.1 Z1 HI1.out.2 w11.heap.size rfl ?_)
      | ((with_reducible refine wpList_store_newrow2 rfl 53 (.tmp 12) (.tmp 62) rfl rfl w11.heap.size G rfl rfl 53 Z1 (blk_new rfl) (pz_size HG.out.1) HGZ.out HG.out.2.1 ?_); intro w12 hb12 hs12 hx12 hk12; have K12 := hide (K11.out.trans ((show Below w11.heap.size w11 w12 from Below.trans (by (repeat (first | (with_reducible first | exact Below.refl _ _ | assumption | refine Below.drew ?_) | ((with_reducible first | refine Below.alloc ?_ ?_ _ | refine Below.setCell ?_ ?_ _); rotate_left; (first | omega | (simp <;> omega)))))) hb12).mono z11)); have z12 := K12.out.size; have HX12 := hide hx12; clear hb12 hs12 hx12 hk12))
    have zg := heap_lt HX12.out
    generalize w11.heap.size = g at *
    refine (HNP.out _ (HT4.out.below K12.out)).mono ?_
    rintro e w13 ⟨rfl, hb⟩
    have K13 := hide (K12.out.trans (hb.mono z12))
    have L13 := hide hb
    have z13 := K13.out.size
    have l13 := hb.size
    clear hb
    go_wp2_with fail
    refine (HNR.out _).mono ?_
    rintro e w14 ⟨rfl, hb⟩
    have K14 := hide (K13.out.trans (hb.mono z13))
    have L14 := hide (L13.out.trans (hb.mono l13))
    have z14 := K14.out.size
    have l14 := L14.out.size
    clear hb
    go_wp2_with ((with_reducible refine wpList_load_rowG ?_ 41 (.tmp 4) rfl q rfl 41 D5 (0, 0) _ (blk_below K14.out zq HX4.out) Tryd.underlying41 rfl HDI5.out ?_); (focus rfl))
    refine (lv_act8 _ (HC5.out.below K14.out)).mono ?_
    rintro e w15 ⟨rfl, hb⟩
    have K15 := hide (K14.out.trans (hb.mono z14))
    have L15 := hide (L14.out.trans (hb.mono l14))
    have z15 := K15.out.size
    have l15 := L15.out.size
    clear hb
    go_wp2_with ((with_reducible refine wpList_load_rowG ?_ 41 (.tmp 4) rfl q rfl 41 D5 (0, 0) _ (blk_below K15.out zq HX4.out) Tryd.underlying41 rfl HDI5.out ?_); (focus rfl))
    refine (lv_act9 _ (HC5.out.below K15.out)).mono ?_
    rintro e w16 ⟨rfl, hb⟩
    have K16 := hide (K15.out.trans (hb.mono z15))
    have L16 := hide (L15.out.trans (hb.mono l15))
    have z16 := K16.out.size
    have l16 := L16.out.size
    clear hb
    go_wp2_with ((with_reducible refine wpList_load_rowG ?_ 41 (.tmp 4) rfl q rfl 41 D5 (0, 0) _ (blk_below K16.out zq HX4.out) Tryd.underlying41 rfl HDI5.out ?_); (focus rfl))
    refine (lv_check _ (HT4.out.below K16.out) (HC5.out.below K16.out)).mono ?_
    rintro e w17 ⟨rfl, hb⟩
    have K17 := hide (K16.out.trans (hb.mono z16))
    have L17 := hide (L16.out.trans (hb.mono l16))
    have gg := (cell_of_cells (blk_below L17.out zg HX12.out) 0).trans HG.out.2.2
    clear hb
    go_wp2_with fail
    go_ret
    exact ⟨rfl, HW4.out.trans (K17.out.mono HW4.out.size)⟩
end Go.Proofs.YtdjhkhadjmndoaaDoor
