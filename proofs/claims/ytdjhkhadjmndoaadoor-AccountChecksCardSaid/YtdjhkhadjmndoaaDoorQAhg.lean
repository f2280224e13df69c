/- Texts laid together: Ahg. -/
import Derived.Test.YtdjhkhadjmndoaaDoorQAha
import Derived.Test.YtdjhkhadjmndoaaDoorQAhb
import Derived.Test.YtdjhkhadjmndoaaDoorQAhe
import Derived.Test.YtdjhkhadjmndoaaDoorQAhh
namespace Go.Proofs.YtdjhkhadjmndoaaDoor
set_option maxRecDepth 4000
set_option linter.unusedSimpArgs false
set_option linter.unusedVariables false
open Go.RowKit
theorem rcheckT {ck : Nat → Tr} (hw : KnOK 15 ck) (hs : Sml ck) {X : Array Value} (w : World) (hX : ElT (Old w) w 15 ck X) :
    Calls Tryd.prog 22 #[.agg X] w fun e w' => e = .returned (.int .i64 (chkK ck)) ∧ Below w.heap.size w w' := by
  obtain ⟨B, rfl, hB⟩ := bk_of hw hs hX
  have h := rcheck_any B hB.ok w hB.inn
  have e : chkE B.P B.pn B.a B.an = chkK ck := by unfold chkK chkE; rw [chkU_congr hB.P, hB.a, hB.an, hB.pn]
  rw [e] at h
  exact h
set_option maxRecDepth 8000 in
set_option maxHeartbeats 4000000 in
theorem walk_checks (C : Array Value) (ck : Nat → Tr) (w : World) (hw : KnOK 15 ck) (hX : ElT (Old w) w 15 ck C) (ht : Tab w) : Calls Tryd.prog 6 #[.agg C] w fun e w' => e = .returned (.bool true) ∧ Below w.heap.size w w' := by
  have HT := hide ht
  have HX := hide hX
  have HW := hide hw
  have HS := hide (zb_size (C := C) hX.size)
  obtain ⟨fb, hfb⟩ : ∃ b, b = fewB ck := ⟨_, rfl⟩
  have HF := hide (fun (W : World) (h : ElT (Old W) W 15 ck C) => by have t := few_any HW.out W h; rw [← hfb] at t; exact t)
  have HFB := hide hfb
  clear ht hX hw hfb
  cases fb with
  | false =>
    go_enter Tryd.func6, Tryd.ntmps6
    go_wp2_with (with_reducible refine wpList_load_row rfl 41 (.tmp 1) rfl w.heap.size rfl 41 C (0, 0) _ (blk_new rfl) Tryd.underlying41 rfl HS.out ?_)
    refine (HF.out _ (HX.out.below (by (repeat (first | (with_reducible first | exact Below.refl _ _ | assumption | refine Below.drew ?_ | refine below_drewN ?_ _) | ((with_reducible first | refine Below.alloc ?_ ?_ _ | refine Below.setCell ?_ ?_ _); rotate_left; (first | omega | (simp <;> omega)))))))).mono ?_
    rintro e w1 ⟨rfl, hb⟩
    have B1 := hide (show Below w.heap.size w w1 from Below.trans (by (repeat (first | (with_reducible first | exact Below.refl _ _ | assumption | refine Below.drew ?_ | refine below_drewN ?_ _) | ((with_reducible first | refine Below.alloc ?_ ?_ _ | refine Below.setCell ?_ ?_ _); rotate_left; (first | omega | (simp <;> omega)))))) (hb.mono (by simp)))
    clear hb
    go_wp2_with fail
    refine (lives_any _ (HT.out.below B1.out)).mono ?_
    rintro e w2 ⟨rfl, hb⟩
    have B2 := hide (B1.out.trans (hb.mono B1.out.size))
    clear hb
    go_wp2_with fail
    go_ret
    exact ⟨rfl, B2.out⟩
  | true =>
    have HSM := hide (few_sml HFB.out.symm)
    obtain ⟨v, hv⟩ : ∃ v, v = chkK ck := ⟨_, rfl⟩
    have HC := hide (fun (W : World) (h1 : Tab W) (h2 : ElT (Old W) W 15 ck C) => by have t := checkT HW.out HSM.out W h1 h2; rw [← hv] at t; exact t)
    have HR := hide (fun (W : World) (h2 : ElT (Old W) W 15 ck C) => by have t := rcheckT HW.out HSM.out W h2; rw [← hv] at t; exact t)
    clear hv
    go_enter Tryd.func6, Tryd.ntmps6
    go_wp2_with (with_reducible refine wpList_load_row rfl 41 (.tmp 1) rfl w.heap.size rfl 41 C (0, 0) _ (blk_new rfl) Tryd.underlying41 rfl HS.out ?_)
    refine (HF.out _ (HX.out.below (by (repeat (first | (with_reducible first | exact Below.refl _ _ | assumption | refine Below.drew ?_ | refine below_drewN ?_ _) | ((with_reducible first | refine Below.alloc ?_ ?_ _ | refine Below.setCell ?_ ?_ _); rotate_left; (first | omega | (simp <;> omega)))))))).mono ?_
    rintro e w1 ⟨rfl, hb⟩
    have B1 := hide (show Below w.heap.size w w1 from Below.trans (by (repeat (first | (with_reducible first | exact Below.refl _ _ | assumption | refine Below.drew ?_ | refine below_drewN ?_ _) | ((with_reducible first | refine Below.alloc ?_ ?_ _ | refine Below.setCell ?_ ?_ _); rotate_left; (first | omega | (simp <;> omega)))))) (hb.mono (by simp)))
    have X1 := hide (blk_below hb (by simp) (blk_new (w := w) rfl))
    have z1 : w.heap.size < w1.heap.size := heap_lt X1.out
    have y1 := B1.out.size
    clear hb
    go_upto_region 3 with fail
    refine ord_start (SB (w1.heap.size) [] _) 9 (preB 0 9) (by kernel_rfl) (by kernel_rfl) (by kernel_rfl) SB.refl.drew (fun hHeld => ?_)
    refine ord_take (i := 0) (preB 1 8) (.agg C) rfl (by kernel_rfl) (by kernel_rfl) (by kernel_rfl) (by kernel_rfl) (fun _ _ _ h => h) hHeld (by rfl) (fun wx hSx => tk_row _ _ rfl w.heap.size 0 rfl C _ (rg_row hSx z1 X1.out) Tryd.underlying41 rfl HS.out) ?_
    (try simp only [Act.put, putA, putB, putC])
    refine ord_take (i := 2) #[true, false, true, false, false, false, false, false, false] (.agg C) rfl (by kernel_rfl) (by kernel_rfl) (by kernel_rfl) (by kernel_rfl) (fun _ _ _ h => h) hHeld (by rfl) (fun wx hSx => tk_row _ _ rfl w.heap.size 0 rfl C _ (rg_row hSx z1 X1.out) Tryd.underlying41 rfl HS.out) ?_
    (try simp only [Act.put, putA, putB, putC])
    refine wpAnyH_ready (rs := [1]) (by kernel_rfl) (by simp) ?_
    refine ord_run (i := 1) (preB 3 6) rfl (by kernel_rfl) (by rfl) (fun K hK => ?_) AllReadyH.nil
    go_simp
    go_wp2_with (go_at_call 21; refine (HC.out _ (HT.out.below (B1.out.trans (by (repeat (first | (with_reducible first | exact Below.refl _ _ | assumption | refine Below.drew ?_ | refine below_drewN ?_ _) | ((with_reducible first | refine Below.alloc ?_ ?_ _ | refine Below.setCell ?_ ?_ _); rotate_left; (first | omega | (simp <;> omega)))))))) (HX.out.below (B1.out.trans (by (repeat (first | (with_reducible first | exact Below.refl _ _ | assumption | refine Below.drew ?_ | refine below_drewN ?_ _) | ((with_reducible first | refine Below.alloc ?_ ?_ _ | refine Below.setCell ?_ ?_ _); rotate_left; (first | omega | (simp <;> omega))))))))).mono ?_; rintro r w2 ⟨rfl, hb⟩; have hbS := hb; have hbS1 := hb; have B2 := hide (B1.out.trans ((show Below w1.heap.size w1 w2 from Below.trans (by (repeat (first | (with_reducible first | exact Below.refl _ _ | assumption | refine Below.drew ?_ | refine below_drewN ?_ _) | ((with_reducible first | refine Below.alloc ?_ ?_ _ | refine Below.setCell ?_ ?_ _); rotate_left; (first | omega | (simp <;> omega)))))) hb).mono B1.out.size)); have y2 := B2.out.size; have x2 := hb.size; (try simp at x2); clear hb)
    refine hK.out _ _ ?_ (fun hHeld => ?_)
    · (repeat (first | (with_reducible first | exact SB.refl | exact hHeld | refine SB.drew ?_ | refine SB.drewN ?_ _) | ((with_reducible first | refine SB.alloc ?_ ?_ _ | refine SB.below ?_ hbS ?_ | refine SB.below ?_ hbS1 ?_ | refine SB.below ?_ hbS2 ?_ | refine SB.below ?_ hbS3 ?_ | refine SB.below ?_ hbS4 ?_); rotate_left; (first | omega | (simp <;> omega))) | ((with_reducible refine SB.setCell ?_ ?_ _); rotate_left; (focus (first | (simp; done) | (right; first | omega | (simp <;> omega))))) | (with_reducible refine SB.undrew ?_) | ((with_reducible refine SB.congr ?_ ?_); rotate_left; (focus (simp; done))) | ((with_reducible refine SB.realloc ?_ ?_ ?_); rotate_left; (focus (simp; done)); (focus (simp; done)))))
    clear hK K
    (try simp only [Act.put, putA, putB, putC])
    refine wpAnyH_ready (rs := [3]) (by kernel_rfl) (by simp) ?_
    refine ord_run (i := 3) (preB 4 5) rfl (by kernel_rfl) (by rfl) (fun K hK => ?_) AllReadyH.nil
    go_simp
    go_wp2_with (go_at_call 22; refine (HR.out _ (HX.out.below (B2.out.trans (by (repeat (first | (with_reducible first | exact Below.refl _ _ | assumption | refine Below.drew ?_ | refine below_drewN ?_ _) | ((with_reducible first | refine Below.alloc ?_ ?_ _ | refine Below.setCell ?_ ?_ _); rotate_left; (first | omega | (simp <;> omega))))))))).mono ?_; rintro r w3 ⟨rfl, hb⟩; have hbS2 := hb; have B3 := hide (B2.out.trans ((show Below w2.heap.size w2 w3 from Below.trans (by (repeat (first | (with_reducible first | exact Below.refl _ _ | assumption | refine Below.drew ?_ | refine below_drewN ?_ _) | ((with_reducible first | refine Below.alloc ?_ ?_ _ | refine Below.setCell ?_ ?_ _); rotate_left; (first | omega | (simp <;> omega)))))) hb).mono y2)); have y3 := B3.out.size; have x3 := hb.size; (try simp at x3); clear hb)
    refine hK.out _ _ ?_ (fun hHeld => ?_)
    · (repeat (first | (with_reducible first | exact SB.refl | exact hHeld | refine SB.drew ?_ | refine SB.drewN ?_ _) | ((with_reducible first | refine SB.alloc ?_ ?_ _ | refine SB.below ?_ hbS ?_ | refine SB.below ?_ hbS1 ?_ | refine SB.below ?_ hbS2 ?_ | refine SB.below ?_ hbS3 ?_ | refine SB.below ?_ hbS4 ?_); rotate_left; (first | omega | (simp <;> omega))) | ((with_reducible refine SB.setCell ?_ ?_ _); rotate_left; (focus (first | (simp; done) | (right; first | omega | (simp <;> omega))))) | (with_reducible refine SB.undrew ?_) | ((with_reducible refine SB.congr ?_ ?_); rotate_left; (focus (simp; done))) | ((with_reducible refine SB.realloc ?_ ?_ ?_); rotate_left; (focus (simp; done)); (focus (simp; done)))))
    clear hK K
    (try simp only [Act.put, putA, putB, putC])
    refine ord_take (i := 4) (preB 5 4) ?_ rfl (by kernel_rfl) (by kernel_rfl) (by kernel_rfl) (by kernel_rfl) (fun _ _ _ h => h) hHeld (by rfl) (fun wx hSx => ?_) ?_
    rotate_left
    · (unfold SB at hSx; go_simp; (try with_reducible rfl))
    (try simp only [Act.put, putA, putB, putC])
    refine ord_take (i := 5) (preB 6 3) ?_ rfl (by kernel_rfl) (by kernel_rfl) (by kernel_rfl) (by kernel_rfl) (fun _ _ _ h => h) hHeld (by rfl) (fun wx hSx => ?_) ?_
    rotate_left
    · (unfold SB at hSx; go_simp; (try with_reducible rfl))
    (try simp only [Act.put, putA, putB, putC])
    refine wpAnyH_ready (rs := [6]) (by kernel_rfl) (by simp) ?_
    refine ord_run (i := 6) (preB 7 2) rfl (by kernel_rfl) (by rfl) (fun K hK => ?_) AllReadyH.nil
    go_simp
    go_wp2_with (go_at_call 11; refine (lives_any _ (HT.out.below (B3.out.trans (by (repeat (first | (with_reducible first | exact Below.refl _ _ | assumption | refine Below.drew ?_ | refine below_drewN ?_ _) | ((with_reducible first | refine Below.alloc ?_ ?_ _ | refine Below.setCell ?_ ?_ _); rotate_left; (first | omega | (simp <;> omega))))))))).mono ?_; rintro r w4 ⟨rfl, hb⟩; have hbS3 := hb; have B4 := hide (B3.out.trans ((show Below w3.heap.size w3 w4 from Below.trans (by (repeat (first | (with_reducible first | exact Below.refl _ _ | assumption | refine Below.drew ?_ | refine below_drewN ?_ _) | ((with_reducible first | refine Below.alloc ?_ ?_ _ | refine Below.setCell ?_ ?_ _); rotate_left; (first | omega | (simp <;> omega)))))) hb).mono y3)); clear hb)
    refine hK.out _ _ ?_ (fun hHeld => ?_)
    · (repeat (first | (with_reducible first | exact SB.refl | exact hHeld | refine SB.drew ?_ | refine SB.drewN ?_ _) | ((with_reducible first | refine SB.alloc ?_ ?_ _ | refine SB.below ?_ hbS ?_ | refine SB.below ?_ hbS1 ?_ | refine SB.below ?_ hbS2 ?_ | refine SB.below ?_ hbS3 ?_ | refine SB.below ?_ hbS4 ?_); rotate_left; (first | omega | (simp <;> omega))) | ((with_reducible refine SB.setCell ?_ ?_ _); rotate_left; (focus (first | (simp; done) | (right; first | omega | (simp <;> omega))))) | (with_reducible refine SB.undrew ?_) | ((with_reducible refine SB.congr ?_ ?_); rotate_left; (focus (simp; done))) | ((with_reducible refine SB.realloc ?_ ?_ ?_); rotate_left; (focus (simp; done)); (focus (simp; done)))))
    clear hK K
    (try simp only [Act.put, putA, putB, putC])
    refine ord_take (i := 7) (preB 8 1) ?_ rfl (by kernel_rfl) (by kernel_rfl) (by kernel_rfl) (by kernel_rfl) (fun _ _ _ h => h) hHeld (by rfl) (fun wx hSx => ?_) ?_
    rotate_left
    · (unfold SB at hSx; go_simp; (try with_reducible rfl))
    (try simp only [Act.put, putA, putB, putC])
    refine ord_take (i := 8) (preB 9 0) ?_ rfl (by kernel_rfl) (by kernel_rfl) (by kernel_rfl) (by kernel_rfl) (fun _ _ _ h => h) hHeld (by rfl) (fun wx hSx => ?_) ?_
    rotate_left
    · (unfold SB at hSx; go_simp; (try with_reducible rfl))
    (try simp only [Act.put, putA, putB, putC])
    refine wpAnyH_done (by kernel_rfl) ?_ _
    go_wp2_with fail
    go_ret
    exact ⟨rfl, B4.out⟩
end Go.Proofs.YtdjhkhadjmndoaaDoor
