/- Texts laid together: Ahj. -/
import Derived.Test.YtdjhkhadjmndoaaDoorQAha
import Derived.Test.YtdjhkhadjmndoaaDoorQAhb
import Derived.Test.YtdjhkhadjmndoaaDoorQAhh
import Derived.Test.YtdjhkhadjmndoaaDoorQAhi
import Derived.Test.YtdjhkhadjmndoaaDoorQSmE
namespace Go.Proofs.YtdjhkhadjmndoaaDoor
set_option maxRecDepth 4000
set_option linter.unusedSimpArgs false
set_option linter.unusedVariables false
open Go.RowKit
/-- What the last region of AccountFinds finds. -/
def FnIn (ck : Nat → Tr) (C : Array Value) (x : LAcc) (pk : Nat → Tr) (D1 D2 : Array Value) (a3 a7 a9 a11 a13 : Nat) (w W : World) : Prop :=
  Below w.heap.size w W ∧ W.heap[a3]? = some (.cells C 41 (0, 0)) ∧ W.heap[a7]? = some (.cells #[.int .i64 x.id, .int .i64 x.op, .int .i64 x.cl, .int .i64 x.ex, .string x.ow, .string x.pr, .string x.nu] 44 (0, 0)) ∧ W.heap[a9]? = some (.cells #[.int .i64 x.id, .int .i64 x.op, .int .i64 x.cl, .int .i64 x.ex, .string x.ow, .string x.pr, .string x.nu] 44 (0, 0)) ∧
  W.heap[a11]? = some (.cells D1 53 (0, 0)) ∧ W.heap[a13]? = some (.cells D2 53 (0, 0)) ∧ ElT (Old W) W 15 ck C ∧ ElT (Old W) W 8 pk D1 ∧ ElT (Old W) W 8 pk D2
set_option maxRecDepth 8000 in
set_option maxHeartbeats 8000000 in
theorem walk_finds (C : Array Value) (ck : Nat → Tr) (id day : Int) (w : World) (hw : KnOK 15 ck) (hX : ElT (Old w) w 15 ck C) (ht : Tab w) : Calls Tryd.prog 5 #[.agg C, .int .i64 id, .int .i64 day] w fun e w' => e = .returned (.bool true) ∧ Below w.heap.size w w' := by
  obtain ⟨i1, Z1, ho0, ho1, ho2⟩ := pz_zero
  have HI1 := hide (And.intro ho0 ho1)
  have HZ1 := hide ho2
  have HT := hide ht
  have HX := hide hX
  have HW := hide hw
  have HS := hide (zb_size (C := C) hX.size)
  obtain ⟨fb, hfb⟩ : ∃ b, b = fewB ck := ⟨_, rfl⟩
  have HF := hide (fun (W : World) (h : ElT (Old W) W 15 ck C) => by have t := few_any HW.out W h; rw [← hfb] at t; exact t)
  have HFB := hide hfb
  clear ht hX hw hfb ho0 ho1 ho2
  cases fb with
  | false =>
    go_enter Tryd.func5, Tryd.ntmps5
    go_wp2_with (with_reducible refine wpList_load_row rfl 41 (.tmp 3) rfl w.heap.size rfl 41 C (0, 0) _ (blk_new rfl) Tryd.underlying41 rfl HS.out ?_)
    refine (HF.out _ (HX.out.below (by (repeat (first | (with_reducible first | exact Below.refl _ _ | assumption | refine Below.drew ?_ | refine below_drewN ?_ _) | ((with_reducible first | refine Below.alloc ?_ ?_ _ | refine Below.setCell ?_ ?_ _); rotate_left; (first | omega | (simp <;> omega)))))))).mono ?_
    rintro e w1 ⟨rfl, hb⟩
    have B1 := hide (show Below w.heap.size w w1 from Below.trans (by (repeat (first | (with_reducible first | exact Below.refl _ _ | assumption | refine Below.drew ?_ | refine below_drewN ?_ _) | ((with_reducible first | refine Below.alloc ?_ ?_ _ | refine Below.setCell ?_ ?_ _); rotate_left; (first | omega | (simp <;> omega)))))) (hb.mono (by simp)))
    clear hb
    go_wp2_with fail
    refine (lives_any _ (HT.out.below B1.out)).mono ?_
    rintro e w2 ⟨rfl, hb⟩
    have B2 := hide (B1.out.trans (hb.mono B1.out.size))
    clear hb
    go_wp2_with fail
    go_ret
    exact ⟨rfl, B2.out⟩
  | true =>
    have HSM := hide (few_sml HFB.out.symm)
    obtain ⟨x, hx⟩ : ∃ x, x = getA (acK ck) id (ck 18).n := ⟨_, rfl⟩
    obtain ⟨b, hb⟩ : ∃ b, b = hasA (acK ck) id (ck 18).n := ⟨_, rfl⟩
    obtain ⟨pk, hpk⟩ : ∃ p, p = prT ck (prdK ck id day) := ⟨_, rfl⟩
    obtain ⟨pb, hpb⟩ : ∃ p, p = (prdK ck id day).isSome := ⟨_, rfl⟩
    obtain ⟨ac, hac⟩ : ∃ p, p = actK ck id day := ⟨_, rfl⟩
    have HPK := hide (show KnOK 8 pk from by rw [hpk]; exact prT_wt HW.out)
    have HC1 := hide (fun (W : World) (h : ElT (Old W) W 15 ck C) => findT HW.out HSM.out id hx hb W h)
    have HC2 := hide (fun (W : World) (h : ElT (Old W) W 15 ck C) => rfindT HW.out HSM.out id hx hb W h)
    have HC3 := hide (fun (W : World) (h : ElT (Old W) W 15 ck C) => show Calls Tryd.prog 16 #[.agg C, .int .i64 id, .int .i64 day] W (PtRet pk pb W) from by rw [hpk, hpb]; exact (productT HW.out HSM.out id day W h).mono fun r w' h => pt_of h)
    have HC4 := hide (fun (W : World) (h : ElT (Old W) W 15 ck C) => show Calls Tryd.prog 17 #[.agg C, .int .i64 id, .int .i64 day] W (PtRet pk pb W) from by rw [hpk, hpb]; exact (rproductT HW.out HSM.out id day W h).mono fun r w' h => pt_of h)
    have HC5 := hide (fun (W : World) (h : ElT (Old W) W 15 ck C) => by have t := activeT HW.out HSM.out id day W h; rw [← hac] at t; exact t)
    have HC6 := hide (fun (W : World) (h : ElT (Old W) W 15 ck C) => by have t := ractiveT HW.out HSM.out id day W h; rw [← hac] at t; exact t)
    clear hx hb hpk hpb hac
    go_enter Tryd.func5, Tryd.ntmps5
    go_wp2_with (with_reducible refine wpList_load_row rfl 41 (.tmp 3) rfl w.heap.size rfl 41 C (0, 0) _ (blk_new rfl) Tryd.underlying41 rfl HS.out ?_)
    refine (HF.out _ (HX.out.below (by (repeat (first | (with_reducible first | exact Below.refl _ _ | assumption | refine Below.drew ?_ | refine below_drewN ?_ _) | ((with_reducible first | refine Below.alloc ?_ ?_ _ | refine Below.setCell ?_ ?_ _); rotate_left; (first | omega | (simp <;> omega)))))))).mono ?_
    rintro e w1 ⟨rfl, hb⟩
    have B1 := hide (show Below w.heap.size w w1 from Below.trans (by (repeat (first | (with_reducible first | exact Below.refl _ _ | assumption | refine Below.drew ?_ | refine below_drewN ?_ _) | ((with_reducible first | refine Below.alloc ?_ ?_ _ | refine Below.setCell ?_ ?_ _); rotate_left; (first | omega | (simp <;> omega)))))) (hb.mono (by simp)))
    have X1 := hide (blk_below hb (by simp) (blk_new (w := w) rfl))
    have z1 : w.heap.size < w1.heap.size := heap_lt X1.out
    have y1 := B1.out.size
    clear hb
    go_wp2_with (with_reducible refine wpList_load_row rfl 41 (.tmp 3) rfl w.heap.size rfl 41 C (0, 0) _ X1.out Tryd.underlying41 rfl HS.out ?_)
    refine (HC1.out _ (HX.out.below B1.out)).mono ?_
    rintro e w2 ⟨rfl, hb⟩
    have K2 := hide hb
    have y2 := hb.size
    clear hb
    go_wp2_with (with_reducible refine wpList_load_row rfl 41 (.tmp 3) rfl w.heap.size rfl 41 C (0, 0) _ (blk_under (blk_below K2.out z1 X1.out)) Tryd.underlying41 rfl HS.out ?_)
    have K3 := hide (show Below w1.heap.size w1 (w2.alloc (.cells #[.int .i64 x.id, .int .i64 x.op, .int .i64 x.cl, .int .i64 x.ex, .string x.ow, .string x.pr, .string x.nu] 44)) from K2.out.trans (by (repeat (first | (with_reducible first | exact Below.refl _ _ | assumption | refine Below.drew ?_ | refine below_drewN ?_ _) | ((with_reducible first | refine Below.alloc ?_ ?_ _ | refine Below.setCell ?_ ?_ _); rotate_left; (first | omega | (simp <;> omega)))))))
    have A3 := hide (show (w2.alloc (.cells #[.int .i64 x.id, .int .i64 x.op, .int .i64 x.cl, .int .i64 x.ex, .string x.ow, .string x.pr, .string x.nu] 44)).heap[w2.heap.size]? = some (.cells #[.int .i64 x.id, .int .i64 x.op, .int .i64 x.cl, .int .i64 x.ex, .string x.ow, .string x.pr, .string x.nu] 44 (0, 0)) from blk_new rfl)
    refine (HC2.out _ (HX.out.below (B1.out.trans (K3.out.mono y1)))).mono ?_
    rintro e w4 ⟨rfl, hb⟩
    have K4 := hide (K3.out.trans (hb.mono K3.out.size))
    have A4 := hide (blk_below hb (by simp) A3.out)
    have y4 := K4.out.size
    have a4 := heap_lt A4.out
    clear hb A3 K3
    generalize w2.heap.size = a7 at *
    go_wp2_with (with_reducible refine wpList_load_row rfl 41 (.tmp 3) rfl w.heap.size rfl 41 C (0, 0) _ (blk_under (blk_below K4.out z1 X1.out)) Tryd.underlying41 rfl HS.out ?_)
    have K5 := hide (show Below w1.heap.size w1 (w4.alloc (.cells #[.int .i64 x.id, .int .i64 x.op, .int .i64 x.cl, .int .i64 x.ex, .string x.ow, .string x.pr, .string x.nu] 44)) from K4.out.trans (by (repeat (first | (with_reducible first | exact Below.refl _ _ | assumption | refine Below.drew ?_ | refine below_drewN ?_ _) | ((with_reducible first | refine Below.alloc ?_ ?_ _ | refine Below.setCell ?_ ?_ _); rotate_left; (first | omega | (simp <;> omega)))))))
    have A5 := hide (show (w4.alloc (.cells #[.int .i64 x.id, .int .i64 x.op, .int .i64 x.cl, .int .i64 x.ex, .string x.ow, .string x.pr, .string x.nu] 44)).heap[w4.heap.size]? = some (.cells #[.int .i64 x.id, .int .i64 x.op, .int .i64 x.cl, .int .i64 x.ex, .string x.ow, .string x.pr, .string x.nu] 44 (0, 0)) from blk_new rfl)
    refine (HC3.out _ (HX.out.below (B1.out.trans (K5.out.mono y1)))).mono ?_
    rintro e w6 ⟨D1, rfl, hD1, hb⟩
    have K6 := hide (K5.out.trans (hb.mono K5.out.size))
    have A6 := hide (blk_below hb (by simp; omega) (blk_under A4.out))
    have E6 := hide (blk_below hb (by simp) A5.out)
    have HD1 := hide (hD1.below hb)
    have y6 := K6.out.size
    have a6 := heap_lt A6.out
    have e6 := heap_lt E6.out
    have HZD1 := hide (pz_size (C := D1) hD1.size)
    have HZQ1 := hide (show Z1.size = D1.size from HZ1.out.trans hD1.size.symm)
    clear hb hD1 A5 K5 A4 a4
    generalize w4.heap.size = a9 at *
    go_wp2_with (first
      | (with_reducible refine wpList_alloc_row rfl 53 rfl (some 11) rfl i1 HI1.out.1 Z1 HI1.out.2 w6.heap.size rfl ?_)
      | ((with_reducible refine wpList_store_newrow2 rfl 53 (.tmp 11) (.tmp 36) rfl rfl w6.heap.size D1 rfl rfl 53 Z1 (blk_new rfl) HZD1.out HZQ1.out HD1.out.ones ?_); intro w7 hb7 hs7 hx7 hk7; have BX7 := hide (show Below w6.heap.size w6 w7 from Below.trans (by (repeat (first | (with_reducible first | exact Below.refl _ _ | assumption | refine Below.drew ?_ | refine below_drewN ?_ _) | ((with_reducible first | refine Below.alloc ?_ ?_ _ | refine Below.setCell ?_ ?_ _); rotate_left; (first | omega | (simp <;> omega)))))) hb7); have K7 := hide (K6.out.trans (BX7.out.mono y6)); have F7 := hide hx7; have A7 := hide (blk_below BX7.out a6 A6.out); have E7 := hide (blk_below BX7.out e6 E6.out); have HD7 := hide (HD1.out.below BX7.out); clear hb7 hs7 hx7 hk7)
      | (with_reducible refine wpList_load_row rfl 41 (.tmp 3) rfl w.heap.size rfl 41 C (0, 0) _ (blk_below K7.out z1 X1.out) Tryd.underlying41 rfl HS.out ?_))
    have y7 := K7.out.size
    have a7' := heap_lt A7.out
    have e7 := heap_lt E7.out
    have f7 := heap_lt F7.out
    clear A6 E6 K6 a6 e6
    generalize w6.heap.size = a11 at *
    refine (HC4.out _ (HX.out.below (B1.out.trans (K7.out.mono y1)))).mono ?_
    rintro e w8 ⟨D2, rfl, hD2, hb⟩
    have K8 := hide (K7.out.trans (hb.mono y7))
    have A8 := hide (blk_below hb a7' A7.out)
    have E8 := hide (blk_below hb e7 E7.out)
    have F8 := hide (blk_below hb f7 F7.out)
    have HD8 := hide (HD7.out.below hb)
    have HG8 := hide (hD2.below hb)
    have y8 := K8.out.size
    have a8 := heap_lt A8.out
    have e8 := heap_lt E8.out
    have f8 := heap_lt F8.out
    have HZD2 := hide (pz_size (C := D2) hD2.size)
    have HZQ2 := hide (show Z1.size = D2.size from HZ1.out.trans hD2.size.symm)
    clear hb hD2
    go_wp2_with (first
      | (with_reducible refine wpList_alloc_row rfl 53 rfl (some 13) rfl i1 HI1.out.1 Z1 HI1.out.2 w8.heap.size rfl ?_)
      | ((with_reducible refine wpList_store_newrow2 rfl 53 (.tmp 13) (.tmp 43) rfl rfl w8.heap.size D2 rfl rfl 53 Z1 (blk_new rfl) HZD2.out HZQ2.out HG8.out.ones ?_); intro w9 hb9 hs9 hx9 hk9; have BX9 := hide (show Below w8.heap.size w8 w9 from Below.trans (by (repeat (first | (with_reducible first | exact Below.refl _ _ | assumption | refine Below.drew ?_ | refine below_drewN ?_ _) | ((with_reducible first | refine Below.alloc ?_ ?_ _ | refine Below.setCell ?_ ?_ _); rotate_left; (first | omega | (simp <;> omega)))))) hb9); have K9 := hide (K8.out.trans (BX9.out.mono y8)); have G9 := hide hx9; clear hb9 hs9 hx9 hk9))
    go_upto_region 7 with fail
    refine gen_w (FnIn ck C x pk D1 D2 w.heap.size a7 a9 a11 w8.heap.size w) ⟨B1.out.trans (K9.out.mono y1), blk_below K9.out z1 X1.out, blk_below BX9.out a8 A8.out, blk_below BX9.out e8 E8.out, blk_below BX9.out f8 F8.out, G9.out, HX.out.below (B1.out.trans (K9.out.mono y1)), HD8.out.below BX9.out, HG8.out.below BX9.out⟩ ?_
    clear B1 X1 z1 y1 K2 y2 K4 y4 HD1 y6 K7 A7 E7 F7 HD7 y7 a7' e7 f7 K8 A8 E8 F8 HD8 HG8 y8 a8 e8 f8 BX9 K9 G9 BX7
    generalize w8.heap.size = a13 at *
    rintro W ⟨hB, h3, h7, h9, h11, h13, hC, hD1, hD2⟩
    have HB := hide hB
    have H3 := hide h3
    have H11 := hide h11
    have H13 := hide h13
    have HC := hide hC
    have HD1 := hide hD1
    have HD2 := hide hD2
    have l3 := heap_lt h3
    have l7 := heap_lt h7
    have l9 := heap_lt h9
    have l11 := heap_lt h11
    have l13 := heap_lt h13
    have p0 := cell_of_cells h7 0
    have p1 := cell_of_cells h7 1
    have p2 := cell_of_cells h7 2
    have p3 := cell_of_cells h7 3
    have p4 := cell_of_cells h7 4
    have p5 := cell_of_cells h7 5
    have p6 := cell_of_cells h7 6
    have q0 := cell_of_cells h9 0
    have q1 := cell_of_cells h9 1
    have q2 := cell_of_cells h9 2
    have q3 := cell_of_cells h9 3
    have q4 := cell_of_cells h9 4
    have q5 := cell_of_cells h9 5
    have q6 := cell_of_cells h9 6
    clear h3 h7 h9 h11 h13 hC hD1 hD2 hB
    have hWz := HB.out.size
    refine ord_start (SB (W.heap.size) [] _) 33 (preB 0 33) (by kernel_rfl) (by kernel_rfl) (by kernel_rfl) SB.refl.drew (fun hHeld => ?_)
    refine ord_take (i := 0) (preB 1 32) ?_ rfl (by kernel_rfl) (by kernel_rfl) (by kernel_rfl) (by kernel_rfl) (fun _ _ _ h => h) hHeld (by rfl) (fun wx hSx => ?_) ?_
    rotate_left
    · (unfold SB at hSx; go_simp; (try with_reducible rfl))
    (try simp only [Act.put, putA, putB, putC])
    refine ord_take (i := 1) (preB 2 31) ?_ rfl (by kernel_rfl) (by kernel_rfl) (by kernel_rfl) (by kernel_rfl) (fun _ _ _ h => h) hHeld (by rfl) (fun wx hSx => ?_) ?_
    rotate_left
    · (unfold SB at hSx; go_simp; (try with_reducible rfl))
    (try simp only [Act.put, putA, putB, putC])
    refine ord_take (i := 2) (preB 3 30) ?_ rfl (by kernel_rfl) (by kernel_rfl) (by kernel_rfl) (by kernel_rfl) (fun _ _ _ h => h) hHeld (by rfl) (fun wx hSx => ?_) ?_
    rotate_left
    · (unfold SB at hSx; go_simp; (try with_reducible rfl))
    (try simp only [Act.put, putA, putB, putC])
    refine ord_take (i := 3) (preB 4 29) ?_ rfl (by kernel_rfl) (by kernel_rfl) (by kernel_rfl) (by kernel_rfl) (fun _ _ _ h => h) hHeld (by rfl) (fun wx hSx => ?_) ?_
    rotate_left
    · (unfold SB at hSx; go_simp; (try with_reducible rfl))
    (try simp only [Act.put, putA, putB, putC])
    refine ord_take (i := 4) (preB 5 28) ?_ rfl (by kernel_rfl) (by kernel_rfl) (by kernel_rfl) (by kernel_rfl) (fun _ _ _ h => h) hHeld (by rfl) (fun wx hSx => ?_) ?_
    rotate_left
    · (unfold SB at hSx; go_simp; (try with_reducible rfl))
    (try simp only [Act.put, putA, putB, putC])
    refine ord_take (i := 5) (preB 6 27) ?_ rfl (by kernel_rfl) (by kernel_rfl) (by kernel_rfl) (by kernel_rfl) (fun _ _ _ h => h) hHeld (by rfl) (fun wx hSx => ?_) ?_
    rotate_left
    · (unfold SB at hSx; go_simp; (try with_reducible rfl))
    (try simp only [Act.put, putA, putB, putC])
    refine ord_take (i := 6) (preB 7 26) ?_ rfl (by kernel_rfl) (by kernel_rfl) (by kernel_rfl) (by kernel_rfl) (fun _ _ _ h => h) hHeld (by rfl) (fun wx hSx => ?_) ?_
    rotate_left
    · (unfold SB at hSx; go_simp; (try with_reducible rfl))
    (try simp only [Act.put, putA, putB, putC])
    refine ord_take (i := 7) (preB 8 25) ?_ rfl (by kernel_rfl) (by kernel_rfl) (by kernel_rfl) (by kernel_rfl) (fun _ _ _ h => h) hHeld (by rfl) (fun wx hSx => ?_) ?_
    rotate_left
    · (unfold SB at hSx; go_simp; (try with_reducible rfl))
    (try simp only [Act.put, putA, putB, putC])
    refine ord_take (i := 8) (preB 9 24) ?_ rfl (by kernel_rfl) (by kernel_rfl) (by kernel_rfl) (by kernel_rfl) (fun _ _ _ h => h) hHeld (by rfl) (fun wx hSx => ?_) ?_
    rotate_left
    · (unfold SB at hSx; go_simp; (try with_reducible rfl))
    (try simp only [Act.put, putA, putB, putC])
    refine ord_take (i := 9) (preB 10 23) (.agg D1) rfl (by kernel_rfl) (by kernel_rfl) (by kernel_rfl) (by kernel_rfl) (fun _ _ _ h => h) hHeld (by rfl) (fun wx hSx => tk_row _ _ rfl a11 0 rfl D1 _ (rg_row hSx l11 H11.out) Tryd.underlying53 rfl HZD1.out) ?_
    (try simp only [Act.put, putA, putB, putC])
    refine ord_take (i := 10) (preB 11 22) (.agg D2) rfl (by kernel_rfl) (by kernel_rfl) (by kernel_rfl) (by kernel_rfl) (fun _ _ _ h => h) hHeld (by rfl) (fun wx hSx => tk_row _ _ rfl a13 0 rfl D2 _ (rg_row hSx l13 H13.out) Tryd.underlying53 rfl HZD2.out) ?_
    (try simp only [Act.put, putA, putB, putC])
    refine wpAnyH_ready (rs := [11]) (by kernel_rfl) (by simp) ?_
    refine ord_run (i := 11) (preB 12 21) rfl (by kernel_rfl) (by rfl) (fun K hK => ?_) AllReadyH.nil
    go_simp
    go_wp2_with (go_at_call 18; refine (sm_product pk HPK.out _ D1 D2 (HD1.out.below (by (repeat (first | (with_reducible first | exact Below.refl _ _ | assumption | refine Below.drew ?_ | refine below_drewN ?_ _) | ((with_reducible first | refine Below.alloc ?_ ?_ _ | refine Below.setCell ?_ ?_ _); rotate_left; (first | omega | (simp <;> omega))))))) (HD2.out.below (by (repeat (first | (with_reducible first | exact Below.refl _ _ | assumption | refine Below.drew ?_ | refine below_drewN ?_ _) | ((with_reducible first | refine Below.alloc ?_ ?_ _ | refine Below.setCell ?_ ?_ _); rotate_left; (first | omega | (simp <;> omega)))))))).mono ?_; rintro r w2 ⟨rfl, hb⟩; have hbS := hb; have hbS1 := hb; have J2 := hide (show Below W.heap.size W w2 from Below.trans (by (repeat (first | (with_reducible first | exact Below.refl _ _ | assumption | refine Below.drew ?_ | refine below_drewN ?_ _) | ((with_reducible first | refine Below.alloc ?_ ?_ _ | refine Below.setCell ?_ ?_ _); rotate_left; (first | omega | (simp <;> omega)))))) hb); have z2 := J2.out.size; clear hb)
    refine hK.out _ _ ?_ (fun hHeld => ?_)
    · (repeat (first | (with_reducible first | exact SB.refl | exact hHeld | refine SB.drew ?_ | refine SB.drewN ?_ _) | ((with_reducible first | refine SB.alloc ?_ ?_ _ | refine SB.below ?_ hbS ?_ | refine SB.below ?_ hbS1 ?_ | refine SB.below ?_ hbS2 ?_ | refine SB.below ?_ hbS3 ?_ | refine SB.below ?_ hbS4 ?_); rotate_left; (first | omega | (simp <;> omega))) | ((with_reducible refine SB.setCell ?_ ?_ _); rotate_left; (focus (first | (simp; done) | (right; first | omega | (simp <;> omega))))) | (with_reducible refine SB.undrew ?_) | ((with_reducible refine SB.congr ?_ ?_); rotate_left; (focus (simp; done))) | ((with_reducible refine SB.realloc ?_ ?_ ?_); rotate_left; (focus (simp; done)); (focus (simp; done)))))
    clear hK K
    (try simp only [Act.put, putA, putB, putC])
    refine ord_take (i := 12) (preB 13 20) ?_ rfl (by kernel_rfl) (by kernel_rfl) (by kernel_rfl) (by kernel_rfl) (fun _ _ _ h => h) hHeld (by rfl) (fun wx hSx => ?_) ?_
    rotate_left
    · (unfold SB at hSx; go_simp; (try with_reducible rfl))
    (try simp only [Act.put, putA, putB, putC])
    refine ord_take (i := 13) (preB 14 19) ?_ rfl (by kernel_rfl) (by kernel_rfl) (by kernel_rfl) (by kernel_rfl) (fun _ _ _ h => h) hHeld (by rfl) (fun wx hSx => ?_) ?_
    rotate_left
    · (unfold SB at hSx; go_simp; (try with_reducible rfl))
    (try simp only [Act.put, putA, putB, putC])
    refine ord_take (i := 14) (preB 15 18) ?_ rfl (by kernel_rfl) (by kernel_rfl) (by kernel_rfl) (by kernel_rfl) (fun _ _ _ h => h) hHeld (by rfl) (fun wx hSx => ?_) ?_
    rotate_left
    · (unfold SB at hSx; go_simp; (try with_reducible rfl))
    (try simp only [Act.put, putA, putB, putC])
    refine ord_take (i := 15) (preB 16 17) ?_ rfl (by kernel_rfl) (by kernel_rfl) (by kernel_rfl) (by kernel_rfl) (fun _ _ _ h => h) hHeld (by rfl) (fun wx hSx => ?_) ?_
    rotate_left
    · (unfold SB at hSx; go_simp; (try with_reducible rfl))
    (try simp only [Act.put, putA, putB, putC])
    refine ord_take (i := 16) (preB 17 16) ?_ rfl (by kernel_rfl) (by kernel_rfl) (by kernel_rfl) (by kernel_rfl) (fun _ _ _ h => h) hHeld (by rfl) (fun wx hSx => ?_) ?_
    rotate_left
    · (unfold SB at hSx; go_simp; (try with_reducible rfl))
    (try simp only [Act.put, putA, putB, putC])
    refine ord_take (i := 17) (preB 18 15) ?_ rfl (by kernel_rfl) (by kernel_rfl) (by kernel_rfl) (by kernel_rfl) (fun _ _ _ h => h) hHeld (by rfl) (fun wx hSx => ?_) ?_
    rotate_left
    · (unfold SB at hSx; go_simp; (try with_reducible rfl))
    (try simp only [Act.put, putA, putB, putC])
    refine ord_take (i := 18) (preB 19 14) ?_ rfl (by kernel_rfl) (by kernel_rfl) (by kernel_rfl) (by kernel_rfl) (fun _ _ _ h => h) hHeld (by rfl) (fun wx hSx => ?_) ?_
    rotate_left
    · (unfold SB at hSx; go_simp; (try with_reducible rfl))
    (try simp only [Act.put, putA, putB, putC])
    refine ord_take (i := 19) (preB 20 13) (.agg C) rfl (by kernel_rfl) (by kernel_rfl) (by kernel_rfl) (by kernel_rfl) (fun _ _ _ h => h) hHeld (by rfl) (fun wx hSx => tk_row _ _ rfl w.heap.size 0 rfl C _ (rg_row hSx l3 H3.out) Tryd.underlying41 rfl HS.out) ?_
    (try simp only [Act.put, putA, putB, putC])
    refine ord_take (i := 20) (preB 21 12) ?_ rfl (by kernel_rfl) (by kernel_rfl) (by kernel_rfl) (by kernel_rfl) (fun _ _ _ h => h) hHeld (by rfl) (fun wx hSx => ?_) ?_
    rotate_left
    · (unfold SB at hSx; go_simp; (try with_reducible rfl))
    (try simp only [Act.put, putA, putB, putC])
    refine ord_take (i := 21) (preB 22 11) ?_ rfl (by kernel_rfl) (by kernel_rfl) (by kernel_rfl) (by kernel_rfl) (fun _ _ _ h => h) hHeld (by rfl) (fun wx hSx => ?_) ?_
    rotate_left
    · (unfold SB at hSx; go_simp; (try with_reducible rfl))
    (try simp only [Act.put, putA, putB, putC])
    refine ord_take (i := 23) #[true, true, true, true, true, true, true, true, true, true, true, true, true, true, true, true, true, true, true, true, true, true, false, true, false, false, false, false, false, false, false, false, false] (.agg C) rfl (by kernel_rfl) (by kernel_rfl) (by kernel_rfl) (by kernel_rfl) (fun _ _ _ h => h) hHeld (by rfl) (fun wx hSx => tk_row _ _ rfl w.heap.size 0 rfl C _ (rg_row hSx l3 H3.out) Tryd.underlying41 rfl HS.out) ?_
    (try simp only [Act.put, putA, putB, putC])
    refine ord_take (i := 24) #[true, true, true, true, true, true, true, true, true, true, true, true, true, true, true, true, true, true, true, true, true, true, false, true, true, false, false, false, false, false, false, false, false] ?_ rfl (by kernel_rfl) (by kernel_rfl) (by kernel_rfl) (by kernel_rfl) (fun _ _ _ h => h) hHeld (by rfl) (fun wx hSx => ?_) ?_
    rotate_left
    · (unfold SB at hSx; go_simp; (try with_reducible rfl))
    (try simp only [Act.put, putA, putB, putC])
    refine ord_take (i := 25) #[true, true, true, true, true, true, true, true, true, true, true, true, true, true, true, true, true, true, true, true, true, true, false, true, true, true, false, false, false, false, false, false, false] ?_ rfl (by kernel_rfl) (by kernel_rfl) (by kernel_rfl) (by kernel_rfl) (fun _ _ _ h => h) hHeld (by rfl) (fun wx hSx => ?_) ?_
    rotate_left
    · (unfold SB at hSx; go_simp; (try with_reducible rfl))
    (try simp only [Act.put, putA, putB, putC])
    refine wpAnyH_ready (rs := [22]) (by kernel_rfl) (by simp) ?_
    refine ord_run (i := 22) (preB 26 7) rfl (by kernel_rfl) (by rfl) (fun K hK => ?_) AllReadyH.nil
    go_simp
    go_wp2_with (go_at_call 19; refine (HC5.out _ (HC.out.below (J2.out.trans (by (repeat (first | (with_reducible first | exact Below.refl _ _ | assumption | refine Below.drew ?_ | refine below_drewN ?_ _) | ((with_reducible first | refine Below.alloc ?_ ?_ _ | refine Below.setCell ?_ ?_ _); rotate_left; (first | omega | (simp <;> omega))))))))).mono ?_; rintro r w3 ⟨rfl, hb⟩; have hbS2 := hb; have J3 := hide (J2.out.trans ((show Below w2.heap.size w2 w3 from Below.trans (by (repeat (first | (with_reducible first | exact Below.refl _ _ | assumption | refine Below.drew ?_ | refine below_drewN ?_ _) | ((with_reducible first | refine Below.alloc ?_ ?_ _ | refine Below.setCell ?_ ?_ _); rotate_left; (first | omega | (simp <;> omega)))))) hb).mono z2)); have z3 := J3.out.size; have x3 := hb.size; (try simp at x3); clear hb)
    refine hK.out _ _ ?_ (fun hHeld => ?_)
    · (repeat (first | (with_reducible first | exact SB.refl | exact hHeld | refine SB.drew ?_ | refine SB.drewN ?_ _) | ((with_reducible first | refine SB.alloc ?_ ?_ _ | refine SB.below ?_ hbS ?_ | refine SB.below ?_ hbS1 ?_ | refine SB.below ?_ hbS2 ?_ | refine SB.below ?_ hbS3 ?_ | refine SB.below ?_ hbS4 ?_); rotate_left; (first | omega | (simp <;> omega))) | ((with_reducible refine SB.setCell ?_ ?_ _); rotate_left; (focus (first | (simp; done) | (right; first | omega | (simp <;> omega))))) | (with_reducible refine SB.undrew ?_) | ((with_reducible refine SB.congr ?_ ?_); rotate_left; (focus (simp; done))) | ((with_reducible refine SB.realloc ?_ ?_ ?_); rotate_left; (focus (simp; done)); (focus (simp; done)))))
    clear hK K
    (try simp only [Act.put, putA, putB, putC])
    refine wpAnyH_ready (rs := [26]) (by kernel_rfl) (by simp) ?_
    refine ord_run (i := 26) (preB 27 6) rfl (by kernel_rfl) (by rfl) (fun K hK => ?_) AllReadyH.nil
    go_simp
    go_wp2_with (go_at_call 20; refine (HC6.out _ (HC.out.below (J3.out.trans (by (repeat (first | (with_reducible first | exact Below.refl _ _ | assumption | refine Below.drew ?_ | refine below_drewN ?_ _) | ((with_reducible first | refine Below.alloc ?_ ?_ _ | refine Below.setCell ?_ ?_ _); rotate_left; (first | omega | (simp <;> omega))))))))).mono ?_; rintro r w4 ⟨rfl, hb⟩; have hbS3 := hb; have J4 := hide (J3.out.trans ((show Below w3.heap.size w3 w4 from Below.trans (by (repeat (first | (with_reducible first | exact Below.refl _ _ | assumption | refine Below.drew ?_ | refine below_drewN ?_ _) | ((with_reducible first | refine Below.alloc ?_ ?_ _ | refine Below.setCell ?_ ?_ _); rotate_left; (first | omega | (simp <;> omega)))))) hb).mono z3)); have z4 := J4.out.size; have x4 := hb.size; (try simp at x4); clear hb)
    refine hK.out _ _ ?_ (fun hHeld => ?_)
    · (repeat (first | (with_reducible first | exact SB.refl | exact hHeld | refine SB.drew ?_ | refine SB.drewN ?_ _) | ((with_reducible first | refine SB.alloc ?_ ?_ _ | refine SB.below ?_ hbS ?_ | refine SB.below ?_ hbS1 ?_ | refine SB.below ?_ hbS2 ?_ | refine SB.below ?_ hbS3 ?_ | refine SB.below ?_ hbS4 ?_); rotate_left; (first | omega | (simp <;> omega))) | ((with_reducible refine SB.setCell ?_ ?_ _); rotate_left; (focus (first | (simp; done) | (right; first | omega | (simp <;> omega))))) | (with_reducible refine SB.undrew ?_) | ((with_reducible refine SB.congr ?_ ?_); rotate_left; (focus (simp; done))) | ((with_reducible refine SB.realloc ?_ ?_ ?_); rotate_left; (focus (simp; done)); (focus (simp; done)))))
    clear hK K
    (try simp only [Act.put, putA, putB, putC])
    refine ord_take (i := 27) (preB 28 5) ?_ rfl (by kernel_rfl) (by kernel_rfl) (by kernel_rfl) (by kernel_rfl) (fun _ _ _ h => h) hHeld (by rfl) (fun wx hSx => ?_) ?_
    rotate_left
    · (unfold SB at hSx; go_simp; (try with_reducible rfl))
    (try simp only [Act.put, putA, putB, putC])
    refine ord_take (i := 28) (preB 29 4) ?_ rfl (by kernel_rfl) (by kernel_rfl) (by kernel_rfl) (by kernel_rfl) (fun _ _ _ h => h) hHeld (by rfl) (fun wx hSx => ?_) ?_
    rotate_left
    · (unfold SB at hSx; go_simp; (try with_reducible rfl))
    (try simp only [Act.put, putA, putB, putC])
    refine ord_take (i := 29) (preB 30 3) ?_ rfl (by kernel_rfl) (by kernel_rfl) (by kernel_rfl) (by kernel_rfl) (fun _ _ _ h => h) hHeld (by rfl) (fun wx hSx => ?_) ?_
    rotate_left
    · (unfold SB at hSx; go_simp; (try with_reducible rfl))
    (try simp only [Act.put, putA, putB, putC])
    refine wpAnyH_ready (rs := [30]) (by kernel_rfl) (by simp) ?_
    refine ord_run (i := 30) (preB 31 2) rfl (by kernel_rfl) (by rfl) (fun K hK => ?_) AllReadyH.nil
    go_simp
    go_wp2_with (go_at_call 11; refine (lives_any _ (HT.out.below (HB.out.trans ((J4.out.trans (by (repeat (first | (with_reducible first | exact Below.refl _ _ | assumption | refine Below.drew ?_ | refine below_drewN ?_ _) | ((with_reducible first | refine Below.alloc ?_ ?_ _ | refine Below.setCell ?_ ?_ _); rotate_left; (first | omega | (simp <;> omega))))))).mono hWz)))).mono ?_; rintro r w5 ⟨rfl, hb⟩; have hbS4 := hb; have J5 := hide (J4.out.trans ((show Below w4.heap.size w4 w5 from Below.trans (by (repeat (first | (with_reducible first | exact Below.refl _ _ | assumption | refine Below.drew ?_ | refine below_drewN ?_ _) | ((with_reducible first | refine Below.alloc ?_ ?_ _ | refine Below.setCell ?_ ?_ _); rotate_left; (first | omega | (simp <;> omega)))))) hb).mono z4)); clear hb)
    refine hK.out _ _ ?_ (fun hHeld => ?_)
    · (repeat (first | (with_reducible first | exact SB.refl | exact hHeld | refine SB.drew ?_ | refine SB.drewN ?_ _) | ((with_reducible first | refine SB.alloc ?_ ?_ _ | refine SB.below ?_ hbS ?_ | refine SB.below ?_ hbS1 ?_ | refine SB.below ?_ hbS2 ?_ | refine SB.below ?_ hbS3 ?_ | refine SB.below ?_ hbS4 ?_); rotate_left; (first | omega | (simp <;> omega))) | ((with_reducible refine SB.setCell ?_ ?_ _); rotate_left; (focus (first | (simp; done) | (right; first | omega | (simp <;> omega))))) | (with_reducible refine SB.undrew ?_) | ((with_reducible refine SB.congr ?_ ?_); rotate_left; (focus (simp; done))) | ((with_reducible refine SB.realloc ?_ ?_ ?_); rotate_left; (focus (simp; done)); (focus (simp; done)))))
    clear hK K
    (try simp only [Act.put, putA, putB, putC])
    refine ord_take (i := 31) (preB 32 1) ?_ rfl (by kernel_rfl) (by kernel_rfl) (by kernel_rfl) (by kernel_rfl) (fun _ _ _ h => h) hHeld (by rfl) (fun wx hSx => ?_) ?_
    rotate_left
    · (unfold SB at hSx; go_simp; (try with_reducible rfl))
    (try simp only [Act.put, putA, putB, putC])
    refine ord_take (i := 32) (preB 33 0) ?_ rfl (by kernel_rfl) (by kernel_rfl) (by kernel_rfl) (by kernel_rfl) (fun _ _ _ h => h) hHeld (by rfl) (fun wx hSx => ?_) ?_
    rotate_left
    · (unfold SB at hSx; go_simp; (try with_reducible rfl))
    (try simp only [Act.put, putA, putB, putC])
    refine wpAnyH_done (by kernel_rfl) ?_ _
    go_wp2_with fail
    go_ret
    exact ⟨rfl, HB.out.trans (J5.out.mono hWz)⟩
end Go.Proofs.YtdjhkhadjmndoaaDoor
