/- Texts laid together: Ahp. -/
import Derived.Test.YtdjhkhadjmndoaaGreatDoorQAha
import Derived.Test.YtdjhkhadjmndoaaGreatDoorQAhb
import Derived.Test.YtdjhkhadjmndoaaGreatDoorQAhn
import Derived.Test.YtdjhkhadjmndoaaGreatDoorQSmF
namespace Go.Proofs.YtdjhkhadjmndoaaGreatDoor
set_option maxRecDepth 4000
set_option linter.unusedSimpArgs false
set_option linter.unusedVariables false
open Go.RowKit
theorem ropenT {ck : Nat → Tr} (hw : KnOK 15 ck) (hs : Sml ck) {X : Array Value} (x : LAcc) (w : World) (hX : ElT (Old w) w 15 ck X) :
    Calls Tryz.prog 8 #[.agg X, .agg #[.int .i64 x.id, .int .i64 x.op, .int .i64 x.cl, .int .i64 x.ex, .string x.ow, .string x.pr, .string x.nu]] w (RoRet ck x (alwK ck x) w) := by
  obtain ⟨B, rfl, hB⟩ := bk_of hw hs hX
  have h := ropen_any ck hw B hB.ok x w hX hB.inn
  rw [alwE_congr hB.P, hB.a, hB.an, hB.pn] at h
  exact h
/-- Books and an error. -/
def BeRet (rk : Nat → Tr) (e : Int) (w : World) (r : Ending) (w' : World) : Prop := ∃ D, r = .returned (.tuple #[.agg D, .int .i64 e]) ∧ ElT (Old w') w' 15 rk D ∧ Below w.heap.size w w'
set_option maxRecDepth 8000 in
set_option maxHeartbeats 8000000 in
theorem walk_opens (C : Array Value) (ck : Nat → Tr) (x : LAcc) (w : World) (hw : KnOK 15 ck) (hX : ElT (Old w) w 15 ck C) (hx : AccR x) (ht : Tab w) : Calls Tryz.prog 3 #[.agg C, .agg #[.int .i64 x.id, .int .i64 x.op, .int .i64 x.cl, .int .i64 x.ex, .string x.ow, .string x.pr, .string x.nu]] w fun e w' => e = .returned (.bool true) ∧ Below w.heap.size w w' := by
  obtain ⟨i0, Z, hi0, hi1, hi2, hi3, hi4⟩ := zb_zero
  have HI := hide (And.intro hi0 hi1)
  have HZS := hide hi2
  have HT := hide ht
  have HX := hide hX
  have HW := hide hw
  have HXI := hide hx
  have HS := hide (zb_size (C := C) hX.size)
  obtain ⟨fb, hfb⟩ : ∃ b, b = fewB ck := ⟨_, rfl⟩
  have HF := hide (fun (W : World) (h : ElT (Old W) W 15 ck C) => by have t := few_any HW.out W h; rw [← hfb] at t; exact t)
  have HFB := hide hfb
  clear ht hX hw hfb hi0 hi1 hi2 hi3 hi4
  cases fb with
  | false =>
    go_enter Tryz.func3, Tryz.ntmps3
    go_wp2_with (with_reducible refine wpList_load_row rfl 33 (.tmp 2) rfl w.heap.size rfl 33 C (0, 0) _ (two_boxes _ _ _) Tryz.underlying33 rfl HS.out ?_)
    refine (HF.out _ (HX.out.below (by (repeat (first | (with_reducible first | exact Below.refl _ _ | assumption | refine Below.drew ?_) | ((with_reducible first | refine Below.alloc ?_ ?_ _ | refine Below.setCell ?_ ?_ _); rotate_left; (first | omega | (simp <;> omega)))))))).mono ?_
    rintro e w1 ⟨rfl, hb⟩
    have B1 := hide (show Below w.heap.size w w1 from Below.trans (by (repeat (first | (with_reducible first | exact Below.refl _ _ | assumption | refine Below.drew ?_) | ((with_reducible first | refine Below.alloc ?_ ?_ _ | refine Below.setCell ?_ ?_ _); rotate_left; (first | omega | (simp <;> omega)))))) (hb.mono (by first | omega | (simp <;> omega))))
    clear hb
    go_wp2_with fail
    refine (lives_any _ (HT.out.below B1.out)).mono ?_
    rintro e w2 ⟨rfl, hb⟩
    have B2 := hide (B1.out.trans (hb.mono B1.out.size))
    clear hb
    go_wp2_with fail
    go_ret
    exact ⟨rfl, B2.out⟩
  | true =>
    have HSM := hide (few_sml HFB.out.symm)
    obtain ⟨ev, hev⟩ : ∃ v, v = alwK ck x := ⟨_, rfl⟩
    obtain ⟨rk, hrk⟩ : ∃ k : Nat → Tr, k = (if ev = 0 then opT ck x else zbT) := ⟨_, rfl⟩
    have HRW := hide (show KnOK 15 rk from by rw [hrk]; split; exact op_wt HW.out HSM.out.an HXI.out; exact zb_wt)
    have HC1 := hide (fun (W : World) (h1 : Tab W) (h : ElT (Old W) W 15 ck C) => show Calls Tryz.prog 7 #[.agg C, .agg #[.int .i64 x.id, .int .i64 x.op, .int .i64 x.cl, .int .i64 x.ex, .string x.ow, .string x.pr, .string x.nu]] W (BeRet rk ev W) from by
      have t := openT HW.out HSM.out x HXI.out.ow W h1 h
      rw [← hev] at t
      exact t.mono fun r w' ⟨D, a1, a2, a3⟩ => ⟨D, a1, by rw [hrk]; exact a2.mono (fun b h => h.2) (fun _ _ => rfl), a3⟩)
    have HC2 := hide (fun (W : World) (h : ElT (Old W) W 15 ck C) => show Calls Tryz.prog 8 #[.agg C, .agg #[.int .i64 x.id, .int .i64 x.op, .int .i64 x.cl, .int .i64 x.ex, .string x.ow, .string x.pr, .string x.nu]] W (BeRet rk ev W) from by
      have t := ropenT HW.out HSM.out x W h
      rw [← hev] at t
      exact t.mono fun r w' ⟨D, a1, a2, a3⟩ => ⟨D, a1, by rw [hrk]; exact a2, a3⟩)
    clear hev hrk
    go_enter Tryz.func3, Tryz.ntmps3
    go_wp2_with (with_reducible refine wpList_load_row rfl 33 (.tmp 2) rfl w.heap.size rfl 33 C (0, 0) _ (two_boxes _ _ _) Tryz.underlying33 rfl HS.out ?_)
    refine (HF.out _ (HX.out.below (by (repeat (first | (with_reducible first | exact Below.refl _ _ | assumption | refine Below.drew ?_) | ((with_reducible first | refine Below.alloc ?_ ?_ _ | refine Below.setCell ?_ ?_ _); rotate_left; (first | omega | (simp <;> omega)))))))).mono ?_
    rintro e w1 ⟨rfl, hb⟩
    have B1 := hide (show Below w.heap.size w w1 from Below.trans (by (repeat (first | (with_reducible first | exact Below.refl _ _ | assumption | refine Below.drew ?_) | ((with_reducible first | refine Below.alloc ?_ ?_ _ | refine Below.setCell ?_ ?_ _); rotate_left; (first | omega | (simp <;> omega)))))) (hb.mono (by first | omega | (simp <;> omega))))
    have X1 := hide (blk_below hb (by first | omega | (simp <;> omega)) (two_boxes _ _ _))
    have A1 := hide (blk_below hb (by simp) (blk_new (k := w.heap.size + 1) (by simp)))
    have v1 := heap_lt A1.out
    have p0 := cell_of_cells A1.out 0
    have p1 := cell_of_cells A1.out 1
    have p2 := cell_of_cells A1.out 2
    have p3 := cell_of_cells A1.out 3
    have p4 := cell_of_cells A1.out 4
    have p5 := cell_of_cells A1.out 5
    have p6 := cell_of_cells A1.out 6
    have z1 := heap_lt X1.out
    have y1 := B1.out.size
    clear hb
    go_wp2_with (with_reducible refine wpList_load_row rfl 33 (.tmp 2) rfl w.heap.size rfl 33 C (0, 0) _ X1.out Tryz.underlying33 rfl HS.out ?_)
    refine (HC1.out _ (HT.out.below B1.out) (HX.out.below B1.out)).mono ?_
    rintro e w2 ⟨D1, rfl, hD1, hb⟩
    have B2 := hide (B1.out.trans (hb.mono y1))
    have X2 := hide (blk_below hb z1 X1.out)
    have A2 := hide (blk_below hb v1 A1.out)
    have v2 := heap_lt A2.out
    clear p0 p1 p2 p3 p4 p5 p6 A1 v1
    have HD1 := hide hD1
    have HDI1 := hide (zb_size (C := D1) hD1.size)
    have HDZ1 := hide (show Z.size = D1.size from HZS.out.trans hD1.size.symm)
    have z2 := heap_lt X2.out
    have y2 := B2.out.size
    clear hb hD1 X1 z1
    go_wp2_with (first
      | (with_reducible refine wpList_alloc_row rfl 33 rfl (some 5) rfl i0 HI.out.1 Z HI.out.2 w2.heap.size rfl ?_)
      | ((with_reducible refine wpList_store_newrow2 rfl 33 (.tmp 5) (.tmp 17) rfl rfl w2.heap.size D1 rfl rfl 33 Z (blk_new rfl) HDI1.out HDZ1.out HD1.out.ones ?_); intro w3 hb3 hs3 hx3 hk3; have F3 := hide hx3; have K3 := hide (show Below w2.heap.size w2 w3 from Below.trans (by (repeat (first | (with_reducible first | exact Below.refl _ _ | assumption | refine Below.drew ?_) | ((with_reducible first | refine Below.alloc ?_ ?_ _ | refine Below.setCell ?_ ?_ _); rotate_left; (first | omega | (simp <;> omega)))))) hb3); have X3 := hide (blk_below K3.out z2 X2.out); have A3 := hide (blk_below K3.out v2 A2.out); have p0 := cell_of_cells A3.out 0; have p1 := cell_of_cells A3.out 1; have p2 := cell_of_cells A3.out 2; have p3 := cell_of_cells A3.out 3; have p4 := cell_of_cells A3.out 4; have p5 := cell_of_cells A3.out 5; have p6 := cell_of_cells A3.out 6; clear hb3 hs3 hx3 hk3)
      | (with_reducible refine wpList_load_row rfl 33 (.tmp 2) rfl w.heap.size rfl 33 C (0, 0) _ X3.out Tryz.underlying33 rfl HS.out ?_))
    have B3 := hide (B2.out.trans (K3.out.mono y2))
    have G3 := hide (HD1.out.below K3.out)
    have f3 := heap_lt F3.out
    have y3 := B3.out.size
    clear HD1 K3 X2 z2 X3
    generalize w2.heap.size = a5 at *
    refine (HC2.out _ (HX.out.below B3.out)).mono ?_
    rintro e w4 ⟨D2, rfl, hD2, hb⟩
    have B4 := hide (B3.out.trans (hb.mono y3))
    have F4 := hide (blk_below hb f3 F3.out)
    have G4 := hide (G3.out.below hb)
    have HD2 := hide hD2
    have HDI2 := hide (zb_size (C := D2) hD2.size)
    have HDZ2 := hide (show Z.size = D2.size from HZS.out.trans hD2.size.symm)
    have f4 := heap_lt F4.out
    have y4 := B4.out.size
    clear hb hD2 F3 G3 f3 p0 p1 p2 p3 p4 p5 p6
    go_wp2_with (first
      | (with_reducible refine wpList_alloc_row rfl 33 rfl (some 7) rfl i0 HI.out.1 Z HI.out.2 w4.heap.size rfl ?_)
      | ((with_reducible refine wpList_store_newrow2 rfl 33 (.tmp 7) (.tmp 23) rfl rfl w4.heap.size D2 rfl rfl 33 Z (blk_new rfl) HDI2.out HDZ2.out HD2.out.ones ?_); intro w5 hb5 hs5 hx5 hk5; have F5 := hide hx5; have K5 := hide (show Below w4.heap.size w4 w5 from Below.trans (by (repeat (first | (with_reducible first | exact Below.refl _ _ | assumption | refine Below.drew ?_) | ((with_reducible first | refine Below.alloc ?_ ?_ _ | refine Below.setCell ?_ ?_ _); rotate_left; (first | omega | (simp <;> omega)))))) hb5); have G5 := hide (blk_below K5.out f4 F4.out); clear hb5 hs5 hx5 hk5)
      | (with_reducible refine wpList_load_row rfl 33 (.tmp 5) rfl a5 rfl 33 D1 (0, 0) _ G5.out Tryz.underlying33 rfl HDI1.out ?_)
      | (with_reducible refine wpList_load_row rfl 33 (.tmp 7) rfl w4.heap.size rfl 33 D2 (0, 0) _ F5.out Tryz.underlying33 rfl HDI2.out ?_))
    refine (sm_books rk HRW.out _ D1 D2 (G4.out.below K5.out) (HD2.out.below K5.out)).mono ?_
    rintro e w6 ⟨rfl, hb⟩
    have B6 := hide (B4.out.trans ((K5.out.trans (hb.mono K5.out.size)).mono y4))
    clear hb
    go_wp2_with fail
    refine (lives_any _ (HT.out.below B6.out)).mono ?_
    rintro e w7 ⟨rfl, hb⟩
    have B7 := hide (B6.out.trans (hb.mono B6.out.size))
    clear hb
    go_wp2_with fail
    go_ret
    exact ⟨rfl, B7.out⟩
end Go.Proofs.YtdjhkhadjmndoaaGreatDoor
