/- Texts laid together: Ahq. -/
import Derived.Test.YtdjhkhadjmndoaaGreatDoorQAha
import Derived.Test.YtdjhkhadjmndoaaGreatDoorQAhb
import Derived.Test.YtdjhkhadjmndoaaGreatDoorQAho
import Derived.Test.YtdjhkhadjmndoaaGreatDoorQSmF
namespace Go.Proofs.YtdjhkhadjmndoaaGreatDoor
set_option maxRecDepth 4000
set_option linter.unusedSimpArgs false
set_option linter.unusedVariables false
open Go.RowKit
theorem rcloseT {ck : Nat → Tr} (hw : KnOK 15 ck) (hs : Sml ck) {X : Array Value} (id day : Int) (w : World) (hX : ElT (Old w) w 15 ck X) :
    Calls Tryz.prog 11 #[.agg X, .int .i64 id, .int .i64 day] w (RcRet ck (idxK ck id) day (clsK ck id day) w) := by
  obtain ⟨B, rfl, hB⟩ := bk_of hw hs hX
  obtain ⟨E, hj, hE⟩ := hB.jr
  obtain ⟨hA, hc, h20, hh⟩ := hB.ho
  have h := rclose_any ck hw B hB.ok E (by rw [hB.jn]; exact hs.jn) hA (ck 20).n hc h20 (hlK ck) hs.hn id day w hX hB.inn hj hh
  have e : clsE B.a B.an E B.jn (hlK ck) (ck 20).n id day = clsK ck id day := by
    unfold clsK clsE
    rw [hB.a, hB.an, hB.jn, mvs_sum hE]
  rw [e, hB.a, hB.an] at h
  exact h
/-- Books and an error. -/
def BfRet (rk : Nat → Tr) (e : Int) (w : World) (r : Ending) (w' : World) : Prop := ∃ D, r = .returned (.tuple #[.agg D, .int .i64 e]) ∧ ElT (Old w') w' 15 rk D ∧ Below w.heap.size w w'
set_option maxRecDepth 8000 in
set_option maxHeartbeats 8000000 in
theorem walk_closes (C : Array Value) (ck : Nat → Tr) (id day : Int) (hday : IIn day) (w : World) (hw : KnOK 15 ck) (hX : ElT (Old w) w 15 ck C) (ht : Tab w) : Calls Tryz.prog 4 #[.agg C, .int .i64 id, .int .i64 day] w fun e w' => e = .returned (.bool true) ∧ Below w.heap.size w w' := by
  obtain ⟨i0, Z, hi0, hi1, hi2, hi3, hi4⟩ := zb_zero
  have HI := hide (And.intro hi0 hi1)
  have HZS := hide hi2
  have HT := hide ht
  have HX := hide hX
  have HW := hide hw
  have HS := hide (zb_size (C := C) hX.size)
  obtain ⟨fb, hfb⟩ : ∃ b, b = fewB ck := ⟨_, rfl⟩
  have HF := hide (fun (W : World) (h : ElT (Old W) W 15 ck C) => by have t := few_any HW.out W h; rw [← hfb] at t; exact t)
  have HFB := hide hfb
  clear ht hX hw hfb hi0 hi1 hi2 hi3 hi4
  cases fb with
  | false =>
    go_enter Tryz.func4, Tryz.ntmps4
    go_wp2_with (with_reducible refine wpList_load_row rfl 33 (.tmp 3) rfl w.heap.size rfl 33 C (0, 0) _ (blk_new rfl) Tryz.underlying33 rfl HS.out ?_)
    refine (HF.out _ (HX.out.below (by (repeat (first | (with_reducible first | exact Below.refl _ _ | assumption | refine Below.drew ?_) | ((with_reducible first | refine Below.alloc ?_ ?_ _ | refine Below.setCell ?_ ?_ _); rotate_left; (first | omega | (simp <;> omega)))))))).mono ?_
    rintro e w1 ⟨rfl, hb⟩
    have B1 := hide (show Below w.heap.size w w1 from Below.trans (by (repeat (first | (with_reducible first | exact Below.refl _ _ | assumption | refine Below.drew ?_) | ((with_reducible first | refine Below.alloc ?_ ?_ _ | refine Below.setCell ?_ ?_ _); rotate_left; (first | omega | (simp <;> omega)))))) (hb.mono (by first | omega | (simp <;> omega))))
    clear hb
    go_wp2_with fail
    refine (lives_any _ (HT.out.below B1.out)).mono ?_
    rintro e w2 ⟨rfl, hb⟩
    have B2 := hide (B1.out.trans (hb.mono B1.out.size))
    clear hb
    go_wp2_with fail
    go_ret
    exact ⟨rfl, B2.out⟩
  | true =>
    have HSM := hide (few_sml HFB.out.symm)
    obtain ⟨ev, hev⟩ : ∃ v, v = clsK ck id day := ⟨_, rfl⟩
    obtain ⟨rk, hrk⟩ : ∃ k : Nat → Tr, k = (if ev = 0 then clT ck (idxK ck id) day else zbT) := ⟨_, rfl⟩
    have HRW := hide (show KnOK 15 rk from by rw [hrk]; split; exact cl_wt HW.out hday; exact zb_wt)
    have HC1 := hide (fun (W : World) (h1 : Tab W) (h : ElT (Old W) W 15 ck C) => show Calls Tryz.prog 10 #[.agg C, .int .i64 id, .int .i64 day] W (BfRet rk ev W) from by
      have t := closeT HW.out HSM.out id day W h
      rw [← hev] at t
      exact t.mono fun r w' ⟨D, a1, a2, a3⟩ => ⟨D, a1, by rw [hrk]; exact a2.mono (fun b h => h.2) (fun _ _ => rfl), a3⟩)
    have HC2 := hide (fun (W : World) (h : ElT (Old W) W 15 ck C) => show Calls Tryz.prog 11 #[.agg C, .int .i64 id, .int .i64 day] W (BfRet rk ev W) from by
      have t := rcloseT HW.out HSM.out id day W h
      rw [← hev] at t
      exact t.mono fun r w' ⟨D, a1, a2, a3⟩ => ⟨D, a1, by rw [hrk]; exact a2, a3⟩)
    clear hev hrk
    go_enter Tryz.func4, Tryz.ntmps4
    go_wp2_with (with_reducible refine wpList_load_row rfl 33 (.tmp 3) rfl w.heap.size rfl 33 C (0, 0) _ (blk_new rfl) Tryz.underlying33 rfl HS.out ?_)
    refine (HF.out _ (HX.out.below (by (repeat (first | (with_reducible first | exact Below.refl _ _ | assumption | refine Below.drew ?_) | ((with_reducible first | refine Below.alloc ?_ ?_ _ | refine Below.setCell ?_ ?_ _); rotate_left; (first | omega | (simp <;> omega)))))))).mono ?_
    rintro e w1 ⟨rfl, hb⟩
    have B1 := hide (show Below w.heap.size w w1 from Below.trans (by (repeat (first | (with_reducible first | exact Below.refl _ _ | assumption | refine Below.drew ?_) | ((with_reducible first | refine Below.alloc ?_ ?_ _ | refine Below.setCell ?_ ?_ _); rotate_left; (first | omega | (simp <;> omega)))))) (hb.mono (by first | omega | (simp <;> omega))))
    have X1 := hide (blk_below hb (by first | omega | (simp <;> omega)) (blk_new rfl))
    have z1 := heap_lt X1.out
    have y1 := B1.out.size
    clear hb
    go_wp2_with (with_reducible refine wpList_load_row rfl 33 (.tmp 3) rfl w.heap.size rfl 33 C (0, 0) _ X1.out Tryz.underlying33 rfl HS.out ?_)
    refine (HC1.out _ (HT.out.below B1.out) (HX.out.below B1.out)).mono ?_
    rintro e w2 ⟨D1, rfl, hD1, hb⟩
    have B2 := hide (B1.out.trans (hb.mono y1))
    have X2 := hide (blk_below hb z1 X1.out)
    have HD1 := hide hD1
    have HDI1 := hide (zb_size (C := D1) hD1.size)
    have HDZ1 := hide (show Z.size = D1.size from HZS.out.trans hD1.size.symm)
    have z2 := heap_lt X2.out
    have y2 := B2.out.size
    clear hb hD1 X1 z1
    go_wp2_with (first
      | (with_reducible refine wpList_alloc_row rfl 33 rfl (some 7) rfl i0 HI.out.1 Z HI.out.2 w2.heap.size rfl ?_)
      | ((with_reducible refine wpList_store_newrow2 rfl 33 (.tmp 7) (.tmp 20) rfl rfl w2.heap.size D1 rfl rfl 33 Z (blk_new rfl) HDI1.out HDZ1.out HD1.out.ones ?_); intro w3 hb3 hs3 hx3 hk3; have F3 := hide hx3; have K3 := hide (show Below w2.heap.size w2 w3 from Below.trans (by (repeat (first | (with_reducible first | exact Below.refl _ _ | assumption | refine Below.drew ?_) | ((with_reducible first | refine Below.alloc ?_ ?_ _ | refine Below.setCell ?_ ?_ _); rotate_left; (first | omega | (simp <;> omega)))))) hb3); have X3 := hide (blk_below K3.out z2 X2.out); clear hb3 hs3 hx3 hk3)
      | (with_reducible refine wpList_load_row rfl 33 (.tmp 3) rfl w.heap.size rfl 33 C (0, 0) _ X3.out Tryz.underlying33 rfl HS.out ?_))
    have B3 := hide (B2.out.trans (K3.out.mono y2))
    have G3 := hide (HD1.out.below K3.out)
    have f3 := heap_lt F3.out
    have y3 := B3.out.size
    clear HD1 K3 X2 z2 X3
    generalize w2.heap.size = a5 at *
    refine (HC2.out _ (HX.out.below B3.out)).mono ?_
    rintro e w4 ⟨D2, rfl, hD2, hb⟩
    have B4 := hide (B3.out.trans (hb.mono y3))
    have F4 := hide (blk_below hb f3 F3.out)
    have G4 := hide (G3.out.below hb)
    have HD2 := hide hD2
    have HDI2 := hide (zb_size (C := D2) hD2.size)
    have HDZ2 := hide (show Z.size = D2.size from HZS.out.trans hD2.size.symm)
    have f4 := heap_lt F4.out
    have y4 := B4.out.size
    clear hb hD2 F3 G3 f3 
    go_wp2_with (first
      | (with_reducible refine wpList_alloc_row rfl 33 rfl (some 9) rfl i0 HI.out.1 Z HI.out.2 w4.heap.size rfl ?_)
      | ((with_reducible refine wpList_store_newrow2 rfl 33 (.tmp 9) (.tmp 27) rfl rfl w4.heap.size D2 rfl rfl 33 Z (blk_new rfl) HDI2.out HDZ2.out HD2.out.ones ?_); intro w5 hb5 hs5 hx5 hk5; have F5 := hide hx5; have K5 := hide (show Below w4.heap.size w4 w5 from Below.trans (by (repeat (first | (with_reducible first | exact Below.refl _ _ | assumption | refine Below.drew ?_) | ((with_reducible first | refine Below.alloc ?_ ?_ _ | refine Below.setCell ?_ ?_ _); rotate_left; (first | omega | (simp <;> omega)))))) hb5); have G5 := hide (blk_below K5.out f4 F4.out); clear hb5 hs5 hx5 hk5)
      | (with_reducible refine wpList_load_row rfl 33 (.tmp 7) rfl a5 rfl 33 D1 (0, 0) _ G5.out Tryz.underlying33 rfl HDI1.out ?_)
      | (with_reducible refine wpList_load_row rfl 33 (.tmp 9) rfl w4.heap.size rfl 33 D2 (0, 0) _ F5.out Tryz.underlying33 rfl HDI2.out ?_))
    refine (sm_books rk HRW.out _ D1 D2 (G4.out.below K5.out) (HD2.out.below K5.out)).mono ?_
    rintro e w6 ⟨rfl, hb⟩
    have B6 := hide (B4.out.trans ((K5.out.trans (hb.mono K5.out.size)).mono y4))
    clear hb
    go_wp2_with fail
    refine (lives_any _ (HT.out.below B6.out)).mono ?_
    rintro e w7 ⟨rfl, hb⟩
    have B7 := hide (B6.out.trans (hb.mono B6.out.size))
    clear hb
    go_wp2_with fail
    go_ret
    exact ⟨rfl, B7.out⟩
end Go.Proofs.YtdjhkhadjmndoaaGreatDoor
