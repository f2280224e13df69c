/- Texts laid together: Ahl. -/
import Derived.Test.YtdjhkhadjmndoaaDoorQAha
import Derived.Test.YtdjhkhadjmndoaaDoorQAhb
import Derived.Test.YtdjhkhadjmndoaaDoorQAhh
import Derived.Test.YtdjhkhadjmndoaaDoorQAhk
import Derived.Test.YtdjhkhadjmndoaaDoorQSmF
namespace Go.Proofs.YtdjhkhadjmndoaaDoor
set_option maxRecDepth 4000
set_option linter.unusedSimpArgs false
set_option linter.unusedVariables false
open Go.RowKit
/-- The first n accounts of books with one more. -/
theorem row_less {S : Nat → Prop} {w : World} {e : Nat} {A : Option Addr} {n m : Nat} {c d : Nat → Nat → Tr} {C : Nat → Nat → Value} (h : RowT S w e A n c C) (hm : m ≤ n) (hd : ∀ k, k < m → d k = c k) : RowT S w e A m d C :=
  ⟨fun h0 => by obtain ⟨b, off, e1, hb, hc⟩ := h.row (by omega); exact ⟨b, off, e1, hb, fun k j hk hj => hc k j (by omega) hj⟩, fun k j hk hj => by rw [hd k hk]; exact h.rd k j (by omega) hj⟩
/-- What the walk finds behind Open. -/
def KpIn (ck : Nat → Tr) (ek : Nat → Tr) (C D : Array Value) (x : LAcc) (a3 a4 a7 : Nat) (w W : World) : Prop :=
  Below w.heap.size w W ∧ W.heap[a3]? = some (.cells C 41 (0, 0)) ∧ W.heap[a4]? = some (.cells #[.int .i64 x.id, .int .i64 x.op, .int .i64 x.cl, .int .i64 x.ex, .string x.ow, .string x.pr, .string x.nu] 44 (0, 0)) ∧ W.heap[a7]? = some (.cells D 41 (0, 0)) ∧ ElT (Old W) W 15 ck C ∧ ElT (Old W) W 15 ek D
set_option maxRecDepth 8000 in
set_option maxHeartbeats 16000000 in
theorem walk_keeps (C : Array Value) (ck : Nat → Tr) (x : LAcc) (day : Int) (hday : IIn day) (w : World) (hw : KnOK 15 ck) (hX : ElT (Old w) w 15 ck C) (hx : AccR x) (ht : Tab w) : Calls Tryd.prog 7 #[.agg C, .agg #[.int .i64 x.id, .int .i64 x.op, .int .i64 x.cl, .int .i64 x.ex, .string x.ow, .string x.pr, .string x.nu], .int .i64 day] w fun e w' => e = .returned (.bool true) ∧ Below w.heap.size w w' := by
  obtain ⟨i0, Z, hi0, hi1, hi2, hi3, hi4⟩ := zb_zero
  obtain ⟨ZB, hz0, hz1, hz2, hz3⟩ := zb_built
  have HI := hide (And.intro hi0 hi1)
  have HZS := hide hi2
  have HZB := hide hz0
  have HZE := hide (fun (W : World) => show ElT (Old W) W 15 zbT ZB from by rw [hz3]; exact zb_rd)
  have HT := hide ht
  have HX := hide hX
  have HW := hide hw
  have HXI := hide hx
  have HS := hide (zb_size (C := C) hX.size)
  obtain ⟨fb, hfb⟩ : ∃ b, b = fewB ck := ⟨_, rfl⟩
  have HF := hide (fun (W : World) (h : ElT (Old W) W 15 ck C) => by have t := few_any HW.out W h; rw [← hfb] at t; exact t)
  have HFB := hide hfb
  clear ht hX hw hfb hi0 hi1 hi2 hi3 hi4 hz0 hz1 hz2 hz3 hx
  cases fb with
  | false =>
    go_enter Tryd.func7, Tryd.ntmps7
    go_wp2_with (with_reducible refine wpList_load_row rfl 41 (.tmp 3) rfl w.heap.size rfl 41 C (0, 0) _ (two_boxes _ _ _) Tryd.underlying41 rfl HS.out ?_)
    refine (HF.out _ (HX.out.below (by (repeat (first | (with_reducible first | exact Below.refl _ _ | assumption | refine Below.drew ?_) | ((with_reducible first | refine Below.alloc ?_ ?_ _ | refine Below.setCell ?_ ?_ _); rotate_left; (first | omega | (simp <;> omega)))))))).mono ?_
    rintro e w1 ⟨rfl, hb⟩
    have B1 := hide (show Below w.heap.size w w1 from Below.trans (by (repeat (first | (with_reducible first | exact Below.refl _ _ | assumption | refine Below.drew ?_) | ((with_reducible first | refine Below.alloc ?_ ?_ _ | refine Below.setCell ?_ ?_ _); rotate_left; (first | omega | (simp <;> omega)))))) (hb.mono (by simp; omega)))
    clear hb
    go_wp2_with fail
    refine (lives_any _ (HT.out.below B1.out)).mono ?_
    rintro e w2 ⟨rfl, hb⟩
    have B2 := hide (B1.out.trans (hb.mono B1.out.size))
    clear hb
    go_wp2_with fail
    go_ret
    exact ⟨rfl, B2.out⟩
  | true =>
    have HSM := hide (few_sml HFB.out.symm)
    obtain ⟨cv, hcv⟩ : ∃ v, v = chkK ck := ⟨_, rfl⟩
    have HCK := hide (fun (W : World) (h1 : Tab W) (h2 : ElT (Old W) W 15 ck C) => by have t := checkT HW.out HSM.out W h1 h2; rw [← hcv] at t; exact t)
    have HCV := hide hcv
    clear hcv
    go_enter Tryd.func7, Tryd.ntmps7
    go_wp2_with (with_reducible refine wpList_load_row rfl 41 (.tmp 3) rfl w.heap.size rfl 41 C (0, 0) _ (two_boxes _ _ _) Tryd.underlying41 rfl HS.out ?_)
    refine (HF.out _ (HX.out.below (by (repeat (first | (with_reducible first | exact Below.refl _ _ | assumption | refine Below.drew ?_) | ((with_reducible first | refine Below.alloc ?_ ?_ _ | refine Below.setCell ?_ ?_ _); rotate_left; (first | omega | (simp <;> omega)))))))).mono ?_
    rintro e w1 ⟨rfl, hb⟩
    have B1 := hide (show Below w.heap.size w w1 from Below.trans (by (repeat (first | (with_reducible first | exact Below.refl _ _ | assumption | refine Below.drew ?_) | ((with_reducible first | refine Below.alloc ?_ ?_ _ | refine Below.setCell ?_ ?_ _); rotate_left; (first | omega | (simp <;> omega)))))) (hb.mono (by simp; omega)))
    have X1 := hide (blk_below hb (by simp; omega) (two_boxes _ _ _))
    have A1 := hide (blk_below hb (by simp) (blk_new (k := w.heap.size + 1) (by simp)))
    have z1 := heap_lt X1.out
    have v1 := heap_lt A1.out
    have y1 := B1.out.size
    clear hb
    go_wp2_with ((with_reducible refine wpList_load_rowG ?_ 41 (.tmp 3) rfl w.heap.size rfl 41 C (0, 0) _ X1.out Tryd.underlying41 rfl HS.out ?_); (focus rfl))
    refine (HCK.out _ (HT.out.below B1.out) (HX.out.below B1.out)).mono ?_
    rintro e w2 ⟨rfl, hb⟩
    have B2 := hide (B1.out.trans (hb.mono y1))
    have X2 := hide (blk_below hb z1 X1.out)
    have A2 := hide (blk_below hb v1 A1.out)
    have z2 := heap_lt X2.out
    have v2 := heap_lt A2.out
    have y2 := B2.out.size
    clear hb X1 A1 z1 v1 B1 y1
    by_cases hc0 : cv = 0
    rotate_left
    · have n0 : (cv != 0) = true := by simp [bne, hc0]
      clear hc0
      go_wp2_with fail
      refine (lives_any _ (HT.out.below B2.out)).mono ?_
      rintro e w3 ⟨rfl, hb⟩
      have B3 := hide (B2.out.trans (hb.mono y2))
      clear hb
      go_wp2_with fail
      go_ret
      exact ⟨rfl, B3.out⟩
    have n0 : (cv != 0) = false := by rw [hc0]; rfl
    have HC0 := hide (show chkK ck = 0 from HCV.out.symm.trans hc0)
    clear hc0 HCK
    obtain ⟨ev, hev⟩ : ∃ v, v = alwK ck x := ⟨_, rfl⟩
    have HOP := hide (fun (W : World) (h1 : Tab W) (h2 : ElT (Old W) W 15 ck C) => by have t := openT HW.out HSM.out x HXI.out.ow W h1 h2; rw [← hev] at t; exact t)
    have HEV := hide hev
    clear hev
    have p0 := cell_of_cells A2.out 0
    have p1 := cell_of_cells A2.out 1
    have p2 := cell_of_cells A2.out 2
    have p3 := cell_of_cells A2.out 3
    have p4 := cell_of_cells A2.out 4
    have p5 := cell_of_cells A2.out 5
    have p6 := cell_of_cells A2.out 6
    go_wp2_with (with_reducible refine wpList_load_row rfl 41 (.tmp 3) rfl w.heap.size rfl 41 C (0, 0) _ X2.out Tryd.underlying41 rfl HS.out ?_)
    refine (HOP.out _ (HT.out.below B2.out) (HX.out.below B2.out)).mono ?_
    rintro e w3 ⟨D, rfl, hD, hb⟩
    have HD := hide hD
    have HDI := hide (zb_size (C := D) hD.size)
    have HDZ := hide (show Z.size = D.size from HZS.out.trans hD.size.symm)
    have B3 := hide (B2.out.trans (hb.mono y2))
    have X3 := hide (blk_below hb z2 X2.out)
    have A3 := hide (blk_below hb v2 A2.out)
    have z3 := heap_lt X3.out
    have v3 := heap_lt A3.out
    have y3 := B3.out.size
    clear hb X2 A2 z2 v2 B2 y2 hD p0 p1 p2 p3 p4 p5 p6 HOP
    by_cases he0 : ev = 0
    rotate_left
    · have n1 : (ev != 0) = true := by simp [bne, he0]
      have HDE := hide (show ElT (Old w3) w3 15 zbT D from by have t := HD.out; rw [if_neg he0] at t; exact t.mono (fun b h => h.2) (fun _ _ => rfl))
      clear he0
      go_wp2_with (first
        | (with_reducible refine wpList_alloc_row rfl 41 rfl (some 7) rfl i0 HI.out.1 Z HI.out.2 w3.heap.size rfl ?_)
        | ((with_reducible refine wpList_store_newrow2 rfl 41 (.tmp 7) (.tmp 25) rfl rfl w3.heap.size D rfl rfl 41 Z (blk_new rfl) HDI.out HDZ.out HD.out.ones ?_); intro w4 hb4 hs4 hx4 hk4; have F4 := hide hx4; have K4 := hide (show Below w3.heap.size w3 w4 from Below.trans (by (repeat (first | (with_reducible first | exact Below.refl _ _ | assumption | refine Below.drew ?_) | ((with_reducible first | refine Below.alloc ?_ ?_ _ | refine Below.setCell ?_ ?_ _); rotate_left; (first | omega | (simp <;> omega)))))) hb4); clear hb4 hs4 hx4 hk4)
        | (with_reducible refine wpList_load_row rfl 41 (.tmp 7) rfl w3.heap.size rfl 41 D (0, 0) _ F4.out Tryd.underlying41 rfl HDI.out ?_)
        | ((with_reducible refine Go.wpList_buildTo rfl 41 #[] rfl (some 30) rfl ZB ?_ ?_); (focus (refine Eq.trans (congrArg _ ?_) HZB.out; simp [Act.eval]))))
      refine (sm_books zbT zb_wt _ D ZB (HDE.out.below K4.out) (HZE.out _)).mono ?_
      rintro e w5 ⟨rfl, hb⟩
      have B5 := hide (B3.out.trans ((K4.out.trans (hb.mono K4.out.size)).mono y3))
      clear hb
      go_wp2_with fail
      refine (lives_any _ (HT.out.below B5.out)).mono ?_
      rintro e w6 ⟨rfl, hb⟩
      have B6 := hide (B5.out.trans (hb.mono B5.out.size))
      clear hb
      go_wp2_with fail
      go_ret
      exact ⟨rfl, B6.out⟩
    have n1 : (ev != 0) = false := by rw [he0]; rfl
    have HA0 := hide (show alwK ck x = 0 from HEV.out.symm.trans he0)
    have HD3 := hide (show ElT (Old w3) w3 15 (opT ck x) D from by have t := HD.out; rw [if_pos he0] at t; exact t.mono (fun b h => h.2) (fun _ _ => rfl))
    clear he0
    obtain ⟨A18, n, cap18, C18, c18, h18, hq18, hk18, hr18⟩ : ∃ A n cap D2 c, C[18]? = some (.slice A n cap) ∧ ck 18 = .row n 7 c ∧ RowK 9 n c ∧ RowT (Old w) w 9 A n c D2 := by
      obtain ⟨n, c, q, hk, A, cap, D2, e, _, hr⟩ := rd_row (e := 9) (HX.out.rd 18 (by decide)) (HW.out 18 (by decide))
      exact ⟨A, n, cap, D2, c, at_eq HX.out.size (by decide) e, q, hk, hr⟩
    have h18H := hide h18
    have Hq18 := hide hq18
    have Hk18 := hide hk18
    have Hr18 := hide hr18
    have hn : n ≤ 1000000 := by have t := HSM.out.an; rw [hq18] at t; exact t
    have HAN := hide hn
    have HEW := hide (op_wt HW.out HSM.out.an HXI.out)
    have HES := hide (op_sml (x := x) HSM.out (by have t := (alw_inv HA0.out).2.2.2; omega))
    have HEQ := hide (show opT ck x 18 = .row (n + 1) 7 (fun k => if k < n then c18 k else accT x) from by rw [op_18, hq18]; rfl)
    clear hq18 hk18 hr18
    go_wp2_with (first
      | (with_reducible refine wpList_alloc_row rfl 41 rfl (some 7) rfl i0 HI.out.1 Z HI.out.2 w3.heap.size rfl ?_)
      | ((with_reducible refine wpList_store_newrow2 rfl 41 (.tmp 7) (.tmp 25) rfl rfl w3.heap.size D rfl rfl 41 Z (blk_new rfl) HDI.out HDZ.out HD.out.ones ?_); intro w4 hb4 hs4 hx4 hk4; have F4 := hide hx4; have K4 := hide (show Below w3.heap.size w3 w4 from Below.trans (by (repeat (first | (with_reducible first | exact Below.refl _ _ | assumption | refine Below.drew ?_) | ((with_reducible first | refine Below.alloc ?_ ?_ _ | refine Below.setCell ?_ ?_ _); rotate_left; (first | omega | (simp <;> omega)))))) hb4); have X4 := hide (blk_below K4.out z3 X3.out); have A4 := hide (blk_below K4.out v3 A3.out); have g18 := (cell_of_cells X4.out 18).trans h18; clear hb4 hs4 hx4 hk4))
    refine gen_w (KpIn ck (opT ck x) C D x w.heap.size (w.heap.size + 1) w3.heap.size w) ⟨B3.out.trans (K4.out.mono y3), X4.out, A4.out, F4.out, HX.out.below (B3.out.trans (K4.out.mono y3)), HD3.out.below K4.out⟩ ?_
    clear g18 K4 X4 A4 F4 B3 X3 A3 z3 v3 y3 HD HDZ
    generalize w3.heap.size = a7 at *
    rintro W ⟨hB, h3, h4, h7, hC, hD⟩
    have HB := hide hB
    have H3 := hide h3
    have H4 := hide h4
    have H7 := hide h7
    have HC := hide hC
    have HDK := hide hD
    have l3 := heap_lt h3
    have l4 := heap_lt h4
    have l7 := heap_lt h7
    have hWz := HB.out.size
    have HTW := hide (HT.out.below HB.out)
    obtain ⟨b', off', cap', C', hd18, hcap', hrA⟩ : ∃ b' off' cap' D2, D[18]? = some (.slice (some ⟨b', off', none⟩) (n + 1) cap') ∧ n + 1 ≤ cap' ∧ RowT (Old W) W 9 (some ⟨b', off', none⟩) (n + 1) (fun k => if k < n then c18 k else accT x) D2 := by
      have t := hD.rd 18 (by decide)
      rw [HEQ.out] at t
      obtain ⟨A, cap, D2, e, hcap, hr, hrd⟩ := t
      obtain ⟨b, off, eA, _⟩ := hr (by omega)
      subst eA
      exact ⟨b, off, cap, D2, at_eq hD.size (by decide) e, hcap, ⟨hr, hrd⟩⟩
    have HRA := hide (row_less hrA (show n ≤ n + 1 by omega) (d := c18) (fun k hk => (if_pos hk).symm))
    have HRB := hide (Hr18.out.below HB.out)
    have g3 := (cell_of_cells h3 18).trans h18
    have g7 := (cell_of_cells h7 18).trans hd18
    have n0 : (0 : Int) ≤ n := by omega
    have nc : (n : Int) ≤ cap' := by omega
    have nw : IntKind.i64.wrap ((n : Int) + 1) = (n : Int) + 1 := by rw [i64w]; unfold wrap64; omega
    clear h3 h4 h7 hC hD hB hrA hd18 hn
    go_wp2_with fail
    refine ord_start (SB (W.heap.size) [] _) 21 (preB 0 21) (by kernel_rfl) (by kernel_rfl) (by kernel_rfl) SB.refl.drew (fun hHeld => ?_)
    refine ord_take (i := 0) (preB 1 20) ?_ rfl (by kernel_rfl) (by kernel_rfl) (by kernel_rfl) (by kernel_rfl) (fun _ _ _ h => h) hHeld (by rfl) (fun wx hSx => ?_) ?_
    rotate_left
    · (unfold SB at hSx; go_simp; (try with_reducible rfl))
    (try simp only [Act.put, putA, putB, putC])
    refine ord_take (i := 1) (preB 2 19) ?_ rfl (by kernel_rfl) (by kernel_rfl) (by kernel_rfl) (by kernel_rfl) (fun _ _ _ h => h) hHeld (by rfl) (fun wx hSx => ?_) ?_
    rotate_left
    · (unfold SB at hSx; go_simp; (try with_reducible rfl))
    (try simp only [Act.put, putA, putB, putC])
    refine ord_take (i := 2) (preB 3 18) ?_ rfl (by kernel_rfl) (by kernel_rfl) (by kernel_rfl) (by kernel_rfl) (fun _ _ _ h => h) hHeld (by rfl) (fun wx hSx => ?_) ?_
    rotate_left
    · (unfold SB at hSx; go_simp; (try with_reducible rfl))
    (try simp only [Act.put, putA, putB, putC])
    refine ord_take (i := 3) (preB 4 17) ?_ rfl (by kernel_rfl) (by kernel_rfl) (by kernel_rfl) (by kernel_rfl) (fun _ _ _ h => h) hHeld (by rfl) (fun wx hSx => ?_) ?_
    rotate_left
    · (unfold SB at hSx; go_simp; (try with_reducible rfl))
    (try simp only [Act.put, putA, putB, putC])
    refine ord_take (i := 4) (preB 5 16) ?_ rfl (by kernel_rfl) (by kernel_rfl) (by kernel_rfl) (by kernel_rfl) (fun _ _ _ h => h) hHeld (by rfl) (fun wx hSx => ?_) ?_
    rotate_left
    · (unfold SB at hSx; go_simp; (try with_reducible rfl))
    (try simp only [Act.put, putA, putB, putC])
    refine ord_take (i := 5) (preB 6 15) ?_ rfl (by kernel_rfl) (by kernel_rfl) (by kernel_rfl) (by kernel_rfl) (fun _ _ _ h => h) hHeld (by rfl) (fun wx hSx => ?_) ?_
    rotate_left
    · (unfold SB at hSx; go_simp; (try with_reducible rfl))
    (try simp only [Act.put, putA, putB, putC])
    refine ord_take (i := 6) (preB 7 14) ?_ rfl (by kernel_rfl) (by kernel_rfl) (by kernel_rfl) (by kernel_rfl) (fun _ _ _ h => h) hHeld (by rfl) (fun wx hSx => ?_) ?_
    rotate_left
    · (unfold SB at hSx; go_simp; (try with_reducible rfl))
    (try simp only [Act.put, putA, putB, putC])
    refine ord_take (i := 7) (preB 8 13) ?_ rfl (by kernel_rfl) (by kernel_rfl) (by kernel_rfl) (by kernel_rfl) (fun _ _ _ h => h) hHeld (by rfl) (fun wx hSx => ?_) ?_
    rotate_left
    · (unfold SB at hSx; go_simp; (try with_reducible rfl))
    (try simp only [Act.put, putA, putB, putC])
    refine ord_take (i := 8) (preB 9 12) ?_ rfl (by kernel_rfl) (by kernel_rfl) (by kernel_rfl) (by kernel_rfl) (fun _ _ _ h => h) hHeld (by rfl) (fun wx hSx => ?_) ?_
    rotate_left
    · (unfold SB at hSx; go_simp; (try with_reducible rfl))
    (try simp only [Act.put, putA, putB, putC])
    refine ord_take (i := 9) (preB 10 11) ?_ rfl (by kernel_rfl) (by kernel_rfl) (by kernel_rfl) (by kernel_rfl) (fun _ _ _ h => h) hHeld (by rfl) (fun wx hSx => ?_) ?_
    rotate_left
    · (unfold SB at hSx; go_simp; (try with_reducible rfl))
    (try simp only [Act.put, putA, putB, putC])
    refine ord_take (i := 10) (preB 11 10) ?_ rfl (by kernel_rfl) (by kernel_rfl) (by kernel_rfl) (by kernel_rfl) (fun _ _ _ h => h) hHeld (by rfl) (fun wx hSx => ?_) ?_
    rotate_left
    · (unfold SB at hSx; go_simp; (try with_reducible rfl))
    (try simp only [Act.put, putA, putB, putC])
    refine ord_take (i := 11) (preB 12 9) ?_ rfl (by kernel_rfl) (by kernel_rfl) (by kernel_rfl) (by kernel_rfl) (fun _ _ _ h => h) hHeld (by rfl) (fun wx hSx => ?_) ?_
    rotate_left
    · (unfold SB at hSx; go_simp; (try with_reducible rfl))
    (try simp only [Act.put, putA, putB, putC])
    refine ord_take (i := 12) (preB 13 8) ?_ rfl (by kernel_rfl) (by kernel_rfl) (by kernel_rfl) (by kernel_rfl) (fun _ _ _ h => h) hHeld (by rfl) (fun wx hSx => ?_) ?_
    rotate_left
    · (unfold SB at hSx; go_simp; (try with_reducible rfl))
    (try simp only [Act.put, putA, putB, putC])
    refine wpAnyH_ready (rs := [13]) (by kernel_rfl) (by simp) ?_
    refine ord_run (i := 13) (preB 14 7) rfl (by kernel_rfl) (by rfl) (fun K hK => ?_) AllReadyH.nil
    go_simp
    go_wp2_with (go_at_call 25; refine (sm_SameAccounts (some ⟨b', off', none⟩) A18 n cap' cap18 c18 C' C18 Hk18.out _ (HRA.out.below (by (repeat (first | (with_reducible first | exact Below.refl _ _ | assumption | refine Below.drew ?_) | ((with_reducible first | refine Below.alloc ?_ ?_ _ | refine Below.setCell ?_ ?_ _); rotate_left; (first | omega | (simp <;> omega))))))) (HRB.out.below (by (repeat (first | (with_reducible first | exact Below.refl _ _ | assumption | refine Below.drew ?_) | ((with_reducible first | refine Below.alloc ?_ ?_ _ | refine Below.setCell ?_ ?_ _); rotate_left; (first | omega | (simp <;> omega)))))))).mono ?_; rintro r w2 ⟨rfl, hb⟩; have hbS := hb; have hbS1 := hb; have J2 := hide (show Below W.heap.size W w2 from Below.trans (by (repeat (first | (with_reducible first | exact Below.refl _ _ | assumption | refine Below.drew ?_) | ((with_reducible first | refine Below.alloc ?_ ?_ _ | refine Below.setCell ?_ ?_ _); rotate_left; (first | omega | (simp <;> omega)))))) hb); have z2 := J2.out.size; clear hb)
    refine hK.out _ _ ?_ (fun hHeld => ?_)
    · (repeat (first | (with_reducible first | exact SB.refl | exact hHeld | refine SB.drew ?_ | refine SB.drewN ?_ _) | ((with_reducible first | refine SB.alloc ?_ ?_ _ | refine SB.below ?_ hbS ?_ | refine SB.below ?_ hbS1 ?_ | refine SB.below ?_ hbS2 ?_ | refine SB.below ?_ hbS3 ?_ | refine SB.below ?_ hbS4 ?_); rotate_left; (first | omega | (simp <;> omega))) | ((with_reducible refine SB.setCell ?_ ?_ _); rotate_left; (focus (first | (simp; done) | (right; first | omega | (simp <;> omega))))) | (with_reducible refine SB.undrew ?_) | ((with_reducible refine SB.congr ?_ ?_); rotate_left; (focus (simp; done))) | ((with_reducible refine SB.realloc ?_ ?_ ?_); rotate_left; (focus (simp; done)); (focus (simp; done)))))
    clear hK K
    (try simp only [Act.put, putA, putB, putC])
    refine ord_take (i := 14) (preB 15 6) ?_ rfl (by kernel_rfl) (by kernel_rfl) (by kernel_rfl) (by kernel_rfl) (fun _ _ _ h => h) hHeld (by rfl) (fun wx hSx => ?_) ?_
    rotate_left
    · (unfold SB at hSx; go_simp; (try with_reducible rfl))
    (try simp only [Act.put, putA, putB, putC])
    refine ord_take (i := 15) (preB 16 5) ?_ rfl (by kernel_rfl) (by kernel_rfl) (by kernel_rfl) (by kernel_rfl) (fun _ _ _ h => h) hHeld (by rfl) (fun wx hSx => ?_) ?_
    rotate_left
    · (unfold SB at hSx; go_simp; (try with_reducible rfl))
    (try simp only [Act.put, putA, putB, putC])
    refine ord_take (i := 16) (preB 17 4) ?_ rfl (by kernel_rfl) (by kernel_rfl) (by kernel_rfl) (by kernel_rfl) (fun _ _ _ h => h) hHeld (by rfl) (fun wx hSx => ?_) ?_
    rotate_left
    · (unfold SB at hSx; go_simp; (try with_reducible rfl))
    (try simp only [Act.put, putA, putB, putC])
    refine ord_take (i := 17) (preB 18 3) (.agg D) rfl (by kernel_rfl) (by kernel_rfl) (by kernel_rfl) (by kernel_rfl) (fun _ _ _ h => h) hHeld (by rfl) (fun wx hSx => tk_row _ _ rfl a7 0 rfl D _ (rg_row hSx l7 H7.out) Tryd.underlying41 rfl HDI.out) ?_
    (try simp only [Act.put, putA, putB, putC])
    refine wpAnyH_ready (rs := [18]) (by kernel_rfl) (by simp) ?_
    refine ord_run (i := 18) (preB 19 2) rfl (by kernel_rfl) (by rfl) (fun K hK => ?_) AllReadyH.nil
    go_simp
    go_wp2_with (go_at_call 21; refine (checkT HEW.out HES.out _ (HTW.out.below (J2.out.trans (by (repeat (first | (with_reducible first | exact Below.refl _ _ | assumption | refine Below.drew ?_) | ((with_reducible first | refine Below.alloc ?_ ?_ _ | refine Below.setCell ?_ ?_ _); rotate_left; (first | omega | (simp <;> omega)))))))) (HDK.out.below (J2.out.trans (by (repeat (first | (with_reducible first | exact Below.refl _ _ | assumption | refine Below.drew ?_) | ((with_reducible first | refine Below.alloc ?_ ?_ _ | refine Below.setCell ?_ ?_ _); rotate_left; (first | omega | (simp <;> omega))))))))).mono ?_; rintro r w3 ⟨rfl, hb⟩; rw [keep_open HC0.out HA0.out]; have hbS2 := hb; have J3 := hide (J2.out.trans ((show Below w2.heap.size w2 w3 from Below.trans (by (repeat (first | (with_reducible first | exact Below.refl _ _ | assumption | refine Below.drew ?_) | ((with_reducible first | refine Below.alloc ?_ ?_ _ | refine Below.setCell ?_ ?_ _); rotate_left; (first | omega | (simp <;> omega)))))) hb).mono z2)); have z3 := J3.out.size; have x3 := hb.size; (try simp at x3); have q0 := cell_of_cells (blk_below J3.out l4 H4.out) 0; clear hb g3 g7)
    refine hK.out _ _ ?_ (fun hHeld => ?_)
    · (repeat (first | (with_reducible first | exact SB.refl | exact hHeld | refine SB.drew ?_ | refine SB.drewN ?_ _) | ((with_reducible first | refine SB.alloc ?_ ?_ _ | refine SB.below ?_ hbS ?_ | refine SB.below ?_ hbS1 ?_ | refine SB.below ?_ hbS2 ?_ | refine SB.below ?_ hbS3 ?_ | refine SB.below ?_ hbS4 ?_); rotate_left; (first | omega | (simp <;> omega))) | ((with_reducible refine SB.setCell ?_ ?_ _); rotate_left; (focus (first | (simp; done) | (right; first | omega | (simp <;> omega))))) | (with_reducible refine SB.undrew ?_) | ((with_reducible refine SB.congr ?_ ?_); rotate_left; (focus (simp; done))) | ((with_reducible refine SB.realloc ?_ ?_ ?_); rotate_left; (focus (simp; done)); (focus (simp; done)))))
    clear hK K
    (try simp only [Act.put, putA, putB, putC])
    refine ord_take (i := 19) (preB 20 1) ?_ rfl (by kernel_rfl) (by kernel_rfl) (by kernel_rfl) (by kernel_rfl) (fun _ _ _ h => h) hHeld (by rfl) (fun wx hSx => ?_) ?_
    rotate_left
    · (unfold SB at hSx; go_simp; (try with_reducible rfl))
    (try simp only [Act.put, putA, putB, putC])
    refine ord_take (i := 20) (preB 21 0) ?_ rfl (by kernel_rfl) (by kernel_rfl) (by kernel_rfl) (by kernel_rfl) (fun _ _ _ h => h) hHeld (by rfl) (fun wx hSx => ?_) ?_
    rotate_left
    · (unfold SB at hSx; go_simp; (try with_reducible rfl))
    (try simp only [Act.put, putA, putB, putC])
    refine wpAnyH_done (by kernel_rfl) ?_ _
    go_wp2_with (with_reducible refine wpList_load_row rfl 41 (.tmp 7) rfl a7 rfl 41 D (0, 0) _ (blk_below J3.out l7 H7.out) Tryd.underlying41 rfl HDI.out ?_)
    obtain ⟨fv, hfv⟩ : ∃ v, v = clsK (opT ck x) x.id day := ⟨_, rfl⟩
    have HCL := hide (fun (W2 : World) (h2 : ElT (Old W2) W2 15 (opT ck x) D) => by have t := closeT HEW.out HES.out x.id day W2 h2; rw [← hfv, idx_op HA0.out] at t; exact t)
    have HFV := hide hfv
    clear hfv
    refine (HCL.out _ (HDK.out.below J3.out)).mono ?_
    rintro e w4 ⟨D5, rfl, hD5, hb⟩
    have HD5 := hide hD5
    have HDI5 := hide (zb_size (C := D5) hD5.size)
    have HDZ5 := hide (show Z.size = D5.size from HZS.out.trans hD5.size.symm)
    have J4 := hide (J3.out.trans (hb.mono z3))
    have z4 := J4.out.size
    clear hb hD5 q0 HCL
    by_cases hf0 : fv = 0
    rotate_left
    · have n2 : (fv != 0) = true := by simp [bne, hf0]
      have HDE := hide (show ElT (Old w4) w4 15 zbT D5 from by have t := HD5.out; rw [if_neg hf0] at t; exact t.mono (fun b h => h.2) (fun _ _ => rfl))
      clear hf0
      go_wp2_with (first
        | (with_reducible refine wpList_alloc_row rfl 41 rfl (some 10) rfl i0 HI.out.1 Z HI.out.2 w4.heap.size rfl ?_)
        | ((with_reducible refine wpList_store_newrow2 rfl 41 (.tmp 10) (.tmp 65) rfl rfl w4.heap.size D5 rfl rfl 41 Z (blk_new rfl) HDI5.out HDZ5.out HD5.out.ones ?_); intro w5 hb5 hs5 hx5 hk5; have F5 := hide hx5; have K5 := hide (show Below w4.heap.size w4 w5 from Below.trans (by (repeat (first | (with_reducible first | exact Below.refl _ _ | assumption | refine Below.drew ?_) | ((with_reducible first | refine Below.alloc ?_ ?_ _ | refine Below.setCell ?_ ?_ _); rotate_left; (first | omega | (simp <;> omega)))))) hb5); clear hb5 hs5 hx5 hk5)
        | (with_reducible refine wpList_load_row rfl 41 (.tmp 10) rfl w4.heap.size rfl 41 D5 (0, 0) _ F5.out Tryd.underlying41 rfl HDI5.out ?_)
        | ((with_reducible refine Go.wpList_buildTo rfl 41 #[] rfl (some 70) rfl ZB ?_ ?_); (focus (refine Eq.trans (congrArg _ ?_) HZB.out; simp [Act.eval]))))
      refine (sm_books zbT zb_wt _ D5 ZB (HDE.out.below K5.out) (HZE.out _)).mono ?_
      rintro e w6 ⟨rfl, hb⟩
      have J6 := hide (J4.out.trans ((K5.out.trans (hb.mono K5.out.size)).mono z4))
      clear hb
      go_wp2_with fail
      refine (lives_any _ (HTW.out.below J6.out)).mono ?_
      rintro e w7 ⟨rfl, hb⟩
      have J7 := hide (J6.out.trans (hb.mono J6.out.size))
      clear hb
      go_wp2_with fail
      go_ret
      exact ⟨rfl, HB.out.trans (J7.out.mono hWz)⟩
    have n2 : (fv != 0) = false := by rw [hf0]; rfl
    have HF0 := hide (show clsK (opT ck x) x.id day = 0 from HFV.out.symm.trans hf0)
    have HDF := hide (show ElT (Old w4) w4 15 (clT (opT ck x) (ck 18).n day) D5 from by have t := HD5.out; rw [if_pos hf0] at t; exact t.mono (fun b h => h.2) (fun _ _ => rfl))
    clear hf0
    go_wp2_with (first
      | (with_reducible refine wpList_alloc_row rfl 41 rfl (some 10) rfl i0 HI.out.1 Z HI.out.2 w4.heap.size rfl ?_)
      | ((with_reducible refine wpList_store_newrow2 rfl 41 (.tmp 10) (.tmp 65) rfl rfl w4.heap.size D5 rfl rfl 41 Z (blk_new rfl) HDI5.out HDZ5.out HD5.out.ones ?_); intro w5 hb5 hs5 hx5 hk5; have F5 := hide hx5; have K5 := hide (J4.out.trans ((show Below w4.heap.size w4 w5 from Below.trans (by (repeat (first | (with_reducible first | exact Below.refl _ _ | assumption | refine Below.drew ?_) | ((with_reducible first | refine Below.alloc ?_ ?_ _ | refine Below.setCell ?_ ?_ _); rotate_left; (first | omega | (simp <;> omega)))))) hb5).mono z4)); have L5 := hide (show Below w4.heap.size w4 w5 from Below.trans (by (repeat (first | (with_reducible first | exact Below.refl _ _ | assumption | refine Below.drew ?_) | ((with_reducible first | refine Below.alloc ?_ ?_ _ | refine Below.setCell ?_ ?_ _); rotate_left; (first | omega | (simp <;> omega)))))) hb5); clear hb5 hs5 hx5 hk5))
    refine gen_w (KpIn ck (clT (opT ck x) (ck 18).n day) C D5 x w.heap.size (w.heap.size + 1) w4.heap.size W) ⟨K5.out, blk_below K5.out l3 H3.out, blk_below K5.out l4 H4.out, F5.out, HC.out.below K5.out, HDF.out.below L5.out⟩ ?_
    have HBW := hide (HB.out)
    clear K5 F5 L5 HDF HD5 HDZ5 J4 z4 J3 z3 J2 z2 x3 HB H3 H4 H7 HC HDK l3 l4 l7 HRA HRB
    generalize w4.heap.size = a10 at *
    rintro V ⟨hB, h3, h4, h7, hC, hD⟩
    have HB := hide hB
    have H3 := hide h3
    have H10 := hide h7
    have HDK := hide hD
    have l3 := heap_lt h3
    have l4 := heap_lt h4
    have l10 := heap_lt h7
    have hVz := HB.out.size
    have HTV := hide (HTW.out.below HB.out)
    have HCQ := hide (show clT (opT ck x) (ck 18).n day 18 = .row (n + 1) 7 (fun i m => if i = n ∧ m = 2 then .lf (.int .i64 day) else (if i < n then c18 i else accT x) m) from by rw [cl_18, HEQ.out, Hq18.out]; rfl)
    obtain ⟨b2, off2, cap2, C2, hd18, hcap2, hrA⟩ : ∃ b' off' cap' D2, D5[18]? = some (.slice (some ⟨b', off', none⟩) (n + 1) cap') ∧ n + 1 ≤ cap' ∧ RowT (Old V) V 9 (some ⟨b', off', none⟩) (n + 1) (fun i m => if i = n ∧ m = 2 then .lf (.int .i64 day) else (if i < n then c18 i else accT x) m) D2 := by
      have t := hD.rd 18 (by decide)
      rw [HCQ.out] at t
      obtain ⟨A, cap, D2, e, hcap, hr, hrd⟩ := t
      obtain ⟨b, off, eA, _⟩ := hr (by omega)
      subst eA
      exact ⟨b, off, cap, D2, at_eq hD.size (by decide) e, hcap, ⟨hr, hrd⟩⟩
    have HRA := hide (row_less hrA (show n ≤ n + 1 by omega) (d := c18) (fun k hk => by funext m; rw [if_neg (fun h => by omega), if_pos hk]))
    have HRB := hide (Hr18.out.below (HBW.out.trans (HB.out.mono hWz)))
    obtain ⟨bb, oo, ebb, hbl2, hcc⟩ := hrA.cells (show 0 < (tbl 9).length by decide) (show n < n + 1 by omega)
    injection ebb with ebb
    injection ebb with ebb1 ebb2
    subst ebb1 ebb2
    have c2 : V.cell? ⟨b2, off2 + n * 7 + 2, none⟩ = some (.int .i64 day) := by
      have t := hcc 2 _ (elA_at 9 C2 n 2 (by decide))
      have u := hrA.rd n 2 (by omega) (by decide)
      rw [if_pos ⟨rfl, rfl⟩] at u
      have u : C2 n 2 = .int .i64 day := u
      rw [u] at t
      exact t
    have g3 := (cell_of_cells h3 18).trans h18
    have g10 := (cell_of_cells h7 18).trans hd18
    have q0 := cell_of_cells h4 0
    have nc2 : (n : Int) ≤ cap2 := by omega
    have nlt : (n : Int) < (n : Int) + 1 := by omega
    clear h3 h4 h7 hC hD hB hrA hd18 hcc
    go_wp2_with fail
    refine ord_start (SB (V.heap.size) [] _) 42 (preB 0 42) (by kernel_rfl) (by kernel_rfl) (by kernel_rfl) SB.refl.drew (fun hHeld => ?_)
    refine ord_take (i := 0) (preB 1 41) ?_ rfl (by kernel_rfl) (by kernel_rfl) (by kernel_rfl) (by kernel_rfl) (fun _ _ _ h => h) hHeld (by rfl) (fun wx hSx => ?_) ?_
    rotate_left
    · (unfold SB at hSx; go_simp; (try with_reducible rfl))
    (try simp only [Act.put, putA, putB, putC])
    refine ord_take (i := 1) (preB 2 40) ?_ rfl (by kernel_rfl) (by kernel_rfl) (by kernel_rfl) (by kernel_rfl) (fun _ _ _ h => h) hHeld (by rfl) (fun wx hSx => ?_) ?_
    rotate_left
    · (unfold SB at hSx; go_simp; (try with_reducible rfl))
    (try simp only [Act.put, putA, putB, putC])
    refine ord_take (i := 2) (preB 3 39) ?_ rfl (by kernel_rfl) (by kernel_rfl) (by kernel_rfl) (by kernel_rfl) (fun _ _ _ h => h) hHeld (by rfl) (fun wx hSx => ?_) ?_
    rotate_left
    · (unfold SB at hSx; go_simp; (try with_reducible rfl))
    (try simp only [Act.put, putA, putB, putC])
    refine ord_take (i := 3) (preB 4 38) ?_ rfl (by kernel_rfl) (by kernel_rfl) (by kernel_rfl) (by kernel_rfl) (fun _ _ _ h => h) hHeld (by rfl) (fun wx hSx => ?_) ?_
    rotate_left
    · (unfold SB at hSx; go_simp; (try with_reducible rfl))
    (try simp only [Act.put, putA, putB, putC])
    refine ord_take (i := 4) (preB 5 37) ?_ rfl (by kernel_rfl) (by kernel_rfl) (by kernel_rfl) (by kernel_rfl) (fun _ _ _ h => h) hHeld (by rfl) (fun wx hSx => ?_) ?_
    rotate_left
    · (unfold SB at hSx; go_simp; (try with_reducible rfl))
    (try simp only [Act.put, putA, putB, putC])
    refine ord_take (i := 5) (preB 6 36) ?_ rfl (by kernel_rfl) (by kernel_rfl) (by kernel_rfl) (by kernel_rfl) (fun _ _ _ h => h) hHeld (by rfl) (fun wx hSx => ?_) ?_
    rotate_left
    · (unfold SB at hSx; go_simp; (try with_reducible rfl))
    (try simp only [Act.put, putA, putB, putC])
    refine ord_take (i := 6) (preB 7 35) ?_ rfl (by kernel_rfl) (by kernel_rfl) (by kernel_rfl) (by kernel_rfl) (fun _ _ _ h => h) hHeld (by rfl) (fun wx hSx => ?_) ?_
    rotate_left
    · (unfold SB at hSx; go_simp; (try with_reducible rfl))
    (try simp only [Act.put, putA, putB, putC])
    refine ord_take (i := 7) (preB 8 34) ?_ rfl (by kernel_rfl) (by kernel_rfl) (by kernel_rfl) (by kernel_rfl) (fun _ _ _ h => h) hHeld (by rfl) (fun wx hSx => ?_) ?_
    rotate_left
    · (unfold SB at hSx; go_simp; (try with_reducible rfl))
    (try simp only [Act.put, putA, putB, putC])
    refine ord_take (i := 8) (preB 9 33) ?_ rfl (by kernel_rfl) (by kernel_rfl) (by kernel_rfl) (by kernel_rfl) (fun _ _ _ h => h) hHeld (by rfl) (fun wx hSx => ?_) ?_
    rotate_left
    · (unfold SB at hSx; go_simp; (try with_reducible rfl))
    (try simp only [Act.put, putA, putB, putC])
    refine ord_take (i := 9) (preB 10 32) ?_ rfl (by kernel_rfl) (by kernel_rfl) (by kernel_rfl) (by kernel_rfl) (fun _ _ _ h => h) hHeld (by rfl) (fun wx hSx => ?_) ?_
    rotate_left
    · (unfold SB at hSx; go_simp; (try with_reducible rfl))
    (try simp only [Act.put, putA, putB, putC])
    refine ord_take (i := 10) (preB 11 31) ?_ rfl (by kernel_rfl) (by kernel_rfl) (by kernel_rfl) (by kernel_rfl) (fun _ _ _ h => h) hHeld (by rfl) (fun wx hSx => ?_) ?_
    rotate_left
    · (unfold SB at hSx; go_simp; (try with_reducible rfl))
    (try simp only [Act.put, putA, putB, putC])
    refine ord_take (i := 11) (preB 12 30) ?_ rfl (by kernel_rfl) (by kernel_rfl) (by kernel_rfl) (by kernel_rfl) (fun _ _ _ h => h) hHeld (by rfl) (fun wx hSx => ?_) ?_
    rotate_left
    · (unfold SB at hSx; go_simp; (try with_reducible rfl))
    (try simp only [Act.put, putA, putB, putC])
    refine ord_take (i := 12) (preB 13 29) ?_ rfl (by kernel_rfl) (by kernel_rfl) (by kernel_rfl) (by kernel_rfl) (fun _ _ _ h => h) hHeld (by rfl) (fun wx hSx => ?_) ?_
    rotate_left
    · (unfold SB at hSx; go_simp; (try with_reducible rfl))
    (try simp only [Act.put, putA, putB, putC])
    refine wpAnyH_ready (rs := [13]) (by kernel_rfl) (by simp) ?_
    refine ord_run (i := 13) (preB 14 28) rfl (by kernel_rfl) (by rfl) (fun K hK => ?_) AllReadyH.nil
    go_simp
    go_wp2_with (go_at_call 25; refine (sm_SameAccounts (some ⟨b2, off2, none⟩) A18 n cap2 cap18 c18 C2 C18 Hk18.out _ (HRA.out.below (by (repeat (first | (with_reducible first | exact Below.refl _ _ | assumption | refine Below.drew ?_) | ((with_reducible first | refine Below.alloc ?_ ?_ _ | refine Below.setCell ?_ ?_ _); rotate_left; (first | omega | (simp <;> omega))))))) (HRB.out.below (by (repeat (first | (with_reducible first | exact Below.refl _ _ | assumption | refine Below.drew ?_) | ((with_reducible first | refine Below.alloc ?_ ?_ _ | refine Below.setCell ?_ ?_ _); rotate_left; (first | omega | (simp <;> omega)))))))).mono ?_; rintro r w2 ⟨rfl, hb⟩; have hbS := hb; have hbS1 := hb; have J2 := hide (show Below V.heap.size V w2 from Below.trans (by (repeat (first | (with_reducible first | exact Below.refl _ _ | assumption | refine Below.drew ?_) | ((with_reducible first | refine Below.alloc ?_ ?_ _ | refine Below.setCell ?_ ?_ _); rotate_left; (first | omega | (simp <;> omega)))))) hb); have z2 := J2.out.size; clear hb)
    refine hK.out _ _ ?_ (fun hHeld => ?_)
    · (repeat (first | (with_reducible first | exact SB.refl | exact hHeld | refine SB.drew ?_ | refine SB.drewN ?_ _) | ((with_reducible first | refine SB.alloc ?_ ?_ _ | refine SB.below ?_ hbS ?_ | refine SB.below ?_ hbS1 ?_ | refine SB.below ?_ hbS2 ?_ | refine SB.below ?_ hbS3 ?_ | refine SB.below ?_ hbS4 ?_); rotate_left; (first | omega | (simp <;> omega))) | ((with_reducible refine SB.setCell ?_ ?_ _); rotate_left; (focus (first | (simp; done) | (right; first | omega | (simp <;> omega))))) | (with_reducible refine SB.undrew ?_) | ((with_reducible refine SB.congr ?_ ?_); rotate_left; (focus (simp; done))) | ((with_reducible refine SB.realloc ?_ ?_ ?_); rotate_left; (focus (simp; done)); (focus (simp; done)))))
    clear hK K
    (try simp only [Act.put, putA, putB, putC])
    refine ord_take (i := 14) (preB 15 27) ?_ rfl (by kernel_rfl) (by kernel_rfl) (by kernel_rfl) (by kernel_rfl) (fun _ _ _ h => h) hHeld (by rfl) (fun wx hSx => ?_) ?_
    rotate_left
    · (unfold SB at hSx; go_simp; (try with_reducible rfl))
    (try simp only [Act.put, putA, putB, putC])
    refine ord_take (i := 15) (preB 16 26) ?_ rfl (by kernel_rfl) (by kernel_rfl) (by kernel_rfl) (by kernel_rfl) (fun _ _ _ h => h) hHeld (by rfl) (fun wx hSx => ?_) ?_
    rotate_left
    · (unfold SB at hSx; go_simp; (try with_reducible rfl))
    (try simp only [Act.put, putA, putB, putC])
    refine ord_take (i := 16) (preB 17 25) ?_ rfl (by kernel_rfl) (by kernel_rfl) (by kernel_rfl) (by kernel_rfl) (fun _ _ _ h => h) hHeld (by rfl) (fun wx hSx => ?_) ?_
    rotate_left
    · (unfold SB at hSx; go_simp; (try with_reducible rfl))
    (try simp only [Act.put, putA, putB, putC])
    refine ord_take (i := 17) (preB 18 24) ?_ rfl (by kernel_rfl) (by kernel_rfl) (by kernel_rfl) (by kernel_rfl) (fun _ _ _ h => h) hHeld (by rfl) (fun wx hSx => ?_) ?_
    rotate_left
    · (unfold SB at hSx; go_simp; (try with_reducible rfl))
    (try simp only [Act.put, putA, putB, putC])
    refine ord_take (i := 18) (preB 19 23) ?_ rfl (by kernel_rfl) (by kernel_rfl) (by kernel_rfl) (by kernel_rfl) (fun _ _ _ h => h) hHeld (by rfl) (fun wx hSx => ?_) ?_
    rotate_left
    · (unfold SB at hSx; go_simp; (try with_reducible rfl))
    (try simp only [Act.put, putA, putB, putC])
    refine ord_take (i := 19) (preB 20 22) ?_ rfl (by kernel_rfl) (by kernel_rfl) (by kernel_rfl) (by kernel_rfl) (fun _ _ _ h => h) hHeld (by rfl) (fun wx hSx => ?_) ?_
    rotate_left
    · (unfold SB at hSx; go_simp; (try with_reducible rfl))
    (try simp only [Act.put, putA, putB, putC])
    refine ord_take (i := 20) (preB 21 21) ?_ rfl (by kernel_rfl) (by kernel_rfl) (by kernel_rfl) (by kernel_rfl) (fun _ _ _ h => h) hHeld (by rfl) (fun wx hSx => ?_) ?_
    rotate_left
    · (unfold SB at hSx; go_simp; (try with_reducible rfl))
    (try simp only [Act.put, putA, putB, putC])
    refine ord_take (i := 21) (preB 22 20) ?_ rfl (by kernel_rfl) (by kernel_rfl) (by kernel_rfl) (by kernel_rfl) (fun _ _ _ h => h) hHeld (by rfl) (fun wx hSx => ?_) ?_
    rotate_left
    · (unfold SB at hSx; go_simp; (try with_reducible rfl))
    (try simp only [Act.put, putA, putB, putC])
    refine ord_take (i := 22) (preB 23 19) ?_ rfl (by kernel_rfl) (by kernel_rfl) (by kernel_rfl) (by kernel_rfl) (fun _ _ _ h => h) hHeld (by rfl) (fun wx hSx => ?_) ?_
    rotate_left
    · (unfold SB at hSx; go_simp; (try with_reducible rfl))
    (try simp only [Act.put, putA, putB, putC])
    refine ord_take (i := 23) (preB 24 18) ?_ rfl (by kernel_rfl) (by kernel_rfl) (by kernel_rfl) (by kernel_rfl) (fun _ _ _ h => h) hHeld (by rfl) (fun wx hSx => ?_) ?_
    rotate_left
    · (unfold SB at hSx; go_simp; (try with_reducible rfl))
    (try simp only [Act.put, putA, putB, putC])
    refine ord_take (i := 24) (preB 25 17) ?_ rfl (by kernel_rfl) (by kernel_rfl) (by kernel_rfl) (by kernel_rfl) (fun _ _ _ h => h) hHeld (by rfl) (fun wx hSx => ?_) ?_
    rotate_left
    · (unfold SB at hSx; go_simp; (try with_reducible rfl))
    (try simp only [Act.put, putA, putB, putC])
    refine ord_take (i := 25) (preB 26 16) ?_ rfl (by kernel_rfl) (by kernel_rfl) (by kernel_rfl) (by kernel_rfl) (fun _ _ _ h => h) hHeld (by rfl) (fun wx hSx => ?_) ?_
    rotate_left
    · (unfold SB at hSx; go_simp; (try with_reducible rfl))
    (try simp only [Act.put, putA, putB, putC])
    refine ord_take (i := 26) (preB 27 15) (.agg D5) rfl (by kernel_rfl) (by kernel_rfl) (by kernel_rfl) (by kernel_rfl) (fun _ _ _ h => h) hHeld (by rfl) (fun wx hSx => tk_row _ _ rfl a10 0 rfl D5 _ (rg_row hSx l10 H10.out) Tryd.underlying41 rfl HDI5.out) ?_
    (try simp only [Act.put, putA, putB, putC])
    refine ord_take (i := 27) (preB 28 14) ?_ rfl (by kernel_rfl) (by kernel_rfl) (by kernel_rfl) (by kernel_rfl) (fun _ _ _ h => h) hHeld (by rfl) (fun wx hSx => ?_) ?_
    rotate_left
    · (unfold SB at hSx; go_simp; (try with_reducible rfl))
    (try simp only [Act.put, putA, putB, putC])
    refine ord_take (i := 28) (preB 29 13) ?_ rfl (by kernel_rfl) (by kernel_rfl) (by kernel_rfl) (by kernel_rfl) (fun _ _ _ h => h) hHeld (by rfl) (fun wx hSx => ?_) ?_
    rotate_left
    · (unfold SB at hSx; go_simp; (try with_reducible rfl))
    (try simp only [Act.put, putA, putB, putC])
    refine ord_take (i := 29) (preB 30 12) ?_ rfl (by kernel_rfl) (by kernel_rfl) (by kernel_rfl) (by kernel_rfl) (fun _ _ _ h => h) hHeld (by rfl) (fun wx hSx => ?_) ?_
    rotate_left
    · (unfold SB at hSx; go_simp; (try with_reducible rfl))
    (try simp only [Act.put, putA, putB, putC])
    refine wpAnyH_ready (rs := [30]) (by kernel_rfl) (by simp) ?_
    refine ord_run (i := 30) (preB 31 11) rfl (by kernel_rfl) (by rfl) (fun K hK => ?_) AllReadyH.nil
    go_simp
    go_wp2_with (go_at_call 19; refine (activeT (cl_wt HEW.out hday) (cl_sml HES.out) x.id day _ (HDK.out.below (J2.out.trans (by (repeat (first | (with_reducible first | exact Below.refl _ _ | assumption | refine Below.drew ?_) | ((with_reducible first | refine Below.alloc ?_ ?_ _ | refine Below.setCell ?_ ?_ _); rotate_left; (first | omega | (simp <;> omega))))))))).mono ?_; rintro r w3 ⟨rfl, hb⟩; rw [keep_act HA0.out HF0.out]; have hbS2 := hb; have J3 := hide (J2.out.trans ((show Below w2.heap.size w2 w3 from Below.trans (by (repeat (first | (with_reducible first | exact Below.refl _ _ | assumption | refine Below.drew ?_) | ((with_reducible first | refine Below.alloc ?_ ?_ _ | refine Below.setCell ?_ ?_ _); rotate_left; (first | omega | (simp <;> omega)))))) hb).mono z2)); have z3 := J3.out.size; have x3 := hb.size; (try simp at x3); clear hb)
    refine hK.out _ _ ?_ (fun hHeld => ?_)
    · (repeat (first | (with_reducible first | exact SB.refl | exact hHeld | refine SB.drew ?_ | refine SB.drewN ?_ _) | ((with_reducible first | refine SB.alloc ?_ ?_ _ | refine SB.below ?_ hbS ?_ | refine SB.below ?_ hbS1 ?_ | refine SB.below ?_ hbS2 ?_ | refine SB.below ?_ hbS3 ?_ | refine SB.below ?_ hbS4 ?_); rotate_left; (first | omega | (simp <;> omega))) | ((with_reducible refine SB.setCell ?_ ?_ _); rotate_left; (focus (first | (simp; done) | (right; first | omega | (simp <;> omega))))) | (with_reducible refine SB.undrew ?_) | ((with_reducible refine SB.congr ?_ ?_); rotate_left; (focus (simp; done))) | ((with_reducible refine SB.realloc ?_ ?_ ?_); rotate_left; (focus (simp; done)); (focus (simp; done)))))
    clear hK K
    (try simp only [Act.put, putA, putB, putC])
    refine ord_take (i := 31) (preB 32 10) ?_ rfl (by kernel_rfl) (by kernel_rfl) (by kernel_rfl) (by kernel_rfl) (fun _ _ _ h => h) hHeld (by rfl) (fun wx hSx => ?_) ?_
    rotate_left
    · (unfold SB at hSx; go_simp; (try with_reducible rfl))
    (try simp only [Act.put, putA, putB, putC])
    refine ord_take (i := 32) (preB 33 9) ?_ rfl (by kernel_rfl) (by kernel_rfl) (by kernel_rfl) (by kernel_rfl) (fun _ _ _ h => h) hHeld (by rfl) (fun wx hSx => ?_) ?_
    rotate_left
    · (unfold SB at hSx; go_simp; (try with_reducible rfl))
    (try simp only [Act.put, putA, putB, putC])
    refine ord_take (i := 33) (preB 34 8) ?_ rfl (by kernel_rfl) (by kernel_rfl) (by kernel_rfl) (by kernel_rfl) (fun _ _ _ h => h) hHeld (by rfl) (fun wx hSx => ?_) ?_
    rotate_left
    · (unfold SB at hSx; go_simp; (try with_reducible rfl))
    (try simp only [Act.put, putA, putB, putC])
    refine ord_take (i := 34) (preB 35 7) (.agg D5) rfl (by kernel_rfl) (by kernel_rfl) (by kernel_rfl) (by kernel_rfl) (fun _ _ _ h => h) hHeld (by rfl) (fun wx hSx => tk_row _ _ rfl a10 0 rfl D5 _ (rg_row hSx l10 H10.out) Tryd.underlying41 rfl HDI5.out) ?_
    (try simp only [Act.put, putA, putB, putC])
    refine wpAnyH_ready (rs := [35]) (by kernel_rfl) (by simp) ?_
    refine ord_run (i := 35) (preB 36 6) rfl (by kernel_rfl) (by rfl) (fun K hK => ?_) AllReadyH.nil
    go_simp
    go_wp2_with (go_at_call 21; refine (checkT (cl_wt HEW.out hday) (cl_sml HES.out) _ (HTV.out.below (J3.out.trans (by (repeat (first | (with_reducible first | exact Below.refl _ _ | assumption | refine Below.drew ?_) | ((with_reducible first | refine Below.alloc ?_ ?_ _ | refine Below.setCell ?_ ?_ _); rotate_left; (first | omega | (simp <;> omega)))))))) (HDK.out.below (J3.out.trans (by (repeat (first | (with_reducible first | exact Below.refl _ _ | assumption | refine Below.drew ?_) | ((with_reducible first | refine Below.alloc ?_ ?_ _ | refine Below.setCell ?_ ?_ _); rotate_left; (first | omega | (simp <;> omega))))))))).mono ?_; rintro r w4 ⟨rfl, hb⟩; rw [keep_close HC0.out HA0.out HF0.out]; have hbS3 := hb; have J4 := hide (J3.out.trans ((show Below w3.heap.size w3 w4 from Below.trans (by (repeat (first | (with_reducible first | exact Below.refl _ _ | assumption | refine Below.drew ?_) | ((with_reducible first | refine Below.alloc ?_ ?_ _ | refine Below.setCell ?_ ?_ _); rotate_left; (first | omega | (simp <;> omega)))))) hb).mono z3)); have z4 := J4.out.size; have x4 := hb.size; (try simp at x4); clear hb)
    refine hK.out _ _ ?_ (fun hHeld => ?_)
    · (repeat (first | (with_reducible first | exact SB.refl | exact hHeld | refine SB.drew ?_ | refine SB.drewN ?_ _) | ((with_reducible first | refine SB.alloc ?_ ?_ _ | refine SB.below ?_ hbS ?_ | refine SB.below ?_ hbS1 ?_ | refine SB.below ?_ hbS2 ?_ | refine SB.below ?_ hbS3 ?_ | refine SB.below ?_ hbS4 ?_); rotate_left; (first | omega | (simp <;> omega))) | ((with_reducible refine SB.setCell ?_ ?_ _); rotate_left; (focus (first | (simp; done) | (right; first | omega | (simp <;> omega))))) | (with_reducible refine SB.undrew ?_) | ((with_reducible refine SB.congr ?_ ?_); rotate_left; (focus (simp; done))) | ((with_reducible refine SB.realloc ?_ ?_ ?_); rotate_left; (focus (simp; done)); (focus (simp; done)))))
    clear hK K
    (try simp only [Act.put, putA, putB, putC])
    refine ord_take (i := 36) (preB 37 5) ?_ rfl (by kernel_rfl) (by kernel_rfl) (by kernel_rfl) (by kernel_rfl) (fun _ _ _ h => h) hHeld (by rfl) (fun wx hSx => ?_) ?_
    rotate_left
    · (unfold SB at hSx; go_simp; (try with_reducible rfl))
    (try simp only [Act.put, putA, putB, putC])
    refine ord_take (i := 37) (preB 38 4) ?_ rfl (by kernel_rfl) (by kernel_rfl) (by kernel_rfl) (by kernel_rfl) (fun _ _ _ h => h) hHeld (by rfl) (fun wx hSx => ?_) ?_
    rotate_left
    · (unfold SB at hSx; go_simp; (try with_reducible rfl))
    (try simp only [Act.put, putA, putB, putC])
    refine ord_take (i := 38) (preB 39 3) ?_ rfl (by kernel_rfl) (by kernel_rfl) (by kernel_rfl) (by kernel_rfl) (fun _ _ _ h => h) hHeld (by rfl) (fun wx hSx => ?_) ?_
    rotate_left
    · (unfold SB at hSx; go_simp; (try with_reducible rfl))
    (try simp only [Act.put, putA, putB, putC])
    refine wpAnyH_ready (rs := [39]) (by kernel_rfl) (by simp) ?_
    refine ord_run (i := 39) (preB 40 2) rfl (by kernel_rfl) (by rfl) (fun K hK => ?_) AllReadyH.nil
    go_simp
    go_wp2_with (go_at_call 11; refine (lives_any _ (HTV.out.below (J4.out.trans (by (repeat (first | (with_reducible first | exact Below.refl _ _ | assumption | refine Below.drew ?_) | ((with_reducible first | refine Below.alloc ?_ ?_ _ | refine Below.setCell ?_ ?_ _); rotate_left; (first | omega | (simp <;> omega))))))))).mono ?_; rintro r w5 ⟨rfl, hb⟩; have hbS4 := hb; have J5 := hide (J4.out.trans ((show Below w4.heap.size w4 w5 from Below.trans (by (repeat (first | (with_reducible first | exact Below.refl _ _ | assumption | refine Below.drew ?_) | ((with_reducible first | refine Below.alloc ?_ ?_ _ | refine Below.setCell ?_ ?_ _); rotate_left; (first | omega | (simp <;> omega)))))) hb).mono z4)); clear hb)
    refine hK.out _ _ ?_ (fun hHeld => ?_)
    · (repeat (first | (with_reducible first | exact SB.refl | exact hHeld | refine SB.drew ?_ | refine SB.drewN ?_ _) | ((with_reducible first | refine SB.alloc ?_ ?_ _ | refine SB.below ?_ hbS ?_ | refine SB.below ?_ hbS1 ?_ | refine SB.below ?_ hbS2 ?_ | refine SB.below ?_ hbS3 ?_ | refine SB.below ?_ hbS4 ?_); rotate_left; (first | omega | (simp <;> omega))) | ((with_reducible refine SB.setCell ?_ ?_ _); rotate_left; (focus (first | (simp; done) | (right; first | omega | (simp <;> omega))))) | (with_reducible refine SB.undrew ?_) | ((with_reducible refine SB.congr ?_ ?_); rotate_left; (focus (simp; done))) | ((with_reducible refine SB.realloc ?_ ?_ ?_); rotate_left; (focus (simp; done)); (focus (simp; done)))))
    clear hK K
    (try simp only [Act.put, putA, putB, putC])
    refine ord_take (i := 40) (preB 41 1) ?_ rfl (by kernel_rfl) (by kernel_rfl) (by kernel_rfl) (by kernel_rfl) (fun _ _ _ h => h) hHeld (by rfl) (fun wx hSx => ?_) ?_
    rotate_left
    · (unfold SB at hSx; go_simp; (try with_reducible rfl))
    (try simp only [Act.put, putA, putB, putC])
    refine ord_take (i := 41) (preB 42 0) ?_ rfl (by kernel_rfl) (by kernel_rfl) (by kernel_rfl) (by kernel_rfl) (fun _ _ _ h => h) hHeld (by rfl) (fun wx hSx => ?_) ?_
    rotate_left
    · (unfold SB at hSx; go_simp; (try with_reducible rfl))
    (try simp only [Act.put, putA, putB, putC])
    refine wpAnyH_done (by kernel_rfl) ?_ _
    go_wp2_with fail
    go_ret
    exact ⟨rfl, HBW.out.trans ((HB.out.trans (J5.out.mono hVz)).mono hWz)⟩
end Go.Proofs.YtdjhkhadjmndoaaDoor
