/- Texts laid together: SmF. -/
import Derived.Test.YtdjhkhadjmndoaaDoorQSmE
import Derived.Deep.MidRow
namespace Go.Proofs.YtdjhkhadjmndoaaDoor
set_option maxRecDepth 4000
set_option linter.unusedSimpArgs false
set_option linter.unusedVariables false
open Go.RowKit
theorem bkz : (Tryd.prog.info? 41).map (·.size) = some 22 := by kernel_rfl
theorem rz8 : (Tryd.prog.info? 53).map (·.size) = some 19 := by kernel_rfl
theorem rz11 : (Tryd.prog.info? 72).map (·.size) = some 10 := by kernel_rfl
theorem row_range {N : Nat} {W wx : World} {b o : Nat} {C : Array Value} (hS : SB N [] W wx) (hb : b < N) (hc : ∀ j v, C[j]? = some v → W.cell? ⟨b, o + j, none⟩ = some v) : wx.rangeAt b o C.toList := fun j v hv => by
  rw [hS b (o + j) hb (by simp)]
  exact hc j v (by simpa using hv)
theorem take_row {P : Program} {op : Oper} {a : Act} {w : World} (ty : TypeId) (x : Operand) (ho : op.op = .load ty x) (b o : Nat) (hx : a.eval x = .pointer (some ⟨b, o, none⟩)) (C : Array Value) (d : TypeDesc) (hc : w.rangeAt b o C.toList) (hu : P.underlying ty = some d) (hd : d.isRow = true) (hi : (P.info? ty).map (·.size) = some C.size) : (execOp a.eval op).run P w = .ok (.value (.agg C)) w := by
  have h := run_loadAt_mid w b o ty C.toList d hc hu hd (by simpa using hi)
  rw [Array.toArray_toList] at h
  unfold execOp
  simp only [ho, hx, Sem.run_bind, h, Sem.run_pure, Result.andThen_ok]
set_option maxRecDepth 20000 in
set_option maxHeartbeats 16000000 in
theorem sm_settings (ck : Nat → Tr) (hw : KnOK 15 ck) (w : World) (X Y : Array Value) (hX : ElT (Old w) w 15 ck X) (hY : ElT (Old w) w 15 ck Y) : Calls Tryd.prog 45 #[.agg X, .agg Y] w fun r w' => r = .returned (.bool true) ∧ Below w.heap.size w w' := by
  have HXS := hide (show X.size = 22 from hX.size)
  have HYS := hide (show Y.size = 22 from hY.size)
  obtain ⟨n0, c0, hc0, hk0, A0, cap0, C0, e0, _, hA0⟩ := rd_row (e := 1) (hX.rd 0 (by decide)) (hw 0 (by decide))
  have g0 := hY.rd 0 (by decide)
  rw [hc0] at g0
  obtain ⟨B0, cbp0, D0, f0, _, hB0, hD0⟩ := g0
  have gX0 : X[0]? = some (.slice A0 n0 cap0) := at_eq HXS.out (by decide) e0
  have gY0 : Y[0]? = some (.slice B0 n0 cbp0) := at_eq HYS.out (by decide) f0
  have HA0 := hide hA0
  have HB0 := hide (show RowT (Old w) w 1 B0 n0 c0 D0 from ⟨hB0, hD0⟩)
  have HK0 := hide hk0
  clear hA0 hB0 hD0 hk0 hc0 e0 f0
  obtain ⟨n1, c1, hc1, hk1, A1, cap1, C1, e1, _, hA1⟩ := rd_row (e := 2) (hX.rd 1 (by decide)) (hw 1 (by decide))
  have g1 := hY.rd 1 (by decide)
  rw [hc1] at g1
  obtain ⟨B1, cbp1, D1, f1, _, hB1, hD1⟩ := g1
  have gX1 : X[1]? = some (.slice A1 n1 cap1) := at_eq HXS.out (by decide) e1
  have gY1 : Y[1]? = some (.slice B1 n1 cbp1) := at_eq HYS.out (by decide) f1
  have HA1 := hide hA1
  have HB1 := hide (show RowT (Old w) w 2 B1 n1 c1 D1 from ⟨hB1, hD1⟩)
  have HK1 := hide hk1
  clear hA1 hB1 hD1 hk1 hc1 e1 f1
  obtain ⟨n2, c2, hc2, hk2, A2, cap2, C2, e2, _, hA2⟩ := rd_row (e := 3) (hX.rd 2 (by decide)) (hw 2 (by decide))
  have g2 := hY.rd 2 (by decide)
  rw [hc2] at g2
  obtain ⟨B2, cbp2, D2, f2, _, hB2, hD2⟩ := g2
  have gX2 : X[2]? = some (.slice A2 n2 cap2) := at_eq HXS.out (by decide) e2
  have gY2 : Y[2]? = some (.slice B2 n2 cbp2) := at_eq HYS.out (by decide) f2
  have HA2 := hide hA2
  have HB2 := hide (show RowT (Old w) w 3 B2 n2 c2 D2 from ⟨hB2, hD2⟩)
  have HK2 := hide hk2
  clear hA2 hB2 hD2 hk2 hc2 e2 f2
  obtain ⟨z3, q3, e3, _⟩ := rd_int (hX.rd 3 (by decide)) (hw 3 (by decide))
  have gX3 : X[3]? = some (.int .i64 z3) := at_eq HXS.out (by decide) e3
  have gY3 : Y[3]? = some (.int .i64 z3) := at_eq HYS.out (by decide) (rd_lfv (hY.rd 3 (by decide)) q3)
  clear q3 e3
  obtain ⟨z4, q4, e4, _⟩ := rd_int (hX.rd 4 (by decide)) (hw 4 (by decide))
  have gX4 : X[4]? = some (.int .i64 z4) := at_eq HXS.out (by decide) e4
  have gY4 : Y[4]? = some (.int .i64 z4) := at_eq HYS.out (by decide) (rd_lfv (hY.rd 4 (by decide)) q4)
  clear q4 e4
  obtain ⟨z5, q5, e5, _⟩ := rd_int (hX.rd 5 (by decide)) (hw 5 (by decide))
  have gX5 : X[5]? = some (.int .i64 z5) := at_eq HXS.out (by decide) e5
  have gY5 : Y[5]? = some (.int .i64 z5) := at_eq HYS.out (by decide) (rd_lfv (hY.rd 5 (by decide)) q5)
  clear q5 e5
  obtain ⟨z6, q6, e6, _⟩ := rd_int (hX.rd 6 (by decide)) (hw 6 (by decide))
  have gX6 : X[6]? = some (.int .i64 z6) := at_eq HXS.out (by decide) e6
  have gY6 : Y[6]? = some (.int .i64 z6) := at_eq HYS.out (by decide) (rd_lfv (hY.rd 6 (by decide)) q6)
  clear q6 e6
  obtain ⟨z7, q7, e7, _⟩ := rd_int (hX.rd 7 (by decide)) (hw 7 (by decide))
  have gX7 : X[7]? = some (.int .i64 z7) := at_eq HXS.out (by decide) e7
  have gY7 : Y[7]? = some (.int .i64 z7) := at_eq HYS.out (by decide) (rd_lfv (hY.rd 7 (by decide)) q7)
  clear q7 e7
  obtain ⟨z8, q8, e8, _⟩ := rd_int (hX.rd 8 (by decide)) (hw 8 (by decide))
  have gX8 : X[8]? = some (.int .i64 z8) := at_eq HXS.out (by decide) e8
  have gY8 : Y[8]? = some (.int .i64 z8) := at_eq HYS.out (by decide) (rd_lfv (hY.rd 8 (by decide)) q8)
  clear q8 e8
  obtain ⟨z9, q9, e9, _⟩ := rd_int (hX.rd 9 (by decide)) (hw 9 (by decide))
  have gX9 : X[9]? = some (.int .i64 z9) := at_eq HXS.out (by decide) e9
  have gY9 : Y[9]? = some (.int .i64 z9) := at_eq HYS.out (by decide) (rd_lfv (hY.rd 9 (by decide)) q9)
  clear q9 e9
  obtain ⟨z10, q10, e10, _⟩ := rd_int (hX.rd 10 (by decide)) (hw 10 (by decide))
  have gX10 : X[10]? = some (.int .i64 z10) := at_eq HXS.out (by decide) e10
  have gY10 : Y[10]? = some (.int .i64 z10) := at_eq HYS.out (by decide) (rd_lfv (hY.rd 10 (by decide)) q10)
  clear q10 e10
  obtain ⟨z11, q11, e11, _⟩ := rd_int (hX.rd 11 (by decide)) (hw 11 (by decide))
  have gX11 : X[11]? = some (.int .i64 z11) := at_eq HXS.out (by decide) e11
  have gY11 : Y[11]? = some (.int .i64 z11) := at_eq HYS.out (by decide) (rd_lfv (hY.rd 11 (by decide)) q11)
  clear q11 e11
  obtain ⟨z12, q12, e12, _⟩ := rd_int (hX.rd 12 (by decide)) (hw 12 (by decide))
  have gX12 : X[12]? = some (.int .i64 z12) := at_eq HXS.out (by decide) e12
  have gY12 : Y[12]? = some (.int .i64 z12) := at_eq HYS.out (by decide) (rd_lfv (hY.rd 12 (by decide)) q12)
  clear q12 e12
  obtain ⟨z13, q13, e13, _⟩ := rd_int (hX.rd 13 (by decide)) (hw 13 (by decide))
  have gX13 : X[13]? = some (.int .i64 z13) := at_eq HXS.out (by decide) e13
  have gY13 : Y[13]? = some (.int .i64 z13) := at_eq HYS.out (by decide) (rd_lfv (hY.rd 13 (by decide)) q13)
  clear q13 e13
  obtain ⟨z14, q14, e14, _⟩ := rd_int (hX.rd 14 (by decide)) (hw 14 (by decide))
  have gX14 : X[14]? = some (.int .i64 z14) := at_eq HXS.out (by decide) e14
  have gY14 : Y[14]? = some (.int .i64 z14) := at_eq HYS.out (by decide) (rd_lfv (hY.rd 14 (by decide)) q14)
  clear q14 e14
  obtain ⟨z15, q15, e15, _⟩ := rd_int (hX.rd 15 (by decide)) (hw 15 (by decide))
  have gX15 : X[15]? = some (.int .i64 z15) := at_eq HXS.out (by decide) e15
  have gY15 : Y[15]? = some (.int .i64 z15) := at_eq HYS.out (by decide) (rd_lfv (hY.rd 15 (by decide)) q15)
  clear q15 e15
  obtain ⟨z16, q16, e16, _⟩ := rd_int (hX.rd 16 (by decide)) (hw 16 (by decide))
  have gX16 : X[16]? = some (.int .i64 z16) := at_eq HXS.out (by decide) e16
  have gY16 : Y[16]? = some (.int .i64 z16) := at_eq HYS.out (by decide) (rd_lfv (hY.rd 16 (by decide)) q16)
  clear q16 e16
  obtain ⟨n17, c17, hc17, hk17, A17, cap17, C17, e17, _, hA17⟩ := rd_row (e := 8) (hX.rd 17 (by decide)) (hw 17 (by decide))
  have g17 := hY.rd 17 (by decide)
  rw [hc17] at g17
  obtain ⟨B17, cbp17, D17, f17, _, hB17, hD17⟩ := g17
  have gX17 : X[17]? = some (.slice A17 n17 cap17) := at_eq HXS.out (by decide) e17
  have gY17 : Y[17]? = some (.slice B17 n17 cbp17) := at_eq HYS.out (by decide) f17
  have HA17 := hide hA17
  have HB17 := hide (show RowT (Old w) w 8 B17 n17 c17 D17 from ⟨hB17, hD17⟩)
  have HK17 := hide hk17
  clear hA17 hB17 hD17 hk17 hc17 e17 f17
  obtain ⟨n18, c18, hc18, hk18, A18, cap18, C18, e18, _, hA18⟩ := rd_row (e := 9) (hX.rd 18 (by decide)) (hw 18 (by decide))
  have g18 := hY.rd 18 (by decide)
  rw [hc18] at g18
  obtain ⟨B18, cbp18, D18, f18, _, hB18, hD18⟩ := g18
  have gX18 : X[18]? = some (.slice A18 n18 cap18) := at_eq HXS.out (by decide) e18
  have gY18 : Y[18]? = some (.slice B18 n18 cbp18) := at_eq HYS.out (by decide) f18
  have HA18 := hide hA18
  have HB18 := hide (show RowT (Old w) w 9 B18 n18 c18 D18 from ⟨hB18, hD18⟩)
  have HK18 := hide hk18
  clear hA18 hB18 hD18 hk18 hc18 e18 f18
  obtain ⟨n19, c19, hc19, hk19, A19, cap19, C19, e19, _, hA19⟩ := rd_row (e := 11) (hX.rd 19 (by decide)) (hw 19 (by decide))
  have g19 := hY.rd 19 (by decide)
  rw [hc19] at g19
  obtain ⟨B19, cbp19, D19, f19, _, hB19, hD19⟩ := g19
  have gX19 : X[19]? = some (.slice A19 n19 cap19) := at_eq HXS.out (by decide) e19
  have gY19 : Y[19]? = some (.slice B19 n19 cbp19) := at_eq HYS.out (by decide) f19
  have HA19 := hide hA19
  have HB19 := hide (show RowT (Old w) w 11 B19 n19 c19 D19 from ⟨hB19, hD19⟩)
  have HK19 := hide hk19
  clear hA19 hB19 hD19 hk19 hc19 e19 f19
  obtain ⟨n20, c20, hc20, hk20, A20, cap20, C20, e20, _, hA20⟩ := rd_row (e := 12) (hX.rd 20 (by decide)) (hw 20 (by decide))
  have g20 := hY.rd 20 (by decide)
  rw [hc20] at g20
  obtain ⟨B20, cbp20, D20, f20, _, hB20, hD20⟩ := g20
  have gX20 : X[20]? = some (.slice A20 n20 cap20) := at_eq HXS.out (by decide) e20
  have gY20 : Y[20]? = some (.slice B20 n20 cbp20) := at_eq HYS.out (by decide) f20
  have HA20 := hide hA20
  have HB20 := hide (show RowT (Old w) w 12 B20 n20 c20 D20 from ⟨hB20, hD20⟩)
  have HK20 := hide hk20
  clear hA20 hB20 hD20 hk20 hc20 e20 f20
  obtain ⟨n21, c21, hc21, hk21, A21, cap21, C21, e21, _, hA21⟩ := rd_row (e := 13) (hX.rd 21 (by decide)) (hw 21 (by decide))
  have g21 := hY.rd 21 (by decide)
  rw [hc21] at g21
  obtain ⟨B21, cbp21, D21, f21, _, hB21, hD21⟩ := g21
  have gX21 : X[21]? = some (.slice A21 n21 cap21) := at_eq HXS.out (by decide) e21
  have gY21 : Y[21]? = some (.slice B21 n21 cbp21) := at_eq HYS.out (by decide) f21
  have HA21 := hide hA21
  have HB21 := hide (show RowT (Old w) w 13 B21 n21 c21 D21 from ⟨hB21, hD21⟩)
  have HK21 := hide hk21
  clear hA21 hB21 hD21 hk21 hc21 e21 f21
  have hn0 : n0 ≤ 140737488351232 := by have := HK0.out.room; simp only [tby] at this; omega
  have hn1 : n1 ≤ 140737488351232 := by have := HK1.out.room; simp only [tby] at this; omega
  have hn2 : n2 ≤ 140737488351232 := by have := HK2.out.room; simp only [tby] at this; omega
  have hn17 : n17 ≤ 140737488351232 := by have := HK17.out.room; simp only [tby] at this; omega
  have HE := hide (fun (W : World) (h1 : RowT (Old W) W 2 A1 n1 c1 C1) (h2 : RowT (Old W) W 2 B1 n1 c1 D1) => sm_SameCalendars A1 B1 n1 cap1 cbp1 c1 C1 D1 HK1.out W h1 h2)
  clear hX hY hw gX18 gX19 gX20 gX21 gY18 gY19 gY20 gY21
  go_enter Tryd.func45, Tryd.ntmps45
  go_wp2_with fail
  refine (HE.out _ (HA1.out.below (by (repeat (first | (with_reducible first | exact Below.refl _ _ | assumption | refine Below.drew ?_) | ((with_reducible first | refine Below.alloc ?_ ?_ _ | refine Below.setCell ?_ ?_ _); rotate_left; (first | omega | (simp <;> omega))))))) (HB1.out.below (by (repeat (first | (with_reducible first | exact Below.refl _ _ | assumption | refine Below.drew ?_) | ((with_reducible first | refine Below.alloc ?_ ?_ _ | refine Below.setCell ?_ ?_ _); rotate_left; (first | omega | (simp <;> omega)))))))).mono ?_
  rintro r w1 ⟨rfl, hb⟩
  have Qw1 := hide (show Below w.heap.size w w1 from Below.trans (by (repeat (first | (with_reducible first | exact Below.refl _ _ | assumption | refine Below.drew ?_) | ((with_reducible first | refine Below.alloc ?_ ?_ _ | refine Below.setCell ?_ ?_ _); rotate_left; (first | omega | (simp <;> omega)))))) (hb.mono (by simp; omega)))
  have q1B : Below w.heap.size w w1 := (by refine Below.trans ?_ (hb.mono (by first | omega | (simp <;> omega))); (repeat (first | (with_reducible first | exact Below.refl _ _ | assumption | refine Below.drew ?_) | ((with_reducible first | refine Below.alloc ?_ ?_ _ | refine Below.setCell ?_ ?_ _); rotate_left; (first | omega | (simp <;> omega))))))
  have q1z := hb.size
  try simp at q1z
  have q1t : w.heap.size ≤ w1.heap.size := (by omega)
  have q1s0 : w.heap.size < w1.heap.size := (by omega)
  have q1n0_0 : ¬ w1.heap.size = w.heap.size := (by omega)
  have q1n0_1 : ¬ w1.heap.size + 1 = w.heap.size := (by omega)
  have q1n0_2 : ¬ w1.heap.size + 2 = w.heap.size := (by omega)
  have q1c0_0 := hb.cell (p := ⟨w.heap.size, 0, none⟩) (by first | omega | (simp <;> omega))
  simp [go_sem, *] at q1c0_0
  have q1c0_2 := hb.cell (p := ⟨w.heap.size, 2, none⟩) (by first | omega | (simp <;> omega))
  simp [go_sem, *] at q1c0_2
  have q1c0_17 := hb.cell (p := ⟨w.heap.size, 17, none⟩) (by first | omega | (simp <;> omega))
  simp [go_sem, *] at q1c0_17
  have q1f0 := fun o => hb.frozen (p := ⟨w.heap.size, o, none⟩) (by first | omega | (simp <;> omega))
  simp [go_sem, *] at q1f0
  have q1s1 : w.heap.size + 1 < w1.heap.size := (by omega)
  have q1n1_0 : ¬ w1.heap.size = w.heap.size + 1 := (by omega)
  have q1n1_1 : ¬ w1.heap.size + 1 = w.heap.size + 1 := (by omega)
  have q1n1_2 : ¬ w1.heap.size + 2 = w.heap.size + 1 := (by omega)
  have q1c1_0 := hb.cell (p := ⟨w.heap.size + 1, 0, none⟩) (by first | omega | (simp <;> omega))
  simp [go_sem, *] at q1c1_0
  have q1c1_2 := hb.cell (p := ⟨w.heap.size + 1, 2, none⟩) (by first | omega | (simp <;> omega))
  simp [go_sem, *] at q1c1_2
  have q1c1_17 := hb.cell (p := ⟨w.heap.size + 1, 17, none⟩) (by first | omega | (simp <;> omega))
  simp [go_sem, *] at q1c1_17
  have q1f1 := fun o => hb.frozen (p := ⟨w.heap.size + 1, o, none⟩) (by first | omega | (simp <;> omega))
  simp [go_sem, *] at q1f1
  have q1o : ∀ b o, b < w.heap.size → w1.cell? ⟨b, o, none⟩ = w.cell? ⟨b, o, none⟩ := fun b o h => q1B.cell (p := ⟨b, o, none⟩) h
  clear hb
  go_wp2_with fail
  go_loopw [5] (fun v wr => SmI2 n0 w1 v wr) (fun v _ => n0 - (intOf v).toNat)
  case atStart => exact ⟨0, by omega, rfl, by (repeat (first | (with_reducible first | exact Below.refl _ _ | assumption | refine Below.drew ?_) | ((with_reducible first | refine Below.alloc ?_ ?_ _ | refine Below.setCell ?_ ?_ _); rotate_left; (first | omega | (simp <;> omega)))))⟩
  case round => as_aux_lemma =>
    obtain ⟨k, hkn, rfl, hb⟩ := hrel
    have H0 := hide hb
    have Qwr := hide (Qw1.out.trans (hb.mono Qw1.out.size))
    have q5B : Below w1.heap.size w1 wr := (by refine Below.trans ?_ (hb.mono (by first | omega | (simp <;> omega))); (repeat (first | (with_reducible first | exact Below.refl _ _ | assumption | refine Below.drew ?_) | ((with_reducible first | refine Below.alloc ?_ ?_ _ | refine Below.setCell ?_ ?_ _); rotate_left; (first | omega | (simp <;> omega))))))
    have q5z := hb.size
    try simp at q5z
    have q5t : w1.heap.size ≤ wr.heap.size := (by omega)
    have q5s0 : w.heap.size < wr.heap.size := (by omega)
    have q5n0_0 : ¬ wr.heap.size = w.heap.size := (by omega)
    have q5n0_1 : ¬ wr.heap.size + 1 = w.heap.size := (by omega)
    have q5n0_2 : ¬ wr.heap.size + 2 = w.heap.size := (by omega)
    have q5c0_0 := hb.cell (p := ⟨w.heap.size, 0, none⟩) (by first | omega | (simp <;> omega))
    simp [go_sem, *] at q5c0_0
    have q5c0_2 := hb.cell (p := ⟨w.heap.size, 2, none⟩) (by first | omega | (simp <;> omega))
    simp [go_sem, *] at q5c0_2
    have q5c0_17 := hb.cell (p := ⟨w.heap.size, 17, none⟩) (by first | omega | (simp <;> omega))
    simp [go_sem, *] at q5c0_17
    have q5f0 := fun o => hb.frozen (p := ⟨w.heap.size, o, none⟩) (by first | omega | (simp <;> omega))
    simp [go_sem, *] at q5f0
    have q5s1 : w.heap.size + 1 < wr.heap.size := (by omega)
    have q5n1_0 : ¬ wr.heap.size = w.heap.size + 1 := (by omega)
    have q5n1_1 : ¬ wr.heap.size + 1 = w.heap.size + 1 := (by omega)
    have q5n1_2 : ¬ wr.heap.size + 2 = w.heap.size + 1 := (by omega)
    have q5c1_0 := hb.cell (p := ⟨w.heap.size + 1, 0, none⟩) (by first | omega | (simp <;> omega))
    simp [go_sem, *] at q5c1_0
    have q5c1_2 := hb.cell (p := ⟨w.heap.size + 1, 2, none⟩) (by first | omega | (simp <;> omega))
    simp [go_sem, *] at q5c1_2
    have q5c1_17 := hb.cell (p := ⟨w.heap.size + 1, 17, none⟩) (by first | omega | (simp <;> omega))
    simp [go_sem, *] at q5c1_17
    have q5f1 := fun o => hb.frozen (p := ⟨w.heap.size + 1, o, none⟩) (by first | omega | (simp <;> omega))
    simp [go_sem, *] at q5f1
    have q5o : ∀ b o, b < w1.heap.size → wr.cell? ⟨b, o, none⟩ = w1.cell? ⟨b, o, none⟩ := fun b o h => q5B.cell (p := ⟨b, o, none⟩) h
    clear hb q1o q1f1 q1c1_17 q1c1_2 q1c1_0 q1s1 q1f0 q1c0_17 q1c0_2 q1c0_0 q1s0 q1z q1B
    by_cases hlt : k < n0
    · have hm : (k : Int) < n0 := by omega
      have HLT := hide hlt
      have hk0 : (0 : Int) ≤ k := by omega
      have HA := hide (HA0.out.below Qwr.out)
      have HB := hide (HB0.out.below Qwr.out)
      obtain ⟨b, off, rfl, hbl, hc⟩ := HA.out.cells (by decide) hlt
      obtain ⟨b', off', rfl, hbl', hd⟩ := HB.out.cells (by decide) hlt
      obtain ⟨u0, q0, e0, _⟩ := rd_str (HA.out.rd k 0 hlt (by decide)) (HK0.out.wt k 0 hlt (by decide))
      have c0 : wr.cell? ⟨b, off + k * 2, none⟩ = some (.string u0) := by have t := hc 0 _ (elA_at 1 C0 k 0 (by decide)); rw [e0] at t; exact t
      have d0 : wr.cell? ⟨b', off' + k * 2, none⟩ = some (.string u0) := by have t := hd 0 _ (elA_at 1 D0 k 0 (by decide)); rw [rd_lfv (HB.out.rd k 0 hlt (by decide)) q0] at t; exact t
      clear q0 e0
      obtain ⟨u1, q1, e1, _⟩ := rd_int (HA.out.rd k 1 hlt (by decide)) (HK0.out.wt k 1 hlt (by decide))
      have c1 : wr.cell? ⟨b, off + k * 2 + 1, none⟩ = some (.int .i64 u1) := by have t := hc 1 _ (elA_at 1 C0 k 1 (by decide)); rw [e1] at t; exact t
      have d1 : wr.cell? ⟨b', off' + k * 2 + 1, none⟩ = some (.int .i64 u1) := by have t := hd 1 _ (elA_at 1 D0 k 1 (by decide)); rw [rd_lfv (HB.out.rd k 1 hlt (by decide)) q1] at t; exact t
      clear q1 e1
      clear hc hd hlt hkn
      go_wp2_with fail
      refine ord_start (SB (wr.heap.size) [] _) 11 (preB 0 11) (by kernel_rfl) (by kernel_rfl) (by kernel_rfl) SB.refl.drew (fun hHeld => ?_)
      refine ord_take (i := 0) (preB 1 10) ?_ rfl (by kernel_rfl) (by kernel_rfl) (by kernel_rfl) (by kernel_rfl) (fun _ _ _ h => h) hHeld (by rfl) (fun wx hSx => ?_) ?_
      rotate_left
      · (unfold SB at hSx; go_simp; (try with_reducible rfl))
      (try simp only [Act.put, putA, putB, putC])
      refine ord_take (i := 1) (preB 2 9) ?_ rfl (by kernel_rfl) (by kernel_rfl) (by kernel_rfl) (by kernel_rfl) (fun _ _ _ h => h) hHeld (by rfl) (fun wx hSx => ?_) ?_
      rotate_left
      · (unfold SB at hSx; go_simp; (try with_reducible rfl))
      (try simp only [Act.put, putA, putB, putC])
      refine ord_take (i := 2) (preB 3 8) ?_ rfl (by kernel_rfl) (by kernel_rfl) (by kernel_rfl) (by kernel_rfl) (fun _ _ _ h => h) hHeld (by rfl) (fun wx hSx => ?_) ?_
      rotate_left
      · (unfold SB at hSx; go_simp; (try with_reducible rfl))
      (try simp only [Act.put, putA, putB, putC])
      refine ord_take (i := 3) (preB 4 7) ?_ rfl (by kernel_rfl) (by kernel_rfl) (by kernel_rfl) (by kernel_rfl) (fun _ _ _ h => h) hHeld (by rfl) (fun wx hSx => ?_) ?_
      rotate_left
      · (unfold SB at hSx; go_simp; (try with_reducible rfl))
      (try simp only [Act.put, putA, putB, putC])
      refine ord_take (i := 4) (preB 5 6) ?_ rfl (by kernel_rfl) (by kernel_rfl) (by kernel_rfl) (by kernel_rfl) (fun _ _ _ h => h) hHeld (by rfl) (fun wx hSx => ?_) ?_
      rotate_left
      · (unfold SB at hSx; go_simp; (try with_reducible rfl))
      (try simp only [Act.put, putA, putB, putC])
      refine ord_take (i := 5) (preB 6 5) ?_ rfl (by kernel_rfl) (by kernel_rfl) (by kernel_rfl) (by kernel_rfl) (fun _ _ _ h => h) hHeld (by rfl) (fun wx hSx => ?_) ?_
      rotate_left
      · (unfold SB at hSx; go_simp; (try with_reducible rfl))
      (try simp only [Act.put, putA, putB, putC])
      refine ord_take (i := 6) (preB 7 4) ?_ rfl (by kernel_rfl) (by kernel_rfl) (by kernel_rfl) (by kernel_rfl) (fun _ _ _ h => h) hHeld (by rfl) (fun wx hSx => ?_) ?_
      rotate_left
      · (unfold SB at hSx; go_simp; (try with_reducible rfl))
      (try simp only [Act.put, putA, putB, putC])
      refine ord_take (i := 7) (preB 8 3) ?_ rfl (by kernel_rfl) (by kernel_rfl) (by kernel_rfl) (by kernel_rfl) (fun _ _ _ h => h) hHeld (by rfl) (fun wx hSx => ?_) ?_
      rotate_left
      · (unfold SB at hSx; go_simp; (try with_reducible rfl))
      (try simp only [Act.put, putA, putB, putC])
      refine ord_take (i := 8) (preB 9 2) ?_ rfl (by kernel_rfl) (by kernel_rfl) (by kernel_rfl) (by kernel_rfl) (fun _ _ _ h => h) hHeld (by rfl) (fun wx hSx => ?_) ?_
      rotate_left
      · (unfold SB at hSx; go_simp; (try with_reducible rfl))
      (try simp only [Act.put, putA, putB, putC])
      refine ord_take (i := 9) (preB 10 1) ?_ rfl (by kernel_rfl) (by kernel_rfl) (by kernel_rfl) (by kernel_rfl) (fun _ _ _ h => h) hHeld (by rfl) (fun wx hSx => ?_) ?_
      rotate_left
      · (unfold SB at hSx; go_simp; (try with_reducible rfl))
      (try simp only [Act.put, putA, putB, putC])
      refine ord_take (i := 10) (preB 11 0) ?_ rfl (by kernel_rfl) (by kernel_rfl) (by kernel_rfl) (by kernel_rfl) (fun _ _ _ h => h) hHeld (by rfl) (fun wx hSx => ?_) ?_
      rotate_left
      · (unfold SB at hSx; go_simp; (try with_reducible rfl))
      (try simp only [Act.put, putA, putB, putC])
      refine wpAnyH_done (by kernel_rfl) ?_ _
      go_wp2_with fail
      go_roundw
      case rel => exact ⟨k + 1, HLT.out, by go_num, H0.out.drew⟩
      case measure => have := HLT.out; simp [intOf]; omega
    · obtain rfl : k = n0 := by omega
      clear hlt hkn
      rename World => wa
      have Qwa := hide Qwr.out
      go_wp2_with fail
      go_loopw [6] (fun v wr => SmI2 n2 wa v wr) (fun v _ => n2 - (intOf v).toNat)
      case atStart => exact ⟨0, by omega, rfl, by (repeat (first | (with_reducible first | exact Below.refl _ _ | assumption | refine Below.drew ?_) | ((with_reducible first | refine Below.alloc ?_ ?_ _ | refine Below.setCell ?_ ?_ _); rotate_left; (first | omega | (simp <;> omega)))))⟩
      case round => as_aux_lemma =>
        obtain ⟨k, hkn, rfl, hb⟩ := hrel
        have H0 := hide hb
        have Qwr := hide (Qwa.out.trans (hb.mono Qwa.out.size))
        have q6B : Below wa.heap.size wa wr := (by refine Below.trans ?_ (hb.mono (by first | omega | (simp <;> omega))); (repeat (first | (with_reducible first | exact Below.refl _ _ | assumption | refine Below.drew ?_) | ((with_reducible first | refine Below.alloc ?_ ?_ _ | refine Below.setCell ?_ ?_ _); rotate_left; (first | omega | (simp <;> omega))))))
        have q6z := hb.size
        try simp at q6z
        have q6t : wa.heap.size ≤ wr.heap.size := (by omega)
        have q6s0 : w.heap.size < wr.heap.size := (by omega)
        have q6n0_0 : ¬ wr.heap.size = w.heap.size := (by omega)
        have q6n0_1 : ¬ wr.heap.size + 1 = w.heap.size := (by omega)
        have q6n0_2 : ¬ wr.heap.size + 2 = w.heap.size := (by omega)
        have q6c0_0 := hb.cell (p := ⟨w.heap.size, 0, none⟩) (by first | omega | (simp <;> omega))
        simp [go_sem, *] at q6c0_0
        have q6c0_2 := hb.cell (p := ⟨w.heap.size, 2, none⟩) (by first | omega | (simp <;> omega))
        simp [go_sem, *] at q6c0_2
        have q6c0_17 := hb.cell (p := ⟨w.heap.size, 17, none⟩) (by first | omega | (simp <;> omega))
        simp [go_sem, *] at q6c0_17
        have q6f0 := fun o => hb.frozen (p := ⟨w.heap.size, o, none⟩) (by first | omega | (simp <;> omega))
        simp [go_sem, *] at q6f0
        have q6s1 : w.heap.size + 1 < wr.heap.size := (by omega)
        have q6n1_0 : ¬ wr.heap.size = w.heap.size + 1 := (by omega)
        have q6n1_1 : ¬ wr.heap.size + 1 = w.heap.size + 1 := (by omega)
        have q6n1_2 : ¬ wr.heap.size + 2 = w.heap.size + 1 := (by omega)
        have q6c1_0 := hb.cell (p := ⟨w.heap.size + 1, 0, none⟩) (by first | omega | (simp <;> omega))
        simp [go_sem, *] at q6c1_0
        have q6c1_2 := hb.cell (p := ⟨w.heap.size + 1, 2, none⟩) (by first | omega | (simp <;> omega))
        simp [go_sem, *] at q6c1_2
        have q6c1_17 := hb.cell (p := ⟨w.heap.size + 1, 17, none⟩) (by first | omega | (simp <;> omega))
        simp [go_sem, *] at q6c1_17
        have q6f1 := fun o => hb.frozen (p := ⟨w.heap.size + 1, o, none⟩) (by first | omega | (simp <;> omega))
        simp [go_sem, *] at q6f1
        have q6o : ∀ b o, b < wa.heap.size → wr.cell? ⟨b, o, none⟩ = wa.cell? ⟨b, o, none⟩ := fun b o h => q6B.cell (p := ⟨b, o, none⟩) h
        clear hb q5o q5f1 q5c1_17 q5c1_2 q5c1_0 q5s1 q5f0 q5c0_17 q5c0_2 q5c0_0 q5s0 q5z q5B
        by_cases hlt : k < n2
        · have hm : (k : Int) < n2 := by omega
          have HLT := hide hlt
          have hk0 : (0 : Int) ≤ k := by omega
          have HA := hide (HA2.out.below Qwr.out)
          have HB := hide (HB2.out.below Qwr.out)
          obtain ⟨b, off, rfl, hbl, hc⟩ := HA.out.cells (by decide) hlt
          obtain ⟨b', off', rfl, hbl', hd⟩ := HB.out.cells (by decide) hlt
          obtain ⟨u0, q0, e0, _⟩ := rd_int (HA.out.rd k 0 hlt (by decide)) (HK2.out.wt k 0 hlt (by decide))
          have c0 : wr.cell? ⟨b, off + k * 4, none⟩ = some (.int .i64 u0) := by have t := hc 0 _ (elA_at 3 C2 k 0 (by decide)); rw [e0] at t; exact t
          have d0 : wr.cell? ⟨b', off' + k * 4, none⟩ = some (.int .i64 u0) := by have t := hd 0 _ (elA_at 3 D2 k 0 (by decide)); rw [rd_lfv (HB.out.rd k 0 hlt (by decide)) q0] at t; exact t
          clear q0 e0
          obtain ⟨u1, q1, e1, _⟩ := rd_int (HA.out.rd k 1 hlt (by decide)) (HK2.out.wt k 1 hlt (by decide))
          have c1 : wr.cell? ⟨b, off + k * 4 + 1, none⟩ = some (.int .i64 u1) := by have t := hc 1 _ (elA_at 3 C2 k 1 (by decide)); rw [e1] at t; exact t
          have d1 : wr.cell? ⟨b', off' + k * 4 + 1, none⟩ = some (.int .i64 u1) := by have t := hd 1 _ (elA_at 3 D2 k 1 (by decide)); rw [rd_lfv (HB.out.rd k 1 hlt (by decide)) q1] at t; exact t
          clear q1 e1
          obtain ⟨u2, q2, e2, _⟩ := rd_int (HA.out.rd k 2 hlt (by decide)) (HK2.out.wt k 2 hlt (by decide))
          have c2 : wr.cell? ⟨b, off + k * 4 + 2, none⟩ = some (.int .i64 u2) := by have t := hc 2 _ (elA_at 3 C2 k 2 (by decide)); rw [e2] at t; exact t
          have d2 : wr.cell? ⟨b', off' + k * 4 + 2, none⟩ = some (.int .i64 u2) := by have t := hd 2 _ (elA_at 3 D2 k 2 (by decide)); rw [rd_lfv (HB.out.rd k 2 hlt (by decide)) q2] at t; exact t
          clear q2 e2
          obtain ⟨u3, q3, e3, _⟩ := rd_str (HA.out.rd k 3 hlt (by decide)) (HK2.out.wt k 3 hlt (by decide))
          have c3 : wr.cell? ⟨b, off + k * 4 + 3, none⟩ = some (.string u3) := by have t := hc 3 _ (elA_at 3 C2 k 3 (by decide)); rw [e3] at t; exact t
          have d3 : wr.cell? ⟨b', off' + k * 4 + 3, none⟩ = some (.string u3) := by have t := hd 3 _ (elA_at 3 D2 k 3 (by decide)); rw [rd_lfv (HB.out.rd k 3 hlt (by decide)) q3] at t; exact t
          clear q3 e3
          clear hc hd hlt hkn
          go_wp2_with fail
          refine ord_start (SB (wr.heap.size) [] _) 11 (preB 0 11) (by kernel_rfl) (by kernel_rfl) (by kernel_rfl) SB.refl.drew (fun hHeld => ?_)
          refine ord_take (i := 0) (preB 1 10) ?_ rfl (by kernel_rfl) (by kernel_rfl) (by kernel_rfl) (by kernel_rfl) (fun _ _ _ h => h) hHeld (by rfl) (fun wx hSx => ?_) ?_
          rotate_left
          · (unfold SB at hSx; go_simp; (try with_reducible rfl))
          (try simp only [Act.put, putA, putB, putC])
          refine ord_take (i := 1) (preB 2 9) ?_ rfl (by kernel_rfl) (by kernel_rfl) (by kernel_rfl) (by kernel_rfl) (fun _ _ _ h => h) hHeld (by rfl) (fun wx hSx => ?_) ?_
          rotate_left
          · (unfold SB at hSx; go_simp; (try with_reducible rfl))
          (try simp only [Act.put, putA, putB, putC])
          refine ord_take (i := 2) (preB 3 8) ?_ rfl (by kernel_rfl) (by kernel_rfl) (by kernel_rfl) (by kernel_rfl) (fun _ _ _ h => h) hHeld (by rfl) (fun wx hSx => ?_) ?_
          rotate_left
          · (unfold SB at hSx; go_simp; (try with_reducible rfl))
          (try simp only [Act.put, putA, putB, putC])
          refine ord_take (i := 3) (preB 4 7) ?_ rfl (by kernel_rfl) (by kernel_rfl) (by kernel_rfl) (by kernel_rfl) (fun _ _ _ h => h) hHeld (by rfl) (fun wx hSx => ?_) ?_
          rotate_left
          · (unfold SB at hSx; go_simp; (try with_reducible rfl))
          (try simp only [Act.put, putA, putB, putC])
          refine ord_take (i := 4) (preB 5 6) ?_ rfl (by kernel_rfl) (by kernel_rfl) (by kernel_rfl) (by kernel_rfl) (fun _ _ _ h => h) hHeld (by rfl) (fun wx hSx => ?_) ?_
          rotate_left
          · (unfold SB at hSx; go_simp; (try with_reducible rfl))
          (try simp only [Act.put, putA, putB, putC])
          refine ord_take (i := 5) (preB 6 5) ?_ rfl (by kernel_rfl) (by kernel_rfl) (by kernel_rfl) (by kernel_rfl) (fun _ _ _ h => h) hHeld (by rfl) (fun wx hSx => ?_) ?_
          rotate_left
          · (unfold SB at hSx; go_simp; (try with_reducible rfl))
          (try simp only [Act.put, putA, putB, putC])
          refine ord_take (i := 6) (preB 7 4) ?_ rfl (by kernel_rfl) (by kernel_rfl) (by kernel_rfl) (by kernel_rfl) (fun _ _ _ h => h) hHeld (by rfl) (fun wx hSx => ?_) ?_
          rotate_left
          · (unfold SB at hSx; go_simp; (try with_reducible rfl))
          (try simp only [Act.put, putA, putB, putC])
          refine ord_take (i := 7) (preB 8 3) ?_ rfl (by kernel_rfl) (by kernel_rfl) (by kernel_rfl) (by kernel_rfl) (fun _ _ _ h => h) hHeld (by rfl) (fun wx hSx => ?_) ?_
          rotate_left
          · (unfold SB at hSx; go_simp; (try with_reducible rfl))
          (try simp only [Act.put, putA, putB, putC])
          refine ord_take (i := 8) (preB 9 2) ?_ rfl (by kernel_rfl) (by kernel_rfl) (by kernel_rfl) (by kernel_rfl) (fun _ _ _ h => h) hHeld (by rfl) (fun wx hSx => ?_) ?_
          rotate_left
          · (unfold SB at hSx; go_simp; (try with_reducible rfl))
          (try simp only [Act.put, putA, putB, putC])
          refine ord_take (i := 9) (preB 10 1) ?_ rfl (by kernel_rfl) (by kernel_rfl) (by kernel_rfl) (by kernel_rfl) (fun _ _ _ h => h) hHeld (by rfl) (fun wx hSx => ?_) ?_
          rotate_left
          · (unfold SB at hSx; go_simp; (try with_reducible rfl))
          (try simp only [Act.put, putA, putB, putC])
          refine ord_take (i := 10) (preB 11 0) ?_ rfl (by kernel_rfl) (by kernel_rfl) (by kernel_rfl) (by kernel_rfl) (fun _ _ _ h => h) hHeld (by rfl) (fun wx hSx => ?_) ?_
          rotate_left
          · (unfold SB at hSx; go_simp; (try with_reducible rfl))
          (try simp only [Act.put, putA, putB, putC])
          refine wpAnyH_done (by kernel_rfl) ?_ _
          go_wp2_with fail
          go_roundw
          case rel => exact ⟨k + 1, HLT.out, by go_num, H0.out.drew⟩
          case measure => have := HLT.out; simp [intOf]; omega
        · obtain rfl : k = n2 := by omega
          clear hlt hkn
          rename World => wb
          have Qwb := hide Qwr.out
          go_wp2_with fail
          go_loopw [7] (fun v wr => SmI2 n17 wb v wr) (fun v _ => n17 - (intOf v).toNat)
          case atStart => exact ⟨0, by omega, rfl, by (repeat (first | (with_reducible first | exact Below.refl _ _ | assumption | refine Below.drew ?_) | ((with_reducible first | refine Below.alloc ?_ ?_ _ | refine Below.setCell ?_ ?_ _); rotate_left; (first | omega | (simp <;> omega)))))⟩
          case round => as_aux_lemma =>
            obtain ⟨k, hkn, rfl, hb⟩ := hrel
            have H0 := hide hb
            have Qwr := hide (Qwb.out.trans (hb.mono Qwb.out.size))
            have q7B : Below wb.heap.size wb wr := (by refine Below.trans ?_ (hb.mono (by first | omega | (simp <;> omega))); (repeat (first | (with_reducible first | exact Below.refl _ _ | assumption | refine Below.drew ?_) | ((with_reducible first | refine Below.alloc ?_ ?_ _ | refine Below.setCell ?_ ?_ _); rotate_left; (first | omega | (simp <;> omega))))))
            have q7z := hb.size
            try simp at q7z
            have q7t : wb.heap.size ≤ wr.heap.size := (by omega)
            have q7s0 : w.heap.size < wr.heap.size := (by omega)
            have q7n0_0 : ¬ wr.heap.size = w.heap.size := (by omega)
            have q7n0_1 : ¬ wr.heap.size + 1 = w.heap.size := (by omega)
            have q7n0_2 : ¬ wr.heap.size + 2 = w.heap.size := (by omega)
            have q7c0_0 := hb.cell (p := ⟨w.heap.size, 0, none⟩) (by first | omega | (simp <;> omega))
            simp [go_sem, *] at q7c0_0
            have q7c0_2 := hb.cell (p := ⟨w.heap.size, 2, none⟩) (by first | omega | (simp <;> omega))
            simp [go_sem, *] at q7c0_2
            have q7c0_17 := hb.cell (p := ⟨w.heap.size, 17, none⟩) (by first | omega | (simp <;> omega))
            simp [go_sem, *] at q7c0_17
            have q7f0 := fun o => hb.frozen (p := ⟨w.heap.size, o, none⟩) (by first | omega | (simp <;> omega))
            simp [go_sem, *] at q7f0
            have q7s1 : w.heap.size + 1 < wr.heap.size := (by omega)
            have q7n1_0 : ¬ wr.heap.size = w.heap.size + 1 := (by omega)
            have q7n1_1 : ¬ wr.heap.size + 1 = w.heap.size + 1 := (by omega)
            have q7n1_2 : ¬ wr.heap.size + 2 = w.heap.size + 1 := (by omega)
            have q7c1_0 := hb.cell (p := ⟨w.heap.size + 1, 0, none⟩) (by first | omega | (simp <;> omega))
            simp [go_sem, *] at q7c1_0
            have q7c1_2 := hb.cell (p := ⟨w.heap.size + 1, 2, none⟩) (by first | omega | (simp <;> omega))
            simp [go_sem, *] at q7c1_2
            have q7c1_17 := hb.cell (p := ⟨w.heap.size + 1, 17, none⟩) (by first | omega | (simp <;> omega))
            simp [go_sem, *] at q7c1_17
            have q7f1 := fun o => hb.frozen (p := ⟨w.heap.size + 1, o, none⟩) (by first | omega | (simp <;> omega))
            simp [go_sem, *] at q7f1
            have q7o : ∀ b o, b < wb.heap.size → wr.cell? ⟨b, o, none⟩ = wb.cell? ⟨b, o, none⟩ := fun b o h => q7B.cell (p := ⟨b, o, none⟩) h
            clear hb q6o q6f1 q6c1_17 q6c1_2 q6c1_0 q6s1 q6f0 q6c0_17 q6c0_2 q6c0_0 q6s0 q6z q6B
            by_cases hlt : k < n17
            · have hm : (k : Int) < n17 := by omega
              have HLT := hide hlt
              have hk0 : (0 : Int) ≤ k := by omega
              have HA := hide (HA17.out.below Qwr.out)
              have HB := hide (HB17.out.below Qwr.out)
              obtain ⟨b, off, rfl, hbl, hc⟩ := HA.out.cells (by decide) hlt
              obtain ⟨b', off', rfl, hbl', hd⟩ := HB.out.cells (by decide) hlt
              have EX := hide (HA.out.el HK17.out hlt)
              have EY := hide (HB.out.el HK17.out hlt)
              have EK := hide (knk HK17.out hlt)
              have HCx := hide (show ∀ j v, (elA 8 C17 k)[j]? = some v → wr.cell? ⟨b, off + k * 19 + j, none⟩ = some v from hc)
              have HCy := hide (show ∀ j v, (elA 8 D17 k)[j]? = some v → wr.cell? ⟨b', off' + k * 19 + j, none⟩ = some v from hd)
              clear hc hd hlt hkn
              go_wp2_with fail
              refine ord_start (SB (wr.heap.size) [] _) 12 (preB 0 12) (by kernel_rfl) (by kernel_rfl) (by kernel_rfl) SB.refl.drew (fun hHeld => ?_)
              refine ord_take (i := 0) (preB 1 11) ?_ rfl (by kernel_rfl) (by kernel_rfl) (by kernel_rfl) (by kernel_rfl) (fun _ _ _ h => h) hHeld (by rfl) (fun wx hSx => ?_) ?_
              rotate_left
              · (unfold SB at hSx; go_simp; (try with_reducible rfl))
              (try simp only [Act.put, putA, putB, putC])
              refine ord_take (i := 1) (preB 2 10) ?_ rfl (by kernel_rfl) (by kernel_rfl) (by kernel_rfl) (by kernel_rfl) (fun _ _ _ h => h) hHeld (by rfl) (fun wx hSx => ?_) ?_
              rotate_left
              · (unfold SB at hSx; go_simp; (try with_reducible rfl))
              (try simp only [Act.put, putA, putB, putC])
              refine ord_take (i := 2) (preB 3 9) ?_ rfl (by kernel_rfl) (by kernel_rfl) (by kernel_rfl) (by kernel_rfl) (fun _ _ _ h => h) hHeld (by rfl) (fun wx hSx => ?_) ?_
              rotate_left
              · (unfold SB at hSx; go_simp; (try with_reducible rfl))
              (try simp only [Act.put, putA, putB, putC])
              refine ord_take (i := 3) (preB 4 8) ?_ rfl (by kernel_rfl) (by kernel_rfl) (by kernel_rfl) (by kernel_rfl) (fun _ _ _ h => h) hHeld (by rfl) (fun wx hSx => ?_) ?_
              rotate_left
              · (unfold SB at hSx; go_simp; (try with_reducible rfl))
              (try simp only [Act.put, putA, putB, putC])
              refine ord_take (i := 4) (preB 5 7) (.agg (elA 8 C17 k)) rfl (by kernel_rfl) (by kernel_rfl) (by kernel_rfl) (by kernel_rfl) (fun _ _ _ h => h) hHeld (by rfl) (fun wx hSx => take_row _ _ rfl b (off + k * 19) rfl (elA 8 C17 k) _ (row_range hSx hbl HCx.out) Tryd.underlying53 rfl (by rw [elA_size]; exact rz8)) ?_
              (try simp only [Act.put, putA, putB, putC])
              refine ord_take (i := 5) (preB 6 6) ?_ rfl (by kernel_rfl) (by kernel_rfl) (by kernel_rfl) (by kernel_rfl) (fun _ _ _ h => h) hHeld (by rfl) (fun wx hSx => ?_) ?_
              rotate_left
              · (unfold SB at hSx; go_simp; (try with_reducible rfl))
              (try simp only [Act.put, putA, putB, putC])
              refine ord_take (i := 6) (preB 7 5) ?_ rfl (by kernel_rfl) (by kernel_rfl) (by kernel_rfl) (by kernel_rfl) (fun _ _ _ h => h) hHeld (by rfl) (fun wx hSx => ?_) ?_
              rotate_left
              · (unfold SB at hSx; go_simp; (try with_reducible rfl))
              (try simp only [Act.put, putA, putB, putC])
              refine ord_take (i := 7) (preB 8 4) ?_ rfl (by kernel_rfl) (by kernel_rfl) (by kernel_rfl) (by kernel_rfl) (fun _ _ _ h => h) hHeld (by rfl) (fun wx hSx => ?_) ?_
              rotate_left
              · (unfold SB at hSx; go_simp; (try with_reducible rfl))
              (try simp only [Act.put, putA, putB, putC])
              refine ord_take (i := 8) (preB 9 3) ?_ rfl (by kernel_rfl) (by kernel_rfl) (by kernel_rfl) (by kernel_rfl) (fun _ _ _ h => h) hHeld (by rfl) (fun wx hSx => ?_) ?_
              rotate_left
              · (unfold SB at hSx; go_simp; (try with_reducible rfl))
              (try simp only [Act.put, putA, putB, putC])
              refine ord_take (i := 9) (preB 10 2) (.agg (elA 8 D17 k)) rfl (by kernel_rfl) (by kernel_rfl) (by kernel_rfl) (by kernel_rfl) (fun _ _ _ h => h) hHeld (by rfl) (fun wx hSx => take_row _ _ rfl b' (off' + k * 19) rfl (elA 8 D17 k) _ (row_range hSx hbl' HCy.out) Tryd.underlying53 rfl (by rw [elA_size]; exact rz8)) ?_
              (try simp only [Act.put, putA, putB, putC])
              refine wpAnyH_ready (rs := [10]) (by kernel_rfl) (by simp) ?_
              refine ord_run (i := 10) (preB 11 1) rfl (by kernel_rfl) (by rfl) (fun K hK => ?_) AllReadyH.nil
              go_simp
              go_wp2_with (go_at_call 18; refine (sm_product _ EK.out _ (elA 8 C17 k) (elA 8 D17 k) (EX.out.below (by (repeat (first | (with_reducible first | exact Below.refl _ _ | assumption | refine Below.drew ?_) | ((with_reducible first | refine Below.alloc ?_ ?_ _ | refine Below.setCell ?_ ?_ _); rotate_left; (first | omega | (simp <;> omega))))))) (EY.out.below (by (repeat (first | (with_reducible first | exact Below.refl _ _ | assumption | refine Below.drew ?_) | ((with_reducible first | refine Below.alloc ?_ ?_ _ | refine Below.setCell ?_ ?_ _); rotate_left; (first | omega | (simp <;> omega)))))))).mono ?_; rintro r v1 ⟨rfl, hb⟩; have hbS := hb)
              refine hK.out _ _ ?_ (fun hHeld => ?_)
              · (repeat (first | (with_reducible first | exact SB.refl | exact hHeld | refine SB.drew ?_ | refine SB.drewN ?_ _) | ((with_reducible first | refine SB.alloc ?_ ?_ _ | refine SB.below ?_ hbS ?_ | refine SB.below ?_ hbS1 ?_ | refine SB.below ?_ hbS2 ?_ | refine SB.below ?_ hbS3 ?_ | refine SB.below ?_ hbS4 ?_); rotate_left; (first | omega | (simp <;> omega))) | ((with_reducible refine SB.setCell ?_ ?_ _); rotate_left; (focus (first | (simp; done) | (right; first | omega | (simp <;> omega))))) | (with_reducible refine SB.undrew ?_) | ((with_reducible refine SB.congr ?_ ?_); rotate_left; (focus (simp; done))) | ((with_reducible refine SB.realloc ?_ ?_ ?_); rotate_left; (focus (simp; done)); (focus (simp; done)))))
              clear hK K
              (try simp only [Act.put, putA, putB, putC])
              refine ord_take (i := 11) (preB 12 0) ?_ rfl (by kernel_rfl) (by kernel_rfl) (by kernel_rfl) (by kernel_rfl) (fun _ _ _ h => h) hHeld (by rfl) (fun wx hSx => ?_) ?_
              rotate_left
              · (unfold SB at hSx; go_simp; (try with_reducible rfl))
              (try simp only [Act.put, putA, putB, putC])
              refine wpAnyH_done (by kernel_rfl) ?_ _
              go_wp2_with fail
              go_roundw
              case rel => exact ⟨k + 1, HLT.out, by go_num, H0.out.trans (Below.trans (by (repeat (first | (with_reducible first | exact Below.refl _ _ | assumption | refine Below.drew ?_) | ((with_reducible first | refine Below.alloc ?_ ?_ _ | refine Below.setCell ?_ ?_ _); rotate_left; (first | omega | (simp <;> omega)))))) (hb.mono (by have := H0.out.size; simpa using this)))⟩
              case measure => have := HLT.out; simp [intOf]; omega
            · obtain rfl : k = n17 := by omega
              clear hlt hkn
              rename World => wc
              have Qwc := hide Qwr.out
              go_wp2_with fail
              go_ret
              exact ⟨rfl, Qwc.out⟩
set_option maxRecDepth 20000 in
set_option maxHeartbeats 16000000 in
theorem sm_books (ck : Nat → Tr) (hw : KnOK 15 ck) (w : World) (X Y : Array Value) (hX : ElT (Old w) w 15 ck X) (hY : ElT (Old w) w 15 ck Y) : Calls Tryd.prog 24 #[.agg X, .agg Y] w fun r w' => r = .returned (.bool true) ∧ Below w.heap.size w w' := by
  have HXS := hide (show X.size = 22 from hX.size)
  have HYS := hide (show Y.size = 22 from hY.size)
  obtain ⟨n0, c0, hc0, hk0, A0, cap0, C0, e0, _, hA0⟩ := rd_row (e := 1) (hX.rd 0 (by decide)) (hw 0 (by decide))
  have g0 := hY.rd 0 (by decide)
  rw [hc0] at g0
  obtain ⟨B0, cbp0, D0, f0, _, hB0, hD0⟩ := g0
  have gX0 : X[0]? = some (.slice A0 n0 cap0) := at_eq HXS.out (by decide) e0
  have gY0 : Y[0]? = some (.slice B0 n0 cbp0) := at_eq HYS.out (by decide) f0
  have HA0 := hide hA0
  have HB0 := hide (show RowT (Old w) w 1 B0 n0 c0 D0 from ⟨hB0, hD0⟩)
  have HK0 := hide hk0
  clear hA0 hB0 hD0 hk0 hc0 e0 f0
  obtain ⟨n1, c1, hc1, hk1, A1, cap1, C1, e1, _, hA1⟩ := rd_row (e := 2) (hX.rd 1 (by decide)) (hw 1 (by decide))
  have g1 := hY.rd 1 (by decide)
  rw [hc1] at g1
  obtain ⟨B1, cbp1, D1, f1, _, hB1, hD1⟩ := g1
  have gX1 : X[1]? = some (.slice A1 n1 cap1) := at_eq HXS.out (by decide) e1
  have gY1 : Y[1]? = some (.slice B1 n1 cbp1) := at_eq HYS.out (by decide) f1
  have HA1 := hide hA1
  have HB1 := hide (show RowT (Old w) w 2 B1 n1 c1 D1 from ⟨hB1, hD1⟩)
  have HK1 := hide hk1
  clear hA1 hB1 hD1 hk1 hc1 e1 f1
  obtain ⟨n2, c2, hc2, hk2, A2, cap2, C2, e2, _, hA2⟩ := rd_row (e := 3) (hX.rd 2 (by decide)) (hw 2 (by decide))
  have g2 := hY.rd 2 (by decide)
  rw [hc2] at g2
  obtain ⟨B2, cbp2, D2, f2, _, hB2, hD2⟩ := g2
  have gX2 : X[2]? = some (.slice A2 n2 cap2) := at_eq HXS.out (by decide) e2
  have gY2 : Y[2]? = some (.slice B2 n2 cbp2) := at_eq HYS.out (by decide) f2
  have HA2 := hide hA2
  have HB2 := hide (show RowT (Old w) w 3 B2 n2 c2 D2 from ⟨hB2, hD2⟩)
  have HK2 := hide hk2
  clear hA2 hB2 hD2 hk2 hc2 e2 f2
  obtain ⟨z3, q3, e3, _⟩ := rd_int (hX.rd 3 (by decide)) (hw 3 (by decide))
  have gX3 : X[3]? = some (.int .i64 z3) := at_eq HXS.out (by decide) e3
  have gY3 : Y[3]? = some (.int .i64 z3) := at_eq HYS.out (by decide) (rd_lfv (hY.rd 3 (by decide)) q3)
  clear q3 e3
  obtain ⟨z4, q4, e4, _⟩ := rd_int (hX.rd 4 (by decide)) (hw 4 (by decide))
  have gX4 : X[4]? = some (.int .i64 z4) := at_eq HXS.out (by decide) e4
  have gY4 : Y[4]? = some (.int .i64 z4) := at_eq HYS.out (by decide) (rd_lfv (hY.rd 4 (by decide)) q4)
  clear q4 e4
  obtain ⟨z5, q5, e5, _⟩ := rd_int (hX.rd 5 (by decide)) (hw 5 (by decide))
  have gX5 : X[5]? = some (.int .i64 z5) := at_eq HXS.out (by decide) e5
  have gY5 : Y[5]? = some (.int .i64 z5) := at_eq HYS.out (by decide) (rd_lfv (hY.rd 5 (by decide)) q5)
  clear q5 e5
  obtain ⟨z6, q6, e6, _⟩ := rd_int (hX.rd 6 (by decide)) (hw 6 (by decide))
  have gX6 : X[6]? = some (.int .i64 z6) := at_eq HXS.out (by decide) e6
  have gY6 : Y[6]? = some (.int .i64 z6) := at_eq HYS.out (by decide) (rd_lfv (hY.rd 6 (by decide)) q6)
  clear q6 e6
  obtain ⟨z7, q7, e7, _⟩ := rd_int (hX.rd 7 (by decide)) (hw 7 (by decide))
  have gX7 : X[7]? = some (.int .i64 z7) := at_eq HXS.out (by decide) e7
  have gY7 : Y[7]? = some (.int .i64 z7) := at_eq HYS.out (by decide) (rd_lfv (hY.rd 7 (by decide)) q7)
  clear q7 e7
  obtain ⟨z8, q8, e8, _⟩ := rd_int (hX.rd 8 (by decide)) (hw 8 (by decide))
  have gX8 : X[8]? = some (.int .i64 z8) := at_eq HXS.out (by decide) e8
  have gY8 : Y[8]? = some (.int .i64 z8) := at_eq HYS.out (by decide) (rd_lfv (hY.rd 8 (by decide)) q8)
  clear q8 e8
  obtain ⟨z9, q9, e9, _⟩ := rd_int (hX.rd 9 (by decide)) (hw 9 (by decide))
  have gX9 : X[9]? = some (.int .i64 z9) := at_eq HXS.out (by decide) e9
  have gY9 : Y[9]? = some (.int .i64 z9) := at_eq HYS.out (by decide) (rd_lfv (hY.rd 9 (by decide)) q9)
  clear q9 e9
  obtain ⟨z10, q10, e10, _⟩ := rd_int (hX.rd 10 (by decide)) (hw 10 (by decide))
  have gX10 : X[10]? = some (.int .i64 z10) := at_eq HXS.out (by decide) e10
  have gY10 : Y[10]? = some (.int .i64 z10) := at_eq HYS.out (by decide) (rd_lfv (hY.rd 10 (by decide)) q10)
  clear q10 e10
  obtain ⟨z11, q11, e11, _⟩ := rd_int (hX.rd 11 (by decide)) (hw 11 (by decide))
  have gX11 : X[11]? = some (.int .i64 z11) := at_eq HXS.out (by decide) e11
  have gY11 : Y[11]? = some (.int .i64 z11) := at_eq HYS.out (by decide) (rd_lfv (hY.rd 11 (by decide)) q11)
  clear q11 e11
  obtain ⟨z12, q12, e12, _⟩ := rd_int (hX.rd 12 (by decide)) (hw 12 (by decide))
  have gX12 : X[12]? = some (.int .i64 z12) := at_eq HXS.out (by decide) e12
  have gY12 : Y[12]? = some (.int .i64 z12) := at_eq HYS.out (by decide) (rd_lfv (hY.rd 12 (by decide)) q12)
  clear q12 e12
  obtain ⟨z13, q13, e13, _⟩ := rd_int (hX.rd 13 (by decide)) (hw 13 (by decide))
  have gX13 : X[13]? = some (.int .i64 z13) := at_eq HXS.out (by decide) e13
  have gY13 : Y[13]? = some (.int .i64 z13) := at_eq HYS.out (by decide) (rd_lfv (hY.rd 13 (by decide)) q13)
  clear q13 e13
  obtain ⟨z14, q14, e14, _⟩ := rd_int (hX.rd 14 (by decide)) (hw 14 (by decide))
  have gX14 : X[14]? = some (.int .i64 z14) := at_eq HXS.out (by decide) e14
  have gY14 : Y[14]? = some (.int .i64 z14) := at_eq HYS.out (by decide) (rd_lfv (hY.rd 14 (by decide)) q14)
  clear q14 e14
  obtain ⟨z15, q15, e15, _⟩ := rd_int (hX.rd 15 (by decide)) (hw 15 (by decide))
  have gX15 : X[15]? = some (.int .i64 z15) := at_eq HXS.out (by decide) e15
  have gY15 : Y[15]? = some (.int .i64 z15) := at_eq HYS.out (by decide) (rd_lfv (hY.rd 15 (by decide)) q15)
  clear q15 e15
  obtain ⟨z16, q16, e16, _⟩ := rd_int (hX.rd 16 (by decide)) (hw 16 (by decide))
  have gX16 : X[16]? = some (.int .i64 z16) := at_eq HXS.out (by decide) e16
  have gY16 : Y[16]? = some (.int .i64 z16) := at_eq HYS.out (by decide) (rd_lfv (hY.rd 16 (by decide)) q16)
  clear q16 e16
  obtain ⟨n17, c17, hc17, hk17, A17, cap17, C17, e17, _, hA17⟩ := rd_row (e := 8) (hX.rd 17 (by decide)) (hw 17 (by decide))
  have g17 := hY.rd 17 (by decide)
  rw [hc17] at g17
  obtain ⟨B17, cbp17, D17, f17, _, hB17, hD17⟩ := g17
  have gX17 : X[17]? = some (.slice A17 n17 cap17) := at_eq HXS.out (by decide) e17
  have gY17 : Y[17]? = some (.slice B17 n17 cbp17) := at_eq HYS.out (by decide) f17
  have HA17 := hide hA17
  have HB17 := hide (show RowT (Old w) w 8 B17 n17 c17 D17 from ⟨hB17, hD17⟩)
  have HK17 := hide hk17
  clear hA17 hB17 hD17 hk17 hc17 e17 f17
  obtain ⟨n18, c18, hc18, hk18, A18, cap18, C18, e18, _, hA18⟩ := rd_row (e := 9) (hX.rd 18 (by decide)) (hw 18 (by decide))
  have g18 := hY.rd 18 (by decide)
  rw [hc18] at g18
  obtain ⟨B18, cbp18, D18, f18, _, hB18, hD18⟩ := g18
  have gX18 : X[18]? = some (.slice A18 n18 cap18) := at_eq HXS.out (by decide) e18
  have gY18 : Y[18]? = some (.slice B18 n18 cbp18) := at_eq HYS.out (by decide) f18
  have HA18 := hide hA18
  have HB18 := hide (show RowT (Old w) w 9 B18 n18 c18 D18 from ⟨hB18, hD18⟩)
  have HK18 := hide hk18
  clear hA18 hB18 hD18 hk18 hc18 e18 f18
  obtain ⟨n19, c19, hc19, hk19, A19, cap19, C19, e19, _, hA19⟩ := rd_row (e := 11) (hX.rd 19 (by decide)) (hw 19 (by decide))
  have g19 := hY.rd 19 (by decide)
  rw [hc19] at g19
  obtain ⟨B19, cbp19, D19, f19, _, hB19, hD19⟩ := g19
  have gX19 : X[19]? = some (.slice A19 n19 cap19) := at_eq HXS.out (by decide) e19
  have gY19 : Y[19]? = some (.slice B19 n19 cbp19) := at_eq HYS.out (by decide) f19
  have HA19 := hide hA19
  have HB19 := hide (show RowT (Old w) w 11 B19 n19 c19 D19 from ⟨hB19, hD19⟩)
  have HK19 := hide hk19
  clear hA19 hB19 hD19 hk19 hc19 e19 f19
  obtain ⟨n20, c20, hc20, hk20, A20, cap20, C20, e20, _, hA20⟩ := rd_row (e := 12) (hX.rd 20 (by decide)) (hw 20 (by decide))
  have g20 := hY.rd 20 (by decide)
  rw [hc20] at g20
  obtain ⟨B20, cbp20, D20, f20, _, hB20, hD20⟩ := g20
  have gX20 : X[20]? = some (.slice A20 n20 cap20) := at_eq HXS.out (by decide) e20
  have gY20 : Y[20]? = some (.slice B20 n20 cbp20) := at_eq HYS.out (by decide) f20
  have HA20 := hide hA20
  have HB20 := hide (show RowT (Old w) w 12 B20 n20 c20 D20 from ⟨hB20, hD20⟩)
  have HK20 := hide hk20
  clear hA20 hB20 hD20 hk20 hc20 e20 f20
  obtain ⟨n21, c21, hc21, hk21, A21, cap21, C21, e21, _, hA21⟩ := rd_row (e := 13) (hX.rd 21 (by decide)) (hw 21 (by decide))
  have g21 := hY.rd 21 (by decide)
  rw [hc21] at g21
  obtain ⟨B21, cbp21, D21, f21, _, hB21, hD21⟩ := g21
  have gX21 : X[21]? = some (.slice A21 n21 cap21) := at_eq HXS.out (by decide) e21
  have gY21 : Y[21]? = some (.slice B21 n21 cbp21) := at_eq HYS.out (by decide) f21
  have HA21 := hide hA21
  have HB21 := hide (show RowT (Old w) w 13 B21 n21 c21 D21 from ⟨hB21, hD21⟩)
  have HK21 := hide hk21
  clear hA21 hB21 hD21 hk21 hc21 e21 f21
  have hn18 : n18 ≤ 140737488351232 := by have := HK18.out.room; simp only [tby] at this; omega
  have hn19 : n19 ≤ 140737488351232 := by have := HK19.out.room; simp only [tby] at this; omega
  have hn20 : n20 ≤ 140737488351232 := by have := HK20.out.room; simp only [tby] at this; omega
  have hn21 : n21 ≤ 140737488351232 := by have := HK21.out.room; simp only [tby] at this; omega
  have HS := hide (show (Tryd.prog.info? 41).map (·.size) = some X.size by rw [HXS.out]; exact bkz)
  have HT := hide (show (Tryd.prog.info? 41).map (·.size) = some Y.size by rw [HYS.out]; exact bkz)
  have EX := hide hX
  have EY := hide hY
  have EW := hide hw
  have HE := hide (fun (W : World) (h1 : RowT (Old W) W 9 A18 n18 c18 C18) (h2 : RowT (Old W) W 9 B18 n18 c18 D18) => sm_SameAccounts A18 B18 n18 cap18 cbp18 c18 C18 D18 HK18.out W h1 h2)
  clear hX hY hw gX0 gY0 gX1 gY1 gX2 gY2 gX3 gY3 gX4 gY4 gX5 gY5 gX6 gY6 gX7 gY7 gX8 gY8 gX9 gY9 gX10 gY10 gX11 gY11 gX12 gY12 gX13 gY13 gX14 gY14 gX15 gY15 gX16 gY16 gX17 gY17
  go_enter Tryd.func24, Tryd.ntmps24
  go_wp2_with (first
    | (with_reducible refine wpList_load_row rfl 41 (.tmp 2) rfl w.heap.size rfl 41 X (0, 0) _ (blk_under (blk_new rfl)) Tryd.underlying41 rfl HS.out ?_)
    | (with_reducible refine wpList_load_row rfl 41 (.tmp 3) rfl (w.heap.size + 1) rfl 41 Y (0, 0) _ (blk_new (by simp)) Tryd.underlying41 rfl HT.out ?_))
  refine (sm_settings _ EW.out _ _ _ (EX.out.below (by (repeat (first | (with_reducible first | exact Below.refl _ _ | assumption | refine Below.drew ?_) | ((with_reducible first | refine Below.alloc ?_ ?_ _ | refine Below.setCell ?_ ?_ _); rotate_left; (first | omega | (simp <;> omega))))))) (EY.out.below (by (repeat (first | (with_reducible first | exact Below.refl _ _ | assumption | refine Below.drew ?_) | ((with_reducible first | refine Below.alloc ?_ ?_ _ | refine Below.setCell ?_ ?_ _); rotate_left; (first | omega | (simp <;> omega)))))))).mono ?_
  rintro r w1 ⟨rfl, hb⟩
  have Qw1 := hide (show Below w.heap.size w w1 from Below.trans (by (repeat (first | (with_reducible first | exact Below.refl _ _ | assumption | refine Below.drew ?_) | ((with_reducible first | refine Below.alloc ?_ ?_ _ | refine Below.setCell ?_ ?_ _); rotate_left; (first | omega | (simp <;> omega)))))) (hb.mono (by simp; omega)))
  have q1B : Below w.heap.size w w1 := (by refine Below.trans ?_ (hb.mono (by first | omega | (simp <;> omega))); (repeat (first | (with_reducible first | exact Below.refl _ _ | assumption | refine Below.drew ?_) | ((with_reducible first | refine Below.alloc ?_ ?_ _ | refine Below.setCell ?_ ?_ _); rotate_left; (first | omega | (simp <;> omega))))))
  have q1z := hb.size
  try simp at q1z
  have q1t : w.heap.size ≤ w1.heap.size := (by omega)
  have q1s0 : w.heap.size < w1.heap.size := (by omega)
  have q1n0_0 : ¬ w1.heap.size = w.heap.size := (by omega)
  have q1n0_1 : ¬ w1.heap.size + 1 = w.heap.size := (by omega)
  have q1n0_2 : ¬ w1.heap.size + 2 = w.heap.size := (by omega)
  have q1c0_18 := hb.cell (p := ⟨w.heap.size, 18, none⟩) (by first | omega | (simp <;> omega))
  simp [go_sem, *] at q1c0_18
  have q1c0_19 := hb.cell (p := ⟨w.heap.size, 19, none⟩) (by first | omega | (simp <;> omega))
  simp [go_sem, *] at q1c0_19
  have q1c0_20 := hb.cell (p := ⟨w.heap.size, 20, none⟩) (by first | omega | (simp <;> omega))
  simp [go_sem, *] at q1c0_20
  have q1c0_21 := hb.cell (p := ⟨w.heap.size, 21, none⟩) (by first | omega | (simp <;> omega))
  simp [go_sem, *] at q1c0_21
  have q1f0 := fun o => hb.frozen (p := ⟨w.heap.size, o, none⟩) (by first | omega | (simp <;> omega))
  simp [go_sem, *] at q1f0
  have q1s1 : w.heap.size + 1 < w1.heap.size := (by omega)
  have q1n1_0 : ¬ w1.heap.size = w.heap.size + 1 := (by omega)
  have q1n1_1 : ¬ w1.heap.size + 1 = w.heap.size + 1 := (by omega)
  have q1n1_2 : ¬ w1.heap.size + 2 = w.heap.size + 1 := (by omega)
  have q1c1_18 := hb.cell (p := ⟨w.heap.size + 1, 18, none⟩) (by first | omega | (simp <;> omega))
  simp [go_sem, *] at q1c1_18
  have q1c1_19 := hb.cell (p := ⟨w.heap.size + 1, 19, none⟩) (by first | omega | (simp <;> omega))
  simp [go_sem, *] at q1c1_19
  have q1c1_20 := hb.cell (p := ⟨w.heap.size + 1, 20, none⟩) (by first | omega | (simp <;> omega))
  simp [go_sem, *] at q1c1_20
  have q1c1_21 := hb.cell (p := ⟨w.heap.size + 1, 21, none⟩) (by first | omega | (simp <;> omega))
  simp [go_sem, *] at q1c1_21
  have q1f1 := fun o => hb.frozen (p := ⟨w.heap.size + 1, o, none⟩) (by first | omega | (simp <;> omega))
  simp [go_sem, *] at q1f1
  have q1o : ∀ b o, b < w.heap.size → w1.cell? ⟨b, o, none⟩ = w.cell? ⟨b, o, none⟩ := fun b o h => q1B.cell (p := ⟨b, o, none⟩) h
  clear hb
  go_wp2_with fail
  refine (HE.out _ (HA18.out.below (Qw1.out.trans (by (repeat (first | (with_reducible first | exact Below.refl _ _ | assumption | refine Below.drew ?_) | ((with_reducible first | refine Below.alloc ?_ ?_ _ | refine Below.setCell ?_ ?_ _); rotate_left; (first | omega | (simp <;> omega)))))))) (HB18.out.below (Qw1.out.trans (by (repeat (first | (with_reducible first | exact Below.refl _ _ | assumption | refine Below.drew ?_) | ((with_reducible first | refine Below.alloc ?_ ?_ _ | refine Below.setCell ?_ ?_ _); rotate_left; (first | omega | (simp <;> omega))))))))).mono ?_
  rintro r w2 ⟨rfl, hb⟩
  have Qw2 := hide (show Below w.heap.size w w2 from Qw1.out.trans (Below.trans (by (repeat (first | (with_reducible first | exact Below.refl _ _ | assumption | refine Below.drew ?_) | ((with_reducible first | refine Below.alloc ?_ ?_ _ | refine Below.setCell ?_ ?_ _); rotate_left; (first | omega | (simp <;> omega)))))) (hb.mono Qw1.out.size)))
  have q2B : Below w1.heap.size w1 w2 := (by refine Below.trans ?_ (hb.mono (by first | omega | (simp <;> omega))); (repeat (first | (with_reducible first | exact Below.refl _ _ | assumption | refine Below.drew ?_) | ((with_reducible first | refine Below.alloc ?_ ?_ _ | refine Below.setCell ?_ ?_ _); rotate_left; (first | omega | (simp <;> omega))))))
  have q2z := hb.size
  try simp at q2z
  have q2t : w1.heap.size ≤ w2.heap.size := (by omega)
  have q2s0 : w.heap.size < w2.heap.size := (by omega)
  have q2n0_0 : ¬ w2.heap.size = w.heap.size := (by omega)
  have q2n0_1 : ¬ w2.heap.size + 1 = w.heap.size := (by omega)
  have q2n0_2 : ¬ w2.heap.size + 2 = w.heap.size := (by omega)
  have q2c0_19 := hb.cell (p := ⟨w.heap.size, 19, none⟩) (by first | omega | (simp <;> omega))
  simp [go_sem, *] at q2c0_19
  have q2c0_20 := hb.cell (p := ⟨w.heap.size, 20, none⟩) (by first | omega | (simp <;> omega))
  simp [go_sem, *] at q2c0_20
  have q2c0_21 := hb.cell (p := ⟨w.heap.size, 21, none⟩) (by first | omega | (simp <;> omega))
  simp [go_sem, *] at q2c0_21
  have q2f0 := fun o => hb.frozen (p := ⟨w.heap.size, o, none⟩) (by first | omega | (simp <;> omega))
  simp [go_sem, *] at q2f0
  have q2s1 : w.heap.size + 1 < w2.heap.size := (by omega)
  have q2n1_0 : ¬ w2.heap.size = w.heap.size + 1 := (by omega)
  have q2n1_1 : ¬ w2.heap.size + 1 = w.heap.size + 1 := (by omega)
  have q2n1_2 : ¬ w2.heap.size + 2 = w.heap.size + 1 := (by omega)
  have q2c1_19 := hb.cell (p := ⟨w.heap.size + 1, 19, none⟩) (by first | omega | (simp <;> omega))
  simp [go_sem, *] at q2c1_19
  have q2c1_20 := hb.cell (p := ⟨w.heap.size + 1, 20, none⟩) (by first | omega | (simp <;> omega))
  simp [go_sem, *] at q2c1_20
  have q2c1_21 := hb.cell (p := ⟨w.heap.size + 1, 21, none⟩) (by first | omega | (simp <;> omega))
  simp [go_sem, *] at q2c1_21
  have q2f1 := fun o => hb.frozen (p := ⟨w.heap.size + 1, o, none⟩) (by first | omega | (simp <;> omega))
  simp [go_sem, *] at q2f1
  have q2o : ∀ b o, b < w1.heap.size → w2.cell? ⟨b, o, none⟩ = w1.cell? ⟨b, o, none⟩ := fun b o h => q2B.cell (p := ⟨b, o, none⟩) h
  clear hb q1o q1f1 q1c1_21 q1c1_20 q1c1_19 q1c1_18 q1s1 q1f0 q1c0_21 q1c0_20 q1c0_19 q1c0_18 q1s0 q1z q1B
  go_wp2_with fail
  go_loopw [5] (fun v wr => SmI2 n19 w2 v wr) (fun v _ => n19 - (intOf v).toNat)
  case atStart => exact ⟨0, by omega, rfl, by (repeat (first | (with_reducible first | exact Below.refl _ _ | assumption | refine Below.drew ?_) | ((with_reducible first | refine Below.alloc ?_ ?_ _ | refine Below.setCell ?_ ?_ _); rotate_left; (first | omega | (simp <;> omega)))))⟩
  case round => as_aux_lemma =>
    obtain ⟨k, hkn, rfl, hb⟩ := hrel
    have H0 := hide hb
    have Qwr := hide (Qw2.out.trans (hb.mono Qw2.out.size))
    have q5B : Below w2.heap.size w2 wr := (by refine Below.trans ?_ (hb.mono (by first | omega | (simp <;> omega))); (repeat (first | (with_reducible first | exact Below.refl _ _ | assumption | refine Below.drew ?_) | ((with_reducible first | refine Below.alloc ?_ ?_ _ | refine Below.setCell ?_ ?_ _); rotate_left; (first | omega | (simp <;> omega))))))
    have q5z := hb.size
    try simp at q5z
    have q5t : w2.heap.size ≤ wr.heap.size := (by omega)
    have q5s0 : w.heap.size < wr.heap.size := (by omega)
    have q5n0_0 : ¬ wr.heap.size = w.heap.size := (by omega)
    have q5n0_1 : ¬ wr.heap.size + 1 = w.heap.size := (by omega)
    have q5n0_2 : ¬ wr.heap.size + 2 = w.heap.size := (by omega)
    have q5c0_19 := hb.cell (p := ⟨w.heap.size, 19, none⟩) (by first | omega | (simp <;> omega))
    simp [go_sem, *] at q5c0_19
    have q5c0_20 := hb.cell (p := ⟨w.heap.size, 20, none⟩) (by first | omega | (simp <;> omega))
    simp [go_sem, *] at q5c0_20
    have q5c0_21 := hb.cell (p := ⟨w.heap.size, 21, none⟩) (by first | omega | (simp <;> omega))
    simp [go_sem, *] at q5c0_21
    have q5f0 := fun o => hb.frozen (p := ⟨w.heap.size, o, none⟩) (by first | omega | (simp <;> omega))
    simp [go_sem, *] at q5f0
    have q5s1 : w.heap.size + 1 < wr.heap.size := (by omega)
    have q5n1_0 : ¬ wr.heap.size = w.heap.size + 1 := (by omega)
    have q5n1_1 : ¬ wr.heap.size + 1 = w.heap.size + 1 := (by omega)
    have q5n1_2 : ¬ wr.heap.size + 2 = w.heap.size + 1 := (by omega)
    have q5c1_19 := hb.cell (p := ⟨w.heap.size + 1, 19, none⟩) (by first | omega | (simp <;> omega))
    simp [go_sem, *] at q5c1_19
    have q5c1_20 := hb.cell (p := ⟨w.heap.size + 1, 20, none⟩) (by first | omega | (simp <;> omega))
    simp [go_sem, *] at q5c1_20
    have q5c1_21 := hb.cell (p := ⟨w.heap.size + 1, 21, none⟩) (by first | omega | (simp <;> omega))
    simp [go_sem, *] at q5c1_21
    have q5f1 := fun o => hb.frozen (p := ⟨w.heap.size + 1, o, none⟩) (by first | omega | (simp <;> omega))
    simp [go_sem, *] at q5f1
    have q5o : ∀ b o, b < w2.heap.size → wr.cell? ⟨b, o, none⟩ = w2.cell? ⟨b, o, none⟩ := fun b o h => q5B.cell (p := ⟨b, o, none⟩) h
    clear hb q2o q2f1 q2c1_21 q2c1_20 q2c1_19 q2s1 q2f0 q2c0_21 q2c0_20 q2c0_19 q2s0 q2z q2B
    by_cases hlt : k < n19
    · have hm : (k : Int) < n19 := by omega
      have HLT := hide hlt
      have hk0 : (0 : Int) ≤ k := by omega
      have HA := hide (HA19.out.below Qwr.out)
      have HB := hide (HB19.out.below Qwr.out)
      obtain ⟨b, off, rfl, hbl, hc⟩ := HA.out.cells (by decide) hlt
      obtain ⟨b', off', rfl, hbl', hd⟩ := HB.out.cells (by decide) hlt
      have EX := hide (HA.out.el HK19.out hlt)
      have EY := hide (HB.out.el HK19.out hlt)
      have EK := hide (knk HK19.out hlt)
      have HCx := hide (show ∀ j v, (elA 11 C19 k)[j]? = some v → wr.cell? ⟨b, off + k * 10 + j, none⟩ = some v from hc)
      have HCy := hide (show ∀ j v, (elA 11 D19 k)[j]? = some v → wr.cell? ⟨b', off' + k * 10 + j, none⟩ = some v from hd)
      clear hc hd hlt hkn
      go_wp2_with fail
      refine ord_start (SB (wr.heap.size) [] _) 12 (preB 0 12) (by kernel_rfl) (by kernel_rfl) (by kernel_rfl) SB.refl.drew (fun hHeld => ?_)
      refine ord_take (i := 0) (preB 1 11) ?_ rfl (by kernel_rfl) (by kernel_rfl) (by kernel_rfl) (by kernel_rfl) (fun _ _ _ h => h) hHeld (by rfl) (fun wx hSx => ?_) ?_
      rotate_left
      · (unfold SB at hSx; go_simp; (try with_reducible rfl))
      (try simp only [Act.put, putA, putB, putC])
      refine ord_take (i := 1) (preB 2 10) ?_ rfl (by kernel_rfl) (by kernel_rfl) (by kernel_rfl) (by kernel_rfl) (fun _ _ _ h => h) hHeld (by rfl) (fun wx hSx => ?_) ?_
      rotate_left
      · (unfold SB at hSx; go_simp; (try with_reducible rfl))
      (try simp only [Act.put, putA, putB, putC])
      refine ord_take (i := 2) (preB 3 9) ?_ rfl (by kernel_rfl) (by kernel_rfl) (by kernel_rfl) (by kernel_rfl) (fun _ _ _ h => h) hHeld (by rfl) (fun wx hSx => ?_) ?_
      rotate_left
      · (unfold SB at hSx; go_simp; (try with_reducible rfl))
      (try simp only [Act.put, putA, putB, putC])
      refine ord_take (i := 3) (preB 4 8) ?_ rfl (by kernel_rfl) (by kernel_rfl) (by kernel_rfl) (by kernel_rfl) (fun _ _ _ h => h) hHeld (by rfl) (fun wx hSx => ?_) ?_
      rotate_left
      · (unfold SB at hSx; go_simp; (try with_reducible rfl))
      (try simp only [Act.put, putA, putB, putC])
      refine ord_take (i := 4) (preB 5 7) (.agg (elA 11 C19 k)) rfl (by kernel_rfl) (by kernel_rfl) (by kernel_rfl) (by kernel_rfl) (fun _ _ _ h => h) hHeld (by rfl) (fun wx hSx => take_row _ _ rfl b (off + k * 10) rfl (elA 11 C19 k) _ (row_range hSx hbl HCx.out) Tryd.underlying72 rfl (by rw [elA_size]; exact rz11)) ?_
      (try simp only [Act.put, putA, putB, putC])
      refine ord_take (i := 5) (preB 6 6) ?_ rfl (by kernel_rfl) (by kernel_rfl) (by kernel_rfl) (by kernel_rfl) (fun _ _ _ h => h) hHeld (by rfl) (fun wx hSx => ?_) ?_
      rotate_left
      · (unfold SB at hSx; go_simp; (try with_reducible rfl))
      (try simp only [Act.put, putA, putB, putC])
      refine ord_take (i := 6) (preB 7 5) ?_ rfl (by kernel_rfl) (by kernel_rfl) (by kernel_rfl) (by kernel_rfl) (fun _ _ _ h => h) hHeld (by rfl) (fun wx hSx => ?_) ?_
      rotate_left
      · (unfold SB at hSx; go_simp; (try with_reducible rfl))
      (try simp only [Act.put, putA, putB, putC])
      refine ord_take (i := 7) (preB 8 4) ?_ rfl (by kernel_rfl) (by kernel_rfl) (by kernel_rfl) (by kernel_rfl) (fun _ _ _ h => h) hHeld (by rfl) (fun wx hSx => ?_) ?_
      rotate_left
      · (unfold SB at hSx; go_simp; (try with_reducible rfl))
      (try simp only [Act.put, putA, putB, putC])
      refine ord_take (i := 8) (preB 9 3) ?_ rfl (by kernel_rfl) (by kernel_rfl) (by kernel_rfl) (by kernel_rfl) (fun _ _ _ h => h) hHeld (by rfl) (fun wx hSx => ?_) ?_
      rotate_left
      · (unfold SB at hSx; go_simp; (try with_reducible rfl))
      (try simp only [Act.put, putA, putB, putC])
      refine ord_take (i := 9) (preB 10 2) (.agg (elA 11 D19 k)) rfl (by kernel_rfl) (by kernel_rfl) (by kernel_rfl) (by kernel_rfl) (fun _ _ _ h => h) hHeld (by rfl) (fun wx hSx => take_row _ _ rfl b' (off' + k * 10) rfl (elA 11 D19 k) _ (row_range hSx hbl' HCy.out) Tryd.underlying72 rfl (by rw [elA_size]; exact rz11)) ?_
      (try simp only [Act.put, putA, putB, putC])
      refine wpAnyH_ready (rs := [10]) (by kernel_rfl) (by simp) ?_
      refine ord_run (i := 10) (preB 11 1) rfl (by kernel_rfl) (by rfl) (fun K hK => ?_) AllReadyH.nil
      go_simp
      go_wp2_with (go_at_call 46; refine (sm_entry _ EK.out _ (elA 11 C19 k) (elA 11 D19 k) (EX.out.below (by (repeat (first | (with_reducible first | exact Below.refl _ _ | assumption | refine Below.drew ?_) | ((with_reducible first | refine Below.alloc ?_ ?_ _ | refine Below.setCell ?_ ?_ _); rotate_left; (first | omega | (simp <;> omega))))))) (EY.out.below (by (repeat (first | (with_reducible first | exact Below.refl _ _ | assumption | refine Below.drew ?_) | ((with_reducible first | refine Below.alloc ?_ ?_ _ | refine Below.setCell ?_ ?_ _); rotate_left; (first | omega | (simp <;> omega)))))))).mono ?_; rintro r v1 ⟨rfl, hb⟩; have hbS := hb)
      refine hK.out _ _ ?_ (fun hHeld => ?_)
      · (repeat (first | (with_reducible first | exact SB.refl | exact hHeld | refine SB.drew ?_ | refine SB.drewN ?_ _) | ((with_reducible first | refine SB.alloc ?_ ?_ _ | refine SB.below ?_ hbS ?_ | refine SB.below ?_ hbS1 ?_ | refine SB.below ?_ hbS2 ?_ | refine SB.below ?_ hbS3 ?_ | refine SB.below ?_ hbS4 ?_); rotate_left; (first | omega | (simp <;> omega))) | ((with_reducible refine SB.setCell ?_ ?_ _); rotate_left; (focus (first | (simp; done) | (right; first | omega | (simp <;> omega))))) | (with_reducible refine SB.undrew ?_) | ((with_reducible refine SB.congr ?_ ?_); rotate_left; (focus (simp; done))) | ((with_reducible refine SB.realloc ?_ ?_ ?_); rotate_left; (focus (simp; done)); (focus (simp; done)))))
      clear hK K
      (try simp only [Act.put, putA, putB, putC])
      refine ord_take (i := 11) (preB 12 0) ?_ rfl (by kernel_rfl) (by kernel_rfl) (by kernel_rfl) (by kernel_rfl) (fun _ _ _ h => h) hHeld (by rfl) (fun wx hSx => ?_) ?_
      rotate_left
      · (unfold SB at hSx; go_simp; (try with_reducible rfl))
      (try simp only [Act.put, putA, putB, putC])
      refine wpAnyH_done (by kernel_rfl) ?_ _
      go_wp2_with fail
      go_roundw
      case rel => exact ⟨k + 1, HLT.out, by go_num, H0.out.trans (Below.trans (by (repeat (first | (with_reducible first | exact Below.refl _ _ | assumption | refine Below.drew ?_) | ((with_reducible first | refine Below.alloc ?_ ?_ _ | refine Below.setCell ?_ ?_ _); rotate_left; (first | omega | (simp <;> omega)))))) (hb.mono (by have := H0.out.size; simpa using this)))⟩
      case measure => have := HLT.out; simp [intOf]; omega
    · obtain rfl : k = n19 := by omega
      clear hlt hkn
      rename World => wa
      have Qwa := hide Qwr.out
      go_wp2_with fail
      go_loopw [6] (fun v wr => SmI2 n20 wa v wr) (fun v _ => n20 - (intOf v).toNat)
      case atStart => exact ⟨0, by omega, rfl, by (repeat (first | (with_reducible first | exact Below.refl _ _ | assumption | refine Below.drew ?_) | ((with_reducible first | refine Below.alloc ?_ ?_ _ | refine Below.setCell ?_ ?_ _); rotate_left; (first | omega | (simp <;> omega)))))⟩
      case round => as_aux_lemma =>
        obtain ⟨k, hkn, rfl, hb⟩ := hrel
        have H0 := hide hb
        have Qwr := hide (Qwa.out.trans (hb.mono Qwa.out.size))
        have q6B : Below wa.heap.size wa wr := (by refine Below.trans ?_ (hb.mono (by first | omega | (simp <;> omega))); (repeat (first | (with_reducible first | exact Below.refl _ _ | assumption | refine Below.drew ?_) | ((with_reducible first | refine Below.alloc ?_ ?_ _ | refine Below.setCell ?_ ?_ _); rotate_left; (first | omega | (simp <;> omega))))))
        have q6z := hb.size
        try simp at q6z
        have q6t : wa.heap.size ≤ wr.heap.size := (by omega)
        have q6s0 : w.heap.size < wr.heap.size := (by omega)
        have q6n0_0 : ¬ wr.heap.size = w.heap.size := (by omega)
        have q6n0_1 : ¬ wr.heap.size + 1 = w.heap.size := (by omega)
        have q6n0_2 : ¬ wr.heap.size + 2 = w.heap.size := (by omega)
        have q6c0_19 := hb.cell (p := ⟨w.heap.size, 19, none⟩) (by first | omega | (simp <;> omega))
        simp [go_sem, *] at q6c0_19
        have q6c0_20 := hb.cell (p := ⟨w.heap.size, 20, none⟩) (by first | omega | (simp <;> omega))
        simp [go_sem, *] at q6c0_20
        have q6c0_21 := hb.cell (p := ⟨w.heap.size, 21, none⟩) (by first | omega | (simp <;> omega))
        simp [go_sem, *] at q6c0_21
        have q6f0 := fun o => hb.frozen (p := ⟨w.heap.size, o, none⟩) (by first | omega | (simp <;> omega))
        simp [go_sem, *] at q6f0
        have q6s1 : w.heap.size + 1 < wr.heap.size := (by omega)
        have q6n1_0 : ¬ wr.heap.size = w.heap.size + 1 := (by omega)
        have q6n1_1 : ¬ wr.heap.size + 1 = w.heap.size + 1 := (by omega)
        have q6n1_2 : ¬ wr.heap.size + 2 = w.heap.size + 1 := (by omega)
        have q6c1_19 := hb.cell (p := ⟨w.heap.size + 1, 19, none⟩) (by first | omega | (simp <;> omega))
        simp [go_sem, *] at q6c1_19
        have q6c1_20 := hb.cell (p := ⟨w.heap.size + 1, 20, none⟩) (by first | omega | (simp <;> omega))
        simp [go_sem, *] at q6c1_20
        have q6c1_21 := hb.cell (p := ⟨w.heap.size + 1, 21, none⟩) (by first | omega | (simp <;> omega))
        simp [go_sem, *] at q6c1_21
        have q6f1 := fun o => hb.frozen (p := ⟨w.heap.size + 1, o, none⟩) (by first | omega | (simp <;> omega))
        simp [go_sem, *] at q6f1
        have q6o : ∀ b o, b < wa.heap.size → wr.cell? ⟨b, o, none⟩ = wa.cell? ⟨b, o, none⟩ := fun b o h => q6B.cell (p := ⟨b, o, none⟩) h
        clear hb q5o q5f1 q5c1_21 q5c1_20 q5c1_19 q5s1 q5f0 q5c0_21 q5c0_20 q5c0_19 q5s0 q5z q5B
        by_cases hlt : k < n20
        · have hm : (k : Int) < n20 := by omega
          have HLT := hide hlt
          have hk0 : (0 : Int) ≤ k := by omega
          have HA := hide (HA20.out.below Qwr.out)
          have HB := hide (HB20.out.below Qwr.out)
          obtain ⟨b, off, rfl, hbl, hc⟩ := HA.out.cells (by decide) hlt
          obtain ⟨b', off', rfl, hbl', hd⟩ := HB.out.cells (by decide) hlt
          obtain ⟨u0, q0, e0, _⟩ := rd_int (HA.out.rd k 0 hlt (by decide)) (HK20.out.wt k 0 hlt (by decide))
          have c0 : wr.cell? ⟨b, off + k * 6, none⟩ = some (.int .i64 u0) := by have t := hc 0 _ (elA_at 12 C20 k 0 (by decide)); rw [e0] at t; exact t
          have d0 : wr.cell? ⟨b', off' + k * 6, none⟩ = some (.int .i64 u0) := by have t := hd 0 _ (elA_at 12 D20 k 0 (by decide)); rw [rd_lfv (HB.out.rd k 0 hlt (by decide)) q0] at t; exact t
          clear q0 e0
          obtain ⟨u1, q1, e1, _⟩ := rd_int (HA.out.rd k 1 hlt (by decide)) (HK20.out.wt k 1 hlt (by decide))
          have c1 : wr.cell? ⟨b, off + k * 6 + 1, none⟩ = some (.int .i64 u1) := by have t := hc 1 _ (elA_at 12 C20 k 1 (by decide)); rw [e1] at t; exact t
          have d1 : wr.cell? ⟨b', off' + k * 6 + 1, none⟩ = some (.int .i64 u1) := by have t := hd 1 _ (elA_at 12 D20 k 1 (by decide)); rw [rd_lfv (HB.out.rd k 1 hlt (by decide)) q1] at t; exact t
          clear q1 e1
          obtain ⟨u2, q2, e2, _⟩ := rd_int (HA.out.rd k 2 hlt (by decide)) (HK20.out.wt k 2 hlt (by decide))
          have c2 : wr.cell? ⟨b, off + k * 6 + 2, none⟩ = some (.int .i64 u2) := by have t := hc 2 _ (elA_at 12 C20 k 2 (by decide)); rw [e2] at t; exact t
          have d2 : wr.cell? ⟨b', off' + k * 6 + 2, none⟩ = some (.int .i64 u2) := by have t := hd 2 _ (elA_at 12 D20 k 2 (by decide)); rw [rd_lfv (HB.out.rd k 2 hlt (by decide)) q2] at t; exact t
          clear q2 e2
          obtain ⟨u3, q3, e3, _⟩ := rd_int (HA.out.rd k 3 hlt (by decide)) (HK20.out.wt k 3 hlt (by decide))
          have c3 : wr.cell? ⟨b, off + k * 6 + 3, none⟩ = some (.int .i64 u3) := by have t := hc 3 _ (elA_at 12 C20 k 3 (by decide)); rw [e3] at t; exact t
          have d3 : wr.cell? ⟨b', off' + k * 6 + 3, none⟩ = some (.int .i64 u3) := by have t := hd 3 _ (elA_at 12 D20 k 3 (by decide)); rw [rd_lfv (HB.out.rd k 3 hlt (by decide)) q3] at t; exact t
          clear q3 e3
          obtain ⟨u4, q4, e4, _⟩ := rd_int (HA.out.rd k 4 hlt (by decide)) (HK20.out.wt k 4 hlt (by decide))
          have c4 : wr.cell? ⟨b, off + k * 6 + 4, none⟩ = some (.int .i64 u4) := by have t := hc 4 _ (elA_at 12 C20 k 4 (by decide)); rw [e4] at t; exact t
          have d4 : wr.cell? ⟨b', off' + k * 6 + 4, none⟩ = some (.int .i64 u4) := by have t := hd 4 _ (elA_at 12 D20 k 4 (by decide)); rw [rd_lfv (HB.out.rd k 4 hlt (by decide)) q4] at t; exact t
          clear q4 e4
          obtain ⟨u5, q5, e5, _⟩ := rd_str (HA.out.rd k 5 hlt (by decide)) (HK20.out.wt k 5 hlt (by decide))
          have c5 : wr.cell? ⟨b, off + k * 6 + 5, none⟩ = some (.string u5) := by have t := hc 5 _ (elA_at 12 C20 k 5 (by decide)); rw [e5] at t; exact t
          have d5 : wr.cell? ⟨b', off' + k * 6 + 5, none⟩ = some (.string u5) := by have t := hd 5 _ (elA_at 12 D20 k 5 (by decide)); rw [rd_lfv (HB.out.rd k 5 hlt (by decide)) q5] at t; exact t
          clear q5 e5
          clear hc hd hlt hkn
          go_wp2_with fail
          refine ord_start (SB (wr.heap.size) [] _) 11 (preB 0 11) (by kernel_rfl) (by kernel_rfl) (by kernel_rfl) SB.refl.drew (fun hHeld => ?_)
          refine ord_take (i := 0) (preB 1 10) ?_ rfl (by kernel_rfl) (by kernel_rfl) (by kernel_rfl) (by kernel_rfl) (fun _ _ _ h => h) hHeld (by rfl) (fun wx hSx => ?_) ?_
          rotate_left
          · (unfold SB at hSx; go_simp; (try with_reducible rfl))
          (try simp only [Act.put, putA, putB, putC])
          refine ord_take (i := 1) (preB 2 9) ?_ rfl (by kernel_rfl) (by kernel_rfl) (by kernel_rfl) (by kernel_rfl) (fun _ _ _ h => h) hHeld (by rfl) (fun wx hSx => ?_) ?_
          rotate_left
          · (unfold SB at hSx; go_simp; (try with_reducible rfl))
          (try simp only [Act.put, putA, putB, putC])
          refine ord_take (i := 2) (preB 3 8) ?_ rfl (by kernel_rfl) (by kernel_rfl) (by kernel_rfl) (by kernel_rfl) (fun _ _ _ h => h) hHeld (by rfl) (fun wx hSx => ?_) ?_
          rotate_left
          · (unfold SB at hSx; go_simp; (try with_reducible rfl))
          (try simp only [Act.put, putA, putB, putC])
          refine ord_take (i := 3) (preB 4 7) ?_ rfl (by kernel_rfl) (by kernel_rfl) (by kernel_rfl) (by kernel_rfl) (fun _ _ _ h => h) hHeld (by rfl) (fun wx hSx => ?_) ?_
          rotate_left
          · (unfold SB at hSx; go_simp; (try with_reducible rfl))
          (try simp only [Act.put, putA, putB, putC])
          refine ord_take (i := 4) (preB 5 6) ?_ rfl (by kernel_rfl) (by kernel_rfl) (by kernel_rfl) (by kernel_rfl) (fun _ _ _ h => h) hHeld (by rfl) (fun wx hSx => ?_) ?_
          rotate_left
          · (unfold SB at hSx; go_simp; (try with_reducible rfl))
          (try simp only [Act.put, putA, putB, putC])
          refine ord_take (i := 5) (preB 6 5) ?_ rfl (by kernel_rfl) (by kernel_rfl) (by kernel_rfl) (by kernel_rfl) (fun _ _ _ h => h) hHeld (by rfl) (fun wx hSx => ?_) ?_
          rotate_left
          · (unfold SB at hSx; go_simp; (try with_reducible rfl))
          (try simp only [Act.put, putA, putB, putC])
          refine ord_take (i := 6) (preB 7 4) ?_ rfl (by kernel_rfl) (by kernel_rfl) (by kernel_rfl) (by kernel_rfl) (fun _ _ _ h => h) hHeld (by rfl) (fun wx hSx => ?_) ?_
          rotate_left
          · (unfold SB at hSx; go_simp; (try with_reducible rfl))
          (try simp only [Act.put, putA, putB, putC])
          refine ord_take (i := 7) (preB 8 3) ?_ rfl (by kernel_rfl) (by kernel_rfl) (by kernel_rfl) (by kernel_rfl) (fun _ _ _ h => h) hHeld (by rfl) (fun wx hSx => ?_) ?_
          rotate_left
          · (unfold SB at hSx; go_simp; (try with_reducible rfl))
          (try simp only [Act.put, putA, putB, putC])
          refine ord_take (i := 8) (preB 9 2) ?_ rfl (by kernel_rfl) (by kernel_rfl) (by kernel_rfl) (by kernel_rfl) (fun _ _ _ h => h) hHeld (by rfl) (fun wx hSx => ?_) ?_
          rotate_left
          · (unfold SB at hSx; go_simp; (try with_reducible rfl))
          (try simp only [Act.put, putA, putB, putC])
          refine ord_take (i := 9) (preB 10 1) ?_ rfl (by kernel_rfl) (by kernel_rfl) (by kernel_rfl) (by kernel_rfl) (fun _ _ _ h => h) hHeld (by rfl) (fun wx hSx => ?_) ?_
          rotate_left
          · (unfold SB at hSx; go_simp; (try with_reducible rfl))
          (try simp only [Act.put, putA, putB, putC])
          refine ord_take (i := 10) (preB 11 0) ?_ rfl (by kernel_rfl) (by kernel_rfl) (by kernel_rfl) (by kernel_rfl) (fun _ _ _ h => h) hHeld (by rfl) (fun wx hSx => ?_) ?_
          rotate_left
          · (unfold SB at hSx; go_simp; (try with_reducible rfl))
          (try simp only [Act.put, putA, putB, putC])
          refine wpAnyH_done (by kernel_rfl) ?_ _
          go_wp2_with fail
          go_roundw
          case rel => exact ⟨k + 1, HLT.out, by go_num, H0.out.drew⟩
          case measure => have := HLT.out; simp [intOf]; omega
        · obtain rfl : k = n20 := by omega
          clear hlt hkn
          rename World => wb
          have Qwb := hide Qwr.out
          go_wp2_with fail
          go_loopw [7] (fun v wr => SmI2 n21 wb v wr) (fun v _ => n21 - (intOf v).toNat)
          case atStart => exact ⟨0, by omega, rfl, by (repeat (first | (with_reducible first | exact Below.refl _ _ | assumption | refine Below.drew ?_) | ((with_reducible first | refine Below.alloc ?_ ?_ _ | refine Below.setCell ?_ ?_ _); rotate_left; (first | omega | (simp <;> omega)))))⟩
          case round => as_aux_lemma =>
            obtain ⟨k, hkn, rfl, hb⟩ := hrel
            have H0 := hide hb
            have Qwr := hide (Qwb.out.trans (hb.mono Qwb.out.size))
            have q7B : Below wb.heap.size wb wr := (by refine Below.trans ?_ (hb.mono (by first | omega | (simp <;> omega))); (repeat (first | (with_reducible first | exact Below.refl _ _ | assumption | refine Below.drew ?_) | ((with_reducible first | refine Below.alloc ?_ ?_ _ | refine Below.setCell ?_ ?_ _); rotate_left; (first | omega | (simp <;> omega))))))
            have q7z := hb.size
            try simp at q7z
            have q7t : wb.heap.size ≤ wr.heap.size := (by omega)
            have q7s0 : w.heap.size < wr.heap.size := (by omega)
            have q7n0_0 : ¬ wr.heap.size = w.heap.size := (by omega)
            have q7n0_1 : ¬ wr.heap.size + 1 = w.heap.size := (by omega)
            have q7n0_2 : ¬ wr.heap.size + 2 = w.heap.size := (by omega)
            have q7c0_19 := hb.cell (p := ⟨w.heap.size, 19, none⟩) (by first | omega | (simp <;> omega))
            simp [go_sem, *] at q7c0_19
            have q7c0_20 := hb.cell (p := ⟨w.heap.size, 20, none⟩) (by first | omega | (simp <;> omega))
            simp [go_sem, *] at q7c0_20
            have q7c0_21 := hb.cell (p := ⟨w.heap.size, 21, none⟩) (by first | omega | (simp <;> omega))
            simp [go_sem, *] at q7c0_21
            have q7f0 := fun o => hb.frozen (p := ⟨w.heap.size, o, none⟩) (by first | omega | (simp <;> omega))
            simp [go_sem, *] at q7f0
            have q7s1 : w.heap.size + 1 < wr.heap.size := (by omega)
            have q7n1_0 : ¬ wr.heap.size = w.heap.size + 1 := (by omega)
            have q7n1_1 : ¬ wr.heap.size + 1 = w.heap.size + 1 := (by omega)
            have q7n1_2 : ¬ wr.heap.size + 2 = w.heap.size + 1 := (by omega)
            have q7c1_19 := hb.cell (p := ⟨w.heap.size + 1, 19, none⟩) (by first | omega | (simp <;> omega))
            simp [go_sem, *] at q7c1_19
            have q7c1_20 := hb.cell (p := ⟨w.heap.size + 1, 20, none⟩) (by first | omega | (simp <;> omega))
            simp [go_sem, *] at q7c1_20
            have q7c1_21 := hb.cell (p := ⟨w.heap.size + 1, 21, none⟩) (by first | omega | (simp <;> omega))
            simp [go_sem, *] at q7c1_21
            have q7f1 := fun o => hb.frozen (p := ⟨w.heap.size + 1, o, none⟩) (by first | omega | (simp <;> omega))
            simp [go_sem, *] at q7f1
            have q7o : ∀ b o, b < wb.heap.size → wr.cell? ⟨b, o, none⟩ = wb.cell? ⟨b, o, none⟩ := fun b o h => q7B.cell (p := ⟨b, o, none⟩) h
            clear hb q6o q6f1 q6c1_21 q6c1_20 q6c1_19 q6s1 q6f0 q6c0_21 q6c0_20 q6c0_19 q6s0 q6z q6B
            by_cases hlt : k < n21
            · have hm : (k : Int) < n21 := by omega
              have HLT := hide hlt
              have hk0 : (0 : Int) ≤ k := by omega
              have HA := hide (HA21.out.below Qwr.out)
              have HB := hide (HB21.out.below Qwr.out)
              obtain ⟨b, off, rfl, hbl, hc⟩ := HA.out.cells (by decide) hlt
              obtain ⟨b', off', rfl, hbl', hd⟩ := HB.out.cells (by decide) hlt
              obtain ⟨u0, q0, e0, _⟩ := rd_int (HA.out.rd k 0 hlt (by decide)) (HK21.out.wt k 0 hlt (by decide))
              have c0 : wr.cell? ⟨b, off + k * 7, none⟩ = some (.int .i64 u0) := by have t := hc 0 _ (elA_at 13 C21 k 0 (by decide)); rw [e0] at t; exact t
              have d0 : wr.cell? ⟨b', off' + k * 7, none⟩ = some (.int .i64 u0) := by have t := hd 0 _ (elA_at 13 D21 k 0 (by decide)); rw [rd_lfv (HB.out.rd k 0 hlt (by decide)) q0] at t; exact t
              clear q0 e0
              obtain ⟨u1, q1, e1, _⟩ := rd_int (HA.out.rd k 1 hlt (by decide)) (HK21.out.wt k 1 hlt (by decide))
              have c1 : wr.cell? ⟨b, off + k * 7 + 1, none⟩ = some (.int .i64 u1) := by have t := hc 1 _ (elA_at 13 C21 k 1 (by decide)); rw [e1] at t; exact t
              have d1 : wr.cell? ⟨b', off' + k * 7 + 1, none⟩ = some (.int .i64 u1) := by have t := hd 1 _ (elA_at 13 D21 k 1 (by decide)); rw [rd_lfv (HB.out.rd k 1 hlt (by decide)) q1] at t; exact t
              clear q1 e1
              obtain ⟨u2, q2, e2, _⟩ := rd_int (HA.out.rd k 2 hlt (by decide)) (HK21.out.wt k 2 hlt (by decide))
              have c2 : wr.cell? ⟨b, off + k * 7 + 2, none⟩ = some (.int .i64 u2) := by have t := hc 2 _ (elA_at 13 C21 k 2 (by decide)); rw [e2] at t; exact t
              have d2 : wr.cell? ⟨b', off' + k * 7 + 2, none⟩ = some (.int .i64 u2) := by have t := hd 2 _ (elA_at 13 D21 k 2 (by decide)); rw [rd_lfv (HB.out.rd k 2 hlt (by decide)) q2] at t; exact t
              clear q2 e2
              obtain ⟨u3, q3, e3, _⟩ := rd_int (HA.out.rd k 3 hlt (by decide)) (HK21.out.wt k 3 hlt (by decide))
              have c3 : wr.cell? ⟨b, off + k * 7 + 3, none⟩ = some (.int .i64 u3) := by have t := hc 3 _ (elA_at 13 C21 k 3 (by decide)); rw [e3] at t; exact t
              have d3 : wr.cell? ⟨b', off' + k * 7 + 3, none⟩ = some (.int .i64 u3) := by have t := hd 3 _ (elA_at 13 D21 k 3 (by decide)); rw [rd_lfv (HB.out.rd k 3 hlt (by decide)) q3] at t; exact t
              clear q3 e3
              obtain ⟨u4, q4, e4, _⟩ := rd_int (HA.out.rd k 4 hlt (by decide)) (HK21.out.wt k 4 hlt (by decide))
              have c4 : wr.cell? ⟨b, off + k * 7 + 4, none⟩ = some (.int .i64 u4) := by have t := hc 4 _ (elA_at 13 C21 k 4 (by decide)); rw [e4] at t; exact t
              have d4 : wr.cell? ⟨b', off' + k * 7 + 4, none⟩ = some (.int .i64 u4) := by have t := hd 4 _ (elA_at 13 D21 k 4 (by decide)); rw [rd_lfv (HB.out.rd k 4 hlt (by decide)) q4] at t; exact t
              clear q4 e4
              obtain ⟨u5, q5, e5, _⟩ := rd_int (HA.out.rd k 5 hlt (by decide)) (HK21.out.wt k 5 hlt (by decide))
              have c5 : wr.cell? ⟨b, off + k * 7 + 5, none⟩ = some (.int .i64 u5) := by have t := hc 5 _ (elA_at 13 C21 k 5 (by decide)); rw [e5] at t; exact t
              have d5 : wr.cell? ⟨b', off' + k * 7 + 5, none⟩ = some (.int .i64 u5) := by have t := hd 5 _ (elA_at 13 D21 k 5 (by decide)); rw [rd_lfv (HB.out.rd k 5 hlt (by decide)) q5] at t; exact t
              clear q5 e5
              obtain ⟨u6, q6, e6, _⟩ := rd_str (HA.out.rd k 6 hlt (by decide)) (HK21.out.wt k 6 hlt (by decide))
              have c6 : wr.cell? ⟨b, off + k * 7 + 6, none⟩ = some (.string u6) := by have t := hc 6 _ (elA_at 13 C21 k 6 (by decide)); rw [e6] at t; exact t
              have d6 : wr.cell? ⟨b', off' + k * 7 + 6, none⟩ = some (.string u6) := by have t := hd 6 _ (elA_at 13 D21 k 6 (by decide)); rw [rd_lfv (HB.out.rd k 6 hlt (by decide)) q6] at t; exact t
              clear q6 e6
              clear hc hd hlt hkn
              go_wp2_with fail
              refine ord_start (SB (wr.heap.size) [] _) 11 (preB 0 11) (by kernel_rfl) (by kernel_rfl) (by kernel_rfl) SB.refl.drew (fun hHeld => ?_)
              refine ord_take (i := 0) (preB 1 10) ?_ rfl (by kernel_rfl) (by kernel_rfl) (by kernel_rfl) (by kernel_rfl) (fun _ _ _ h => h) hHeld (by rfl) (fun wx hSx => ?_) ?_
              rotate_left
              · (unfold SB at hSx; go_simp; (try with_reducible rfl))
              (try simp only [Act.put, putA, putB, putC])
              refine ord_take (i := 1) (preB 2 9) ?_ rfl (by kernel_rfl) (by kernel_rfl) (by kernel_rfl) (by kernel_rfl) (fun _ _ _ h => h) hHeld (by rfl) (fun wx hSx => ?_) ?_
              rotate_left
              · (unfold SB at hSx; go_simp; (try with_reducible rfl))
              (try simp only [Act.put, putA, putB, putC])
              refine ord_take (i := 2) (preB 3 8) ?_ rfl (by kernel_rfl) (by kernel_rfl) (by kernel_rfl) (by kernel_rfl) (fun _ _ _ h => h) hHeld (by rfl) (fun wx hSx => ?_) ?_
              rotate_left
              · (unfold SB at hSx; go_simp; (try with_reducible rfl))
              (try simp only [Act.put, putA, putB, putC])
              refine ord_take (i := 3) (preB 4 7) ?_ rfl (by kernel_rfl) (by kernel_rfl) (by kernel_rfl) (by kernel_rfl) (fun _ _ _ h => h) hHeld (by rfl) (fun wx hSx => ?_) ?_
              rotate_left
              · (unfold SB at hSx; go_simp; (try with_reducible rfl))
              (try simp only [Act.put, putA, putB, putC])
              refine ord_take (i := 4) (preB 5 6) ?_ rfl (by kernel_rfl) (by kernel_rfl) (by kernel_rfl) (by kernel_rfl) (fun _ _ _ h => h) hHeld (by rfl) (fun wx hSx => ?_) ?_
              rotate_left
              · (unfold SB at hSx; go_simp; (try with_reducible rfl))
              (try simp only [Act.put, putA, putB, putC])
              refine ord_take (i := 5) (preB 6 5) ?_ rfl (by kernel_rfl) (by kernel_rfl) (by kernel_rfl) (by kernel_rfl) (fun _ _ _ h => h) hHeld (by rfl) (fun wx hSx => ?_) ?_
              rotate_left
              · (unfold SB at hSx; go_simp; (try with_reducible rfl))
              (try simp only [Act.put, putA, putB, putC])
              refine ord_take (i := 6) (preB 7 4) ?_ rfl (by kernel_rfl) (by kernel_rfl) (by kernel_rfl) (by kernel_rfl) (fun _ _ _ h => h) hHeld (by rfl) (fun wx hSx => ?_) ?_
              rotate_left
              · (unfold SB at hSx; go_simp; (try with_reducible rfl))
              (try simp only [Act.put, putA, putB, putC])
              refine ord_take (i := 7) (preB 8 3) ?_ rfl (by kernel_rfl) (by kernel_rfl) (by kernel_rfl) (by kernel_rfl) (fun _ _ _ h => h) hHeld (by rfl) (fun wx hSx => ?_) ?_
              rotate_left
              · (unfold SB at hSx; go_simp; (try with_reducible rfl))
              (try simp only [Act.put, putA, putB, putC])
              refine ord_take (i := 8) (preB 9 2) ?_ rfl (by kernel_rfl) (by kernel_rfl) (by kernel_rfl) (by kernel_rfl) (fun _ _ _ h => h) hHeld (by rfl) (fun wx hSx => ?_) ?_
              rotate_left
              · (unfold SB at hSx; go_simp; (try with_reducible rfl))
              (try simp only [Act.put, putA, putB, putC])
              refine ord_take (i := 9) (preB 10 1) ?_ rfl (by kernel_rfl) (by kernel_rfl) (by kernel_rfl) (by kernel_rfl) (fun _ _ _ h => h) hHeld (by rfl) (fun wx hSx => ?_) ?_
              rotate_left
              · (unfold SB at hSx; go_simp; (try with_reducible rfl))
              (try simp only [Act.put, putA, putB, putC])
              refine ord_take (i := 10) (preB 11 0) ?_ rfl (by kernel_rfl) (by kernel_rfl) (by kernel_rfl) (by kernel_rfl) (fun _ _ _ h => h) hHeld (by rfl) (fun wx hSx => ?_) ?_
              rotate_left
              · (unfold SB at hSx; go_simp; (try with_reducible rfl))
              (try simp only [Act.put, putA, putB, putC])
              refine wpAnyH_done (by kernel_rfl) ?_ _
              go_wp2_with fail
              go_roundw
              case rel => exact ⟨k + 1, HLT.out, by go_num, H0.out.drew⟩
              case measure => have := HLT.out; simp [intOf]; omega
            · obtain rfl : k = n21 := by omega
              clear hlt hkn
              rename World => wc
              have Qwc := hide Qwr.out
              go_wp2_with fail
              go_ret
              exact ⟨rfl, Qwc.out⟩
end Go.Proofs.YtdjhkhadjmndoaaDoor
