/- Texts laid together: SmE. -/
import Derived.Test.YtdjhkhadjmndoaaDoorQSmC
import Derived.Test.YtdjhkhadjmndoaaDoorQSmA
import Derived.Test.YtdjhkhadjmndoaaDoorQTrM
namespace Go.Proofs.YtdjhkhadjmndoaaDoor
set_option maxRecDepth 4000
set_option linter.unusedSimpArgs false
set_option linter.unusedVariables false
open Go.RowKit
theorem ext5 {X : Array Value} {o : Nat} {v0 v1 v2 v3 v4 : Value} (h0 : X[o]? = some v0) (h1 : X[o + 1]? = some v1) (h2 : X[o + 2]? = some v2) (h3 : X[o + 3]? = some v3) (h4 : X[o + 4]? = some v4) : X.extract o (o + 5) = #[v0, v1, v2, v3, v4] := by
  have hs : o + 4 < X.size := (Array.getElem?_eq_some_iff.1 h4).1
  apply Array.ext_getElem?
  intro i
  rw [Array.getElem?_extract]
  match i with
  | 0 => rw [if_pos (by omega)]; exact h0
  | 1 => rw [if_pos (by omega)]; exact h1
  | 2 => rw [if_pos (by omega)]; exact h2
  | 3 => rw [if_pos (by omega)]; exact h3
  | 4 => rw [if_pos (by omega)]; exact h4
  | i + 5 => rw [if_neg (by omega)]; simp
theorem el_sub5 {S : Nat → Prop} {w : World} {e o : Nat} {ck : Nat → Tr} {X : Array Value} {v0 v1 v2 v3 v4 : Value} (h : ElT S w e ck X) (hl : o + 5 ≤ (tbl e).length) (h0 : X[o]? = some v0) (h1 : X[o + 1]? = some v1) (h2 : X[o + 2]? = some v2) (h3 : X[o + 3]? = some v3) (h4 : X[o + 4]? = some v4) : ElT S w 14 (fun j => ck (o + j)) #[v0, v1, v2, v3, v4] := by
  have := el_sub (e' := 14) h hl
  rw [← ext5 h0 h1 h2 h3 h4]
  exact this
set_option maxRecDepth 20000 in
set_option maxHeartbeats 16000000 in
theorem sm_product (ck : Nat → Tr) (hw : KnOK 8 ck) (w : World) (X Y : Array Value) (hX : ElT (Old w) w 8 ck X) (hY : ElT (Old w) w 8 ck Y) : Calls Tryd.prog 18 #[.agg X, .agg Y] w fun r w' => r = .returned (.bool true) ∧ Below w.heap.size w w' := by
  have HXS := hide (show X.size = 19 from hX.size)
  have HYS := hide (show Y.size = 19 from hY.size)
  obtain ⟨z0, q0, e0, _⟩ := rd_str (hX.rd 0 (by decide)) (hw 0 (by decide))
  have gX0 : X[0]? = some (.string z0) := at_eq HXS.out (by decide) e0
  have gY0 : Y[0]? = some (.string z0) := at_eq HYS.out (by decide) (rd_lfv (hY.rd 0 (by decide)) q0)
  clear q0 e0
  obtain ⟨z1, q1, e1, _⟩ := rd_str (hX.rd 1 (by decide)) (hw 1 (by decide))
  have gX1 : X[1]? = some (.string z1) := at_eq HXS.out (by decide) e1
  have gY1 : Y[1]? = some (.string z1) := at_eq HYS.out (by decide) (rd_lfv (hY.rd 1 (by decide)) q1)
  clear q1 e1
  obtain ⟨z2, q2, e2, _⟩ := rd_str (hX.rd 2 (by decide)) (hw 2 (by decide))
  have gX2 : X[2]? = some (.string z2) := at_eq HXS.out (by decide) e2
  have gY2 : Y[2]? = some (.string z2) := at_eq HYS.out (by decide) (rd_lfv (hY.rd 2 (by decide)) q2)
  clear q2 e2
  obtain ⟨z3, q3, e3, _⟩ := rd_int (hX.rd 3 (by decide)) (hw 3 (by decide))
  have gX3 : X[3]? = some (.int .i64 z3) := at_eq HXS.out (by decide) e3
  have gY3 : Y[3]? = some (.int .i64 z3) := at_eq HYS.out (by decide) (rd_lfv (hY.rd 3 (by decide)) q3)
  clear q3 e3
  obtain ⟨z4, q4, e4, _⟩ := rd_int (hX.rd 4 (by decide)) (hw 4 (by decide))
  have gX4 : X[4]? = some (.int .i64 z4) := at_eq HXS.out (by decide) e4
  have gY4 : Y[4]? = some (.int .i64 z4) := at_eq HYS.out (by decide) (rd_lfv (hY.rd 4 (by decide)) q4)
  clear q4 e4
  obtain ⟨z5, q5, e5, _⟩ := rd_int (hX.rd 5 (by decide)) (hw 5 (by decide))
  have gX5 : X[5]? = some (.int .i64 z5) := at_eq HXS.out (by decide) e5
  have gY5 : Y[5]? = some (.int .i64 z5) := at_eq HYS.out (by decide) (rd_lfv (hY.rd 5 (by decide)) q5)
  clear q5 e5
  obtain ⟨z6, q6, e6, _⟩ := rd_int (hX.rd 6 (by decide)) (hw 6 (by decide))
  have gX6 : X[6]? = some (.int .i64 z6) := at_eq HXS.out (by decide) e6
  have gY6 : Y[6]? = some (.int .i64 z6) := at_eq HYS.out (by decide) (rd_lfv (hY.rd 6 (by decide)) q6)
  clear q6 e6
  obtain ⟨n7, c7, hc7, hk7, A7, cap7, C7, e7, _, hA7⟩ := rd_row (e := 4) (hX.rd 7 (by decide)) (hw 7 (by decide))
  have g7 := hY.rd 7 (by decide)
  rw [hc7] at g7
  obtain ⟨B7, cbp7, D7, f7, _, hB7, hD7⟩ := g7
  have gX7 : X[7]? = some (.slice A7 n7 cap7) := at_eq HXS.out (by decide) e7
  have gY7 : Y[7]? = some (.slice B7 n7 cbp7) := at_eq HYS.out (by decide) f7
  have HA7 := hide hA7
  have HB7 := hide (show RowT (Old w) w 4 B7 n7 c7 D7 from ⟨hB7, hD7⟩)
  have HK7 := hide hk7
  clear hA7 hB7 hD7 hk7 hc7 e7 f7
  obtain ⟨z8, q8, e8⟩ := rd_bool (hX.rd 8 (by decide)) (hw 8 (by decide))
  have gX8 : X[8]? = some (.bool z8) := at_eq HXS.out (by decide) e8
  have gY8 : Y[8]? = some (.bool z8) := at_eq HYS.out (by decide) (rd_lfv (hY.rd 8 (by decide)) q8)
  clear q8 e8
  obtain ⟨z9, q9, e9, _⟩ := rd_int (hX.rd 9 (by decide)) (hw 9 (by decide))
  have gX9 : X[9]? = some (.int .i64 z9) := at_eq HXS.out (by decide) e9
  have gY9 : Y[9]? = some (.int .i64 z9) := at_eq HYS.out (by decide) (rd_lfv (hY.rd 9 (by decide)) q9)
  clear q9 e9
  obtain ⟨z10, q10, e10, _⟩ := rd_int (hX.rd 10 (by decide)) (hw 10 (by decide))
  have gX10 : X[10]? = some (.int .i64 z10) := at_eq HXS.out (by decide) e10
  have gY10 : Y[10]? = some (.int .i64 z10) := at_eq HYS.out (by decide) (rd_lfv (hY.rd 10 (by decide)) q10)
  clear q10 e10
  obtain ⟨z11, q11, e11⟩ := rd_bool (hX.rd 11 (by decide)) (hw 11 (by decide))
  have gX11 : X[11]? = some (.bool z11) := at_eq HXS.out (by decide) e11
  have gY11 : Y[11]? = some (.bool z11) := at_eq HYS.out (by decide) (rd_lfv (hY.rd 11 (by decide)) q11)
  clear q11 e11
  obtain ⟨n12, c12, hc12, hk12, A12, cap12, C12, e12, _, hA12⟩ := rd_row (e := 4) (hX.rd 12 (by decide)) (hw 12 (by decide))
  have g12 := hY.rd 12 (by decide)
  rw [hc12] at g12
  obtain ⟨B12, cbp12, D12, f12, _, hB12, hD12⟩ := g12
  have gX12 : X[12]? = some (.slice A12 n12 cap12) := at_eq HXS.out (by decide) e12
  have gY12 : Y[12]? = some (.slice B12 n12 cbp12) := at_eq HYS.out (by decide) f12
  have HA12 := hide hA12
  have HB12 := hide (show RowT (Old w) w 4 B12 n12 c12 D12 from ⟨hB12, hD12⟩)
  have HK12 := hide hk12
  clear hA12 hB12 hD12 hk12 hc12 e12 f12
  obtain ⟨z13, q13, e13⟩ := rd_bool (hX.rd 13 (by decide)) (hw 13 (by decide))
  have gX13 : X[13]? = some (.bool z13) := at_eq HXS.out (by decide) e13
  have gY13 : Y[13]? = some (.bool z13) := at_eq HYS.out (by decide) (rd_lfv (hY.rd 13 (by decide)) q13)
  clear q13 e13
  obtain ⟨z14, q14, e14, _⟩ := rd_int (hX.rd 14 (by decide)) (hw 14 (by decide))
  have gX14 : X[14]? = some (.int .i64 z14) := at_eq HXS.out (by decide) e14
  have gY14 : Y[14]? = some (.int .i64 z14) := at_eq HYS.out (by decide) (rd_lfv (hY.rd 14 (by decide)) q14)
  clear q14 e14
  obtain ⟨z15, q15, e15, _⟩ := rd_int (hX.rd 15 (by decide)) (hw 15 (by decide))
  have gX15 : X[15]? = some (.int .i64 z15) := at_eq HXS.out (by decide) e15
  have gY15 : Y[15]? = some (.int .i64 z15) := at_eq HYS.out (by decide) (rd_lfv (hY.rd 15 (by decide)) q15)
  clear q15 e15
  obtain ⟨z16, q16, e16⟩ := rd_bool (hX.rd 16 (by decide)) (hw 16 (by decide))
  have gX16 : X[16]? = some (.bool z16) := at_eq HXS.out (by decide) e16
  have gY16 : Y[16]? = some (.bool z16) := at_eq HYS.out (by decide) (rd_lfv (hY.rd 16 (by decide)) q16)
  clear q16 e16
  obtain ⟨n17, c17, hc17, hk17, A17, cap17, C17, e17, _, hA17⟩ := rd_row (e := 6) (hX.rd 17 (by decide)) (hw 17 (by decide))
  have g17 := hY.rd 17 (by decide)
  rw [hc17] at g17
  obtain ⟨B17, cbp17, D17, f17, _, hB17, hD17⟩ := g17
  have gX17 : X[17]? = some (.slice A17 n17 cap17) := at_eq HXS.out (by decide) e17
  have gY17 : Y[17]? = some (.slice B17 n17 cbp17) := at_eq HYS.out (by decide) f17
  have HA17 := hide hA17
  have HB17 := hide (show RowT (Old w) w 6 B17 n17 c17 D17 from ⟨hB17, hD17⟩)
  have HK17 := hide hk17
  clear hA17 hB17 hD17 hk17 hc17 e17 f17
  obtain ⟨n18, c18, hc18, hk18, A18, cap18, C18, e18, _, hA18⟩ := rd_row (e := 7) (hX.rd 18 (by decide)) (hw 18 (by decide))
  have g18 := hY.rd 18 (by decide)
  rw [hc18] at g18
  obtain ⟨B18, cbp18, D18, f18, _, hB18, hD18⟩ := g18
  have gX18 : X[18]? = some (.slice A18 n18 cap18) := at_eq HXS.out (by decide) e18
  have gY18 : Y[18]? = some (.slice B18 n18 cbp18) := at_eq HYS.out (by decide) f18
  have HA18 := hide hA18
  have HB18 := hide (show RowT (Old w) w 7 B18 n18 c18 D18 from ⟨hB18, hD18⟩)
  have HK18 := hide hk18
  clear hA18 hB18 hD18 hk18 hc18 e18 f18
  have EX7 := hide (el_sub5 hX (by decide) gX7 gX8 gX9 gX10 gX11)
  have EY7 := hide (el_sub5 hY (by decide) gY7 gY8 gY9 gY10 gY11)
  have EX12 := hide (el_sub5 hX (by decide) gX12 gX13 gX14 gX15 gX16)
  have EY12 := hide (el_sub5 hY (by decide) gY12 gY13 gY14 gY15 gY16)
  have EC7 := hide (hw.sub (e' := 14) (o := 7) (by decide))
  have EC12 := hide (hw.sub (e' := 14) (o := 12) (by decide))
  have HE := hide (fun (W : World) (h1 : RowT (Old W) W 6 A17 n17 c17 C17) (h2 : RowT (Old W) W 6 B17 n17 c17 D17) => sm_SameFees A17 B17 n17 cap17 cbp17 c17 C17 D17 HK17.out W h1 h2)
  have hn : n18 ≤ 140737488351232 := by have := HK18.out.room; simp only [tby] at this; omega
  have hn17 : n17 ≤ 140737488351232 := by have := HK17.out.room; simp only [tby] at this; omega
  clear hX hY hw
  go_enter Tryd.func18, Tryd.ntmps18
  go_wp2_with fail
  refine (sm_interest _ EC7.out _ _ _ (EX7.out.below (by (repeat (first | (with_reducible first | exact Below.refl _ _ | assumption | refine Below.drew ?_) | ((with_reducible first | refine Below.alloc ?_ ?_ _ | refine Below.setCell ?_ ?_ _); rotate_left; (first | omega | (simp <;> omega))))))) (EY7.out.below (by (repeat (first | (with_reducible first | exact Below.refl _ _ | assumption | refine Below.drew ?_) | ((with_reducible first | refine Below.alloc ?_ ?_ _ | refine Below.setCell ?_ ?_ _); rotate_left; (first | omega | (simp <;> omega)))))))).mono ?_
  rintro r w1 ⟨rfl, hb⟩
  have HQ1 := hide (show Below w.heap.size w w1 from Below.trans (by (repeat (first | (with_reducible first | exact Below.refl _ _ | assumption | refine Below.drew ?_) | ((with_reducible first | refine Below.alloc ?_ ?_ _ | refine Below.setCell ?_ ?_ _); rotate_left; (first | omega | (simp <;> omega)))))) (hb.mono (by simp; omega)))
  have q1B : Below w.heap.size w w1 := (by refine Below.trans ?_ (hb.mono (by first | omega | (simp <;> omega))); (repeat (first | (with_reducible first | exact Below.refl _ _ | assumption | refine Below.drew ?_) | ((with_reducible first | refine Below.alloc ?_ ?_ _ | refine Below.setCell ?_ ?_ _); rotate_left; (first | omega | (simp <;> omega))))))
  have q1z := hb.size
  try simp at q1z
  have q1t : w.heap.size ≤ w1.heap.size := (by omega)
  have q1s0 : w.heap.size < w1.heap.size := (by omega)
  have q1n0_0 : ¬ w1.heap.size = w.heap.size := (by omega)
  have q1n0_1 : ¬ w1.heap.size + 1 = w.heap.size := (by omega)
  have q1n0_2 : ¬ w1.heap.size + 2 = w.heap.size := (by omega)
  have q1c0_12 := hb.cell (p := ⟨w.heap.size, 12, none⟩) (by first | omega | (simp <;> omega))
  simp [go_sem, *] at q1c0_12
  have q1c0_13 := hb.cell (p := ⟨w.heap.size, 13, none⟩) (by first | omega | (simp <;> omega))
  simp [go_sem, *] at q1c0_13
  have q1c0_14 := hb.cell (p := ⟨w.heap.size, 14, none⟩) (by first | omega | (simp <;> omega))
  simp [go_sem, *] at q1c0_14
  have q1c0_15 := hb.cell (p := ⟨w.heap.size, 15, none⟩) (by first | omega | (simp <;> omega))
  simp [go_sem, *] at q1c0_15
  have q1c0_16 := hb.cell (p := ⟨w.heap.size, 16, none⟩) (by first | omega | (simp <;> omega))
  simp [go_sem, *] at q1c0_16
  have q1c0_17 := hb.cell (p := ⟨w.heap.size, 17, none⟩) (by first | omega | (simp <;> omega))
  simp [go_sem, *] at q1c0_17
  have q1c0_18 := hb.cell (p := ⟨w.heap.size, 18, none⟩) (by first | omega | (simp <;> omega))
  simp [go_sem, *] at q1c0_18
  have q1f0 := fun o => hb.frozen (p := ⟨w.heap.size, o, none⟩) (by first | omega | (simp <;> omega))
  simp [go_sem, *] at q1f0
  have q1s1 : w.heap.size + 1 < w1.heap.size := (by omega)
  have q1n1_0 : ¬ w1.heap.size = w.heap.size + 1 := (by omega)
  have q1n1_1 : ¬ w1.heap.size + 1 = w.heap.size + 1 := (by omega)
  have q1n1_2 : ¬ w1.heap.size + 2 = w.heap.size + 1 := (by omega)
  have q1c1_12 := hb.cell (p := ⟨w.heap.size + 1, 12, none⟩) (by first | omega | (simp <;> omega))
  simp [go_sem, *] at q1c1_12
  have q1c1_13 := hb.cell (p := ⟨w.heap.size + 1, 13, none⟩) (by first | omega | (simp <;> omega))
  simp [go_sem, *] at q1c1_13
  have q1c1_14 := hb.cell (p := ⟨w.heap.size + 1, 14, none⟩) (by first | omega | (simp <;> omega))
  simp [go_sem, *] at q1c1_14
  have q1c1_15 := hb.cell (p := ⟨w.heap.size + 1, 15, none⟩) (by first | omega | (simp <;> omega))
  simp [go_sem, *] at q1c1_15
  have q1c1_16 := hb.cell (p := ⟨w.heap.size + 1, 16, none⟩) (by first | omega | (simp <;> omega))
  simp [go_sem, *] at q1c1_16
  have q1c1_17 := hb.cell (p := ⟨w.heap.size + 1, 17, none⟩) (by first | omega | (simp <;> omega))
  simp [go_sem, *] at q1c1_17
  have q1c1_18 := hb.cell (p := ⟨w.heap.size + 1, 18, none⟩) (by first | omega | (simp <;> omega))
  simp [go_sem, *] at q1c1_18
  have q1f1 := fun o => hb.frozen (p := ⟨w.heap.size + 1, o, none⟩) (by first | omega | (simp <;> omega))
  simp [go_sem, *] at q1f1
  have q1o : ∀ b o, b < w.heap.size → w1.cell? ⟨b, o, none⟩ = w.cell? ⟨b, o, none⟩ := fun b o h => q1B.cell (p := ⟨b, o, none⟩) h
  clear hb
  go_wp2_with fail
  refine (sm_interest _ EC12.out _ _ _ (EX12.out.below (HQ1.out.trans (by (repeat (first | (with_reducible first | exact Below.refl _ _ | assumption | refine Below.drew ?_) | ((with_reducible first | refine Below.alloc ?_ ?_ _ | refine Below.setCell ?_ ?_ _); rotate_left; (first | omega | (simp <;> omega)))))))) (EY12.out.below (HQ1.out.trans (by (repeat (first | (with_reducible first | exact Below.refl _ _ | assumption | refine Below.drew ?_) | ((with_reducible first | refine Below.alloc ?_ ?_ _ | refine Below.setCell ?_ ?_ _); rotate_left; (first | omega | (simp <;> omega))))))))).mono ?_
  rintro r w2 ⟨rfl, hb⟩
  have HQ2 := hide (show Below w.heap.size w w2 from HQ1.out.trans (Below.trans (by (repeat (first | (with_reducible first | exact Below.refl _ _ | assumption | refine Below.drew ?_) | ((with_reducible first | refine Below.alloc ?_ ?_ _ | refine Below.setCell ?_ ?_ _); rotate_left; (first | omega | (simp <;> omega)))))) (hb.mono HQ1.out.size)))
  have q2B : Below w1.heap.size w1 w2 := (by refine Below.trans ?_ (hb.mono (by first | omega | (simp <;> omega))); (repeat (first | (with_reducible first | exact Below.refl _ _ | assumption | refine Below.drew ?_) | ((with_reducible first | refine Below.alloc ?_ ?_ _ | refine Below.setCell ?_ ?_ _); rotate_left; (first | omega | (simp <;> omega))))))
  have q2z := hb.size
  try simp at q2z
  have q2t : w1.heap.size ≤ w2.heap.size := (by omega)
  have q2s0 : w.heap.size < w2.heap.size := (by omega)
  have q2n0_0 : ¬ w2.heap.size = w.heap.size := (by omega)
  have q2n0_1 : ¬ w2.heap.size + 1 = w.heap.size := (by omega)
  have q2n0_2 : ¬ w2.heap.size + 2 = w.heap.size := (by omega)
  have q2c0_17 := hb.cell (p := ⟨w.heap.size, 17, none⟩) (by first | omega | (simp <;> omega))
  simp [go_sem, *] at q2c0_17
  have q2c0_18 := hb.cell (p := ⟨w.heap.size, 18, none⟩) (by first | omega | (simp <;> omega))
  simp [go_sem, *] at q2c0_18
  have q2f0 := fun o => hb.frozen (p := ⟨w.heap.size, o, none⟩) (by first | omega | (simp <;> omega))
  simp [go_sem, *] at q2f0
  have q2s1 : w.heap.size + 1 < w2.heap.size := (by omega)
  have q2n1_0 : ¬ w2.heap.size = w.heap.size + 1 := (by omega)
  have q2n1_1 : ¬ w2.heap.size + 1 = w.heap.size + 1 := (by omega)
  have q2n1_2 : ¬ w2.heap.size + 2 = w.heap.size + 1 := (by omega)
  have q2c1_17 := hb.cell (p := ⟨w.heap.size + 1, 17, none⟩) (by first | omega | (simp <;> omega))
  simp [go_sem, *] at q2c1_17
  have q2c1_18 := hb.cell (p := ⟨w.heap.size + 1, 18, none⟩) (by first | omega | (simp <;> omega))
  simp [go_sem, *] at q2c1_18
  have q2f1 := fun o => hb.frozen (p := ⟨w.heap.size + 1, o, none⟩) (by first | omega | (simp <;> omega))
  simp [go_sem, *] at q2f1
  have q2o : ∀ b o, b < w1.heap.size → w2.cell? ⟨b, o, none⟩ = w1.cell? ⟨b, o, none⟩ := fun b o h => q2B.cell (p := ⟨b, o, none⟩) h
  clear hb q1o q1f1 q1c1_18 q1c1_17 q1c1_16 q1c1_15 q1c1_14 q1c1_13 q1c1_12 q1s1 q1f0 q1c0_18 q1c0_17 q1c0_16 q1c0_15 q1c0_14 q1c0_13 q1c0_12 q1s0 q1z q1B
  go_wp2_with fail
  refine (HE.out _ (HA17.out.below (HQ2.out.trans (by (repeat (first | (with_reducible first | exact Below.refl _ _ | assumption | refine Below.drew ?_) | ((with_reducible first | refine Below.alloc ?_ ?_ _ | refine Below.setCell ?_ ?_ _); rotate_left; (first | omega | (simp <;> omega)))))))) (HB17.out.below (HQ2.out.trans (by (repeat (first | (with_reducible first | exact Below.refl _ _ | assumption | refine Below.drew ?_) | ((with_reducible first | refine Below.alloc ?_ ?_ _ | refine Below.setCell ?_ ?_ _); rotate_left; (first | omega | (simp <;> omega))))))))).mono ?_
  rintro r w3 ⟨rfl, hb⟩
  have HQ3 := hide (show Below w.heap.size w w3 from HQ2.out.trans (Below.trans (by (repeat (first | (with_reducible first | exact Below.refl _ _ | assumption | refine Below.drew ?_) | ((with_reducible first | refine Below.alloc ?_ ?_ _ | refine Below.setCell ?_ ?_ _); rotate_left; (first | omega | (simp <;> omega)))))) (hb.mono HQ2.out.size)))
  have q3B : Below w2.heap.size w2 w3 := (by refine Below.trans ?_ (hb.mono (by first | omega | (simp <;> omega))); (repeat (first | (with_reducible first | exact Below.refl _ _ | assumption | refine Below.drew ?_) | ((with_reducible first | refine Below.alloc ?_ ?_ _ | refine Below.setCell ?_ ?_ _); rotate_left; (first | omega | (simp <;> omega))))))
  have q3z := hb.size
  try simp at q3z
  have q3t : w2.heap.size ≤ w3.heap.size := (by omega)
  have q3s0 : w.heap.size < w3.heap.size := (by omega)
  have q3n0_0 : ¬ w3.heap.size = w.heap.size := (by omega)
  have q3n0_1 : ¬ w3.heap.size + 1 = w.heap.size := (by omega)
  have q3n0_2 : ¬ w3.heap.size + 2 = w.heap.size := (by omega)
  have q3c0_18 := hb.cell (p := ⟨w.heap.size, 18, none⟩) (by first | omega | (simp <;> omega))
  simp [go_sem, *] at q3c0_18
  have q3f0 := fun o => hb.frozen (p := ⟨w.heap.size, o, none⟩) (by first | omega | (simp <;> omega))
  simp [go_sem, *] at q3f0
  have q3s1 : w.heap.size + 1 < w3.heap.size := (by omega)
  have q3n1_0 : ¬ w3.heap.size = w.heap.size + 1 := (by omega)
  have q3n1_1 : ¬ w3.heap.size + 1 = w.heap.size + 1 := (by omega)
  have q3n1_2 : ¬ w3.heap.size + 2 = w.heap.size + 1 := (by omega)
  have q3c1_18 := hb.cell (p := ⟨w.heap.size + 1, 18, none⟩) (by first | omega | (simp <;> omega))
  simp [go_sem, *] at q3c1_18
  have q3f1 := fun o => hb.frozen (p := ⟨w.heap.size + 1, o, none⟩) (by first | omega | (simp <;> omega))
  simp [go_sem, *] at q3f1
  have q3o : ∀ b o, b < w2.heap.size → w3.cell? ⟨b, o, none⟩ = w2.cell? ⟨b, o, none⟩ := fun b o h => q3B.cell (p := ⟨b, o, none⟩) h
  clear hb q2o q2f1 q2c1_18 q2c1_17 q2s1 q2f0 q2c0_18 q2c0_17 q2s0 q2z q2B
  go_wp2_with fail
  go_loopw [5] (fun v wr => SmI2 n18 w3 v wr) (fun v _ => n18 - (intOf v).toNat)
  case atStart => exact ⟨0, by omega, rfl, by (repeat (first | (with_reducible first | exact Below.refl _ _ | assumption | refine Below.drew ?_) | ((with_reducible first | refine Below.alloc ?_ ?_ _ | refine Below.setCell ?_ ?_ _); rotate_left; (first | omega | (simp <;> omega)))))⟩
  case round =>
    obtain ⟨k, hkn, rfl, hb⟩ := hrel
    have H0 := hide hb
    have q4B : Below w3.heap.size w3 wr := (by refine Below.trans ?_ (hb.mono (by first | omega | (simp <;> omega))); (repeat (first | (with_reducible first | exact Below.refl _ _ | assumption | refine Below.drew ?_) | ((with_reducible first | refine Below.alloc ?_ ?_ _ | refine Below.setCell ?_ ?_ _); rotate_left; (first | omega | (simp <;> omega))))))
    have q4z := hb.size
    try simp at q4z
    have q4t : w3.heap.size ≤ wr.heap.size := (by omega)
    have q4s0 : w.heap.size < wr.heap.size := (by omega)
    have q4n0_0 : ¬ wr.heap.size = w.heap.size := (by omega)
    have q4n0_1 : ¬ wr.heap.size + 1 = w.heap.size := (by omega)
    have q4n0_2 : ¬ wr.heap.size + 2 = w.heap.size := (by omega)
    have q4c0_18 := hb.cell (p := ⟨w.heap.size, 18, none⟩) (by first | omega | (simp <;> omega))
    simp [go_sem, *] at q4c0_18
    have q4f0 := fun o => hb.frozen (p := ⟨w.heap.size, o, none⟩) (by first | omega | (simp <;> omega))
    simp [go_sem, *] at q4f0
    have q4s1 : w.heap.size + 1 < wr.heap.size := (by omega)
    have q4n1_0 : ¬ wr.heap.size = w.heap.size + 1 := (by omega)
    have q4n1_1 : ¬ wr.heap.size + 1 = w.heap.size + 1 := (by omega)
    have q4n1_2 : ¬ wr.heap.size + 2 = w.heap.size + 1 := (by omega)
    have q4c1_18 := hb.cell (p := ⟨w.heap.size + 1, 18, none⟩) (by first | omega | (simp <;> omega))
    simp [go_sem, *] at q4c1_18
    have q4f1 := fun o => hb.frozen (p := ⟨w.heap.size + 1, o, none⟩) (by first | omega | (simp <;> omega))
    simp [go_sem, *] at q4f1
    have q4o : ∀ b o, b < w3.heap.size → wr.cell? ⟨b, o, none⟩ = w3.cell? ⟨b, o, none⟩ := fun b o h => q4B.cell (p := ⟨b, o, none⟩) h
    clear hb q3o q3f1 q3c1_18 q3s1 q3f0 q3c0_18 q3s0 q3z q3B
    by_cases hlt : k < n18
    · have hm : (k : Int) < n18 := by omega
      have HLT := hide hlt
      have hk0 : (0 : Int) ≤ k := by omega
      have HQ4 := hide (HQ3.out.trans (H0.out.mono HQ3.out.size))
      have HA := hide (HA18.out.below HQ4.out)
      have HB := hide (HB18.out.below HQ4.out)
      obtain ⟨b, off, rfl, hbl, hc⟩ := HA.out.cells (by decide) hlt
      obtain ⟨b', off', rfl, hbl', hd⟩ := HB.out.cells (by decide) hlt
      have hX := HA.out.el HK18.out hlt
      have hY := HB.out.el HK18.out hlt
      have hw := knk HK18.out hlt
      have rx : elA 7 C18 k = #[C18 k 0, C18 k 1, C18 k 2, C18 k 3, C18 k 4, C18 k 5] := rfl
      have ry : elA 7 D18 k = #[D18 k 0, D18 k 1, D18 k 2, D18 k 3, D18 k 4, D18 k 5] := rfl
      rw [rx] at hX hc
      rw [ry] at hY hd
      obtain ⟨x0, hx0⟩ : ∃ x, x = C18 k 0 := ⟨_, rfl⟩
      obtain ⟨y0, hy0⟩ : ∃ x, x = D18 k 0 := ⟨_, rfl⟩
      obtain ⟨x1, hx1⟩ : ∃ x, x = C18 k 1 := ⟨_, rfl⟩
      obtain ⟨y1, hy1⟩ : ∃ x, x = D18 k 1 := ⟨_, rfl⟩
      obtain ⟨x2, hx2⟩ : ∃ x, x = C18 k 2 := ⟨_, rfl⟩
      obtain ⟨y2, hy2⟩ : ∃ x, x = D18 k 2 := ⟨_, rfl⟩
      obtain ⟨x3, hx3⟩ : ∃ x, x = C18 k 3 := ⟨_, rfl⟩
      obtain ⟨y3, hy3⟩ : ∃ x, x = D18 k 3 := ⟨_, rfl⟩
      obtain ⟨x4, hx4⟩ : ∃ x, x = C18 k 4 := ⟨_, rfl⟩
      obtain ⟨y4, hy4⟩ : ∃ x, x = D18 k 4 := ⟨_, rfl⟩
      obtain ⟨x5, hx5⟩ : ∃ x, x = C18 k 5 := ⟨_, rfl⟩
      obtain ⟨y5, hy5⟩ : ∃ x, x = D18 k 5 := ⟨_, rfl⟩
      rw [← hx0, ← hx1, ← hx2, ← hx3, ← hx4, ← hx5] at hX hc
      rw [← hy0, ← hy1, ← hy2, ← hy3, ← hy4, ← hy5] at hY hd
      clear rx ry hx0 hy0 hx1 hy1 hx2 hy2 hx3 hy3 hx4 hy4 hx5 hy5
      obtain ⟨z0u, q0u, e0u, _⟩ := rd_str (hX.rd 0 (by decide)) (hw 0 (by decide))
      have e0u : x0 = .string z0u := e0u
      have f0u : y0 = .string z0u := rd_lfv (hY.rd 0 (by decide)) q0u
      subst e0u f0u
      have Q0u := hide q0u
      clear q0u
      obtain ⟨z1u, q1u, e1u, _⟩ := rd_int (hX.rd 1 (by decide)) (hw 1 (by decide))
      have e1u : x1 = .int .i64 z1u := e1u
      have f1u : y1 = .int .i64 z1u := rd_lfv (hY.rd 1 (by decide)) q1u
      subst e1u f1u
      have Q1u := hide q1u
      clear q1u
      obtain ⟨z2u, q2u, e2u, _⟩ := rd_int (hX.rd 2 (by decide)) (hw 2 (by decide))
      have e2u : x2 = .int .i64 z2u := e2u
      have f2u : y2 = .int .i64 z2u := rd_lfv (hY.rd 2 (by decide)) q2u
      subst e2u f2u
      have Q2u := hide q2u
      clear q2u
      obtain ⟨z3u, q3u, e3u, _⟩ := rd_int (hX.rd 3 (by decide)) (hw 3 (by decide))
      have e3u : x3 = .int .i64 z3u := e3u
      have f3u : y3 = .int .i64 z3u := rd_lfv (hY.rd 3 (by decide)) q3u
      subst e3u f3u
      have Q3u := hide q3u
      clear q3u
      obtain ⟨z4u, q4u, e4u, _⟩ := rd_str (hX.rd 4 (by decide)) (hw 4 (by decide))
      have e4u : x4 = .string z4u := e4u
      have f4u : y4 = .string z4u := rd_lfv (hY.rd 4 (by decide)) q4u
      subst e4u f4u
      have Q4u := hide q4u
      clear q4u
      obtain ⟨n5u, c5u, hc5u, hk5u, A5u, cap5u, C5u, e5u, _, hA5u⟩ := rd_row (e := 5) (hX.rd 5 (by decide)) (hw 5 (by decide))
      have g5u := hY.rd 5 (by decide)
      rw [hc5u] at g5u
      obtain ⟨B5u, cbp5u, D5u, f5u, _, hB5u, hD5u⟩ := g5u
      have e5u : x5 = .slice A5u n5u cap5u := e5u
      have f5u : y5 = .slice B5u n5u cbp5u := f5u
      subst e5u f5u
      have HA5u := hide hA5u
      have HB5u := hide (show RowT (Old wr) wr 5 B5u n5u c5u D5u from ⟨hB5u, hD5u⟩)
      have HK5u := hide hk5u
      have HC5u := hide hc5u
      clear hA5u hB5u hD5u hk5u hc5u
      have HX := hide hX
      have HY := hide hY
      have HW := hide hw
      have c0 : wr.cell? ⟨b, off + k * 6, none⟩ = some (.string z0u) := hc 0 _ rfl
      have d0 : wr.cell? ⟨b', off' + k * 6, none⟩ = some (.string z0u) := hd 0 _ rfl
      have c1 : wr.cell? ⟨b, off + k * 6 + 1, none⟩ = some (.int .i64 z1u) := hc 1 _ rfl
      have d1 : wr.cell? ⟨b', off' + k * 6 + 1, none⟩ = some (.int .i64 z1u) := hd 1 _ rfl
      have c2 : wr.cell? ⟨b, off + k * 6 + 2, none⟩ = some (.int .i64 z2u) := hc 2 _ rfl
      have d2 : wr.cell? ⟨b', off' + k * 6 + 2, none⟩ = some (.int .i64 z2u) := hd 2 _ rfl
      have c3 : wr.cell? ⟨b, off + k * 6 + 3, none⟩ = some (.int .i64 z3u) := hc 3 _ rfl
      have d3 : wr.cell? ⟨b', off' + k * 6 + 3, none⟩ = some (.int .i64 z3u) := hd 3 _ rfl
      have c4 : wr.cell? ⟨b, off + k * 6 + 4, none⟩ = some (.string z4u) := hc 4 _ rfl
      have d4 : wr.cell? ⟨b', off' + k * 6 + 4, none⟩ = some (.string z4u) := hd 4 _ rfl
      have c5 : wr.cell? ⟨b, off + k * 6 + 5, none⟩ = some (.slice A5u n5u cap5u) := hc 5 _ rfl
      have d5 : wr.cell? ⟨b', off' + k * 6 + 5, none⟩ = some (.slice B5u n5u cbp5u) := hd 5 _ rfl
      clear hc hd hX hY hw
      have EX := hide (show ElT (Old wr) wr 5 (fun j => c18 k (2 + j)) #[.int .i64 z2u, .int .i64 z3u, .string z4u, .slice A5u n5u cap5u] from el_sub (o := 2) HX.out (by decide))
      have EY := hide (show ElT (Old wr) wr 5 (fun j => c18 k (2 + j)) #[.int .i64 z2u, .int .i64 z3u, .string z4u, .slice B5u n5u cbp5u] from el_sub (o := 2) HY.out (by decide))
      have EC := hide (smS (HW.out.sub (e' := 5) (o := 2) (by decide)))
      clear hlt hkn
      go_wp2_with fail
      refine ord_start (SB (wr.heap.size) [] _) 44 (preB 0 44) (by kernel_rfl) (by kernel_rfl) (by kernel_rfl) SB.refl.drew (fun hHeld => ?_)
      refine ord_take (i := 0) (preB 1 43) ?_ rfl (by kernel_rfl) (by kernel_rfl) (by kernel_rfl) (by kernel_rfl) (fun _ _ _ h => h) hHeld (by rfl) (fun wx hSx => ?_) ?_
      rotate_left
      · (unfold SB at hSx; go_simp; (try with_reducible rfl))
      (try simp only [Act.put, putA, putB, putC])
      refine ord_take (i := 1) (preB 2 42) ?_ rfl (by kernel_rfl) (by kernel_rfl) (by kernel_rfl) (by kernel_rfl) (fun _ _ _ h => h) hHeld (by rfl) (fun wx hSx => ?_) ?_
      rotate_left
      · (unfold SB at hSx; go_simp; (try with_reducible rfl))
      (try simp only [Act.put, putA, putB, putC])
      refine ord_take (i := 2) (preB 3 41) ?_ rfl (by kernel_rfl) (by kernel_rfl) (by kernel_rfl) (by kernel_rfl) (fun _ _ _ h => h) hHeld (by rfl) (fun wx hSx => ?_) ?_
      rotate_left
      · (unfold SB at hSx; go_simp; (try with_reducible rfl))
      (try simp only [Act.put, putA, putB, putC])
      refine ord_take (i := 3) (preB 4 40) ?_ rfl (by kernel_rfl) (by kernel_rfl) (by kernel_rfl) (by kernel_rfl) (fun _ _ _ h => h) hHeld (by rfl) (fun wx hSx => ?_) ?_
      rotate_left
      · (unfold SB at hSx; go_simp; (try with_reducible rfl))
      (try simp only [Act.put, putA, putB, putC])
      refine ord_take (i := 4) (preB 5 39) ?_ rfl (by kernel_rfl) (by kernel_rfl) (by kernel_rfl) (by kernel_rfl) (fun _ _ _ h => h) hHeld (by rfl) (fun wx hSx => ?_) ?_
      rotate_left
      · (unfold SB at hSx; go_simp; (try with_reducible rfl))
      (try simp only [Act.put, putA, putB, putC])
      refine ord_take (i := 5) (preB 6 38) ?_ rfl (by kernel_rfl) (by kernel_rfl) (by kernel_rfl) (by kernel_rfl) (fun _ _ _ h => h) hHeld (by rfl) (fun wx hSx => ?_) ?_
      rotate_left
      · (unfold SB at hSx; go_simp; (try with_reducible rfl))
      (try simp only [Act.put, putA, putB, putC])
      refine ord_take (i := 6) (preB 7 37) ?_ rfl (by kernel_rfl) (by kernel_rfl) (by kernel_rfl) (by kernel_rfl) (fun _ _ _ h => h) hHeld (by rfl) (fun wx hSx => ?_) ?_
      rotate_left
      · (unfold SB at hSx; go_simp; (try with_reducible rfl))
      (try simp only [Act.put, putA, putB, putC])
      refine ord_take (i := 7) (preB 8 36) ?_ rfl (by kernel_rfl) (by kernel_rfl) (by kernel_rfl) (by kernel_rfl) (fun _ _ _ h => h) hHeld (by rfl) (fun wx hSx => ?_) ?_
      rotate_left
      · (unfold SB at hSx; go_simp; (try with_reducible rfl))
      (try simp only [Act.put, putA, putB, putC])
      refine ord_take (i := 8) (preB 9 35) ?_ rfl (by kernel_rfl) (by kernel_rfl) (by kernel_rfl) (by kernel_rfl) (fun _ _ _ h => h) hHeld (by rfl) (fun wx hSx => ?_) ?_
      rotate_left
      · (unfold SB at hSx; go_simp; (try with_reducible rfl))
      (try simp only [Act.put, putA, putB, putC])
      refine ord_take (i := 9) (preB 10 34) ?_ rfl (by kernel_rfl) (by kernel_rfl) (by kernel_rfl) (by kernel_rfl) (fun _ _ _ h => h) hHeld (by rfl) (fun wx hSx => ?_) ?_
      rotate_left
      · (unfold SB at hSx; go_simp; (try with_reducible rfl))
      (try simp only [Act.put, putA, putB, putC])
      refine ord_take (i := 10) (preB 11 33) ?_ rfl (by kernel_rfl) (by kernel_rfl) (by kernel_rfl) (by kernel_rfl) (fun _ _ _ h => h) hHeld (by rfl) (fun wx hSx => ?_) ?_
      rotate_left
      · (unfold SB at hSx; go_simp; (try with_reducible rfl))
      (try simp only [Act.put, putA, putB, putC])
      refine ord_take (i := 11) (preB 12 32) ?_ rfl (by kernel_rfl) (by kernel_rfl) (by kernel_rfl) (by kernel_rfl) (fun _ _ _ h => h) hHeld (by rfl) (fun wx hSx => ?_) ?_
      rotate_left
      · (unfold SB at hSx; go_simp; (try with_reducible rfl))
      (try simp only [Act.put, putA, putB, putC])
      refine ord_take (i := 12) (preB 13 31) ?_ rfl (by kernel_rfl) (by kernel_rfl) (by kernel_rfl) (by kernel_rfl) (fun _ _ _ h => h) hHeld (by rfl) (fun wx hSx => ?_) ?_
      rotate_left
      · (unfold SB at hSx; go_simp; (try with_reducible rfl))
      (try simp only [Act.put, putA, putB, putC])
      refine ord_take (i := 13) (preB 14 30) ?_ rfl (by kernel_rfl) (by kernel_rfl) (by kernel_rfl) (by kernel_rfl) (fun _ _ _ h => h) hHeld (by rfl) (fun wx hSx => ?_) ?_
      rotate_left
      · (unfold SB at hSx; go_simp; (try with_reducible rfl))
      (try simp only [Act.put, putA, putB, putC])
      refine ord_take (i := 14) (preB 15 29) ?_ rfl (by kernel_rfl) (by kernel_rfl) (by kernel_rfl) (by kernel_rfl) (fun _ _ _ h => h) hHeld (by rfl) (fun wx hSx => ?_) ?_
      rotate_left
      · (unfold SB at hSx; go_simp; (try with_reducible rfl))
      (try simp only [Act.put, putA, putB, putC])
      refine ord_take (i := 15) (preB 16 28) ?_ rfl (by kernel_rfl) (by kernel_rfl) (by kernel_rfl) (by kernel_rfl) (fun _ _ _ h => h) hHeld (by rfl) (fun wx hSx => ?_) ?_
      rotate_left
      · (unfold SB at hSx; go_simp; (try with_reducible rfl))
      (try simp only [Act.put, putA, putB, putC])
      refine ord_take (i := 16) (preB 17 27) ?_ rfl (by kernel_rfl) (by kernel_rfl) (by kernel_rfl) (by kernel_rfl) (fun _ _ _ h => h) hHeld (by rfl) (fun wx hSx => ?_) ?_
      rotate_left
      · (unfold SB at hSx; go_simp; (try with_reducible rfl))
      (try simp only [Act.put, putA, putB, putC])
      refine ord_take (i := 17) (preB 18 26) ?_ rfl (by kernel_rfl) (by kernel_rfl) (by kernel_rfl) (by kernel_rfl) (fun _ _ _ h => h) hHeld (by rfl) (fun wx hSx => ?_) ?_
      rotate_left
      · (unfold SB at hSx; go_simp; (try with_reducible rfl))
      (try simp only [Act.put, putA, putB, putC])
      refine ord_take (i := 18) (preB 19 25) ?_ rfl (by kernel_rfl) (by kernel_rfl) (by kernel_rfl) (by kernel_rfl) (fun _ _ _ h => h) hHeld (by rfl) (fun wx hSx => ?_) ?_
      rotate_left
      · (unfold SB at hSx; go_simp; (try with_reducible rfl))
      (try simp only [Act.put, putA, putB, putC])
      refine ord_take (i := 19) (preB 20 24) ?_ rfl (by kernel_rfl) (by kernel_rfl) (by kernel_rfl) (by kernel_rfl) (fun _ _ _ h => h) hHeld (by rfl) (fun wx hSx => ?_) ?_
      rotate_left
      · (unfold SB at hSx; go_simp; (try with_reducible rfl))
      (try simp only [Act.put, putA, putB, putC])
      refine ord_take (i := 20) (preB 21 23) ?_ rfl (by kernel_rfl) (by kernel_rfl) (by kernel_rfl) (by kernel_rfl) (fun _ _ _ h => h) hHeld (by rfl) (fun wx hSx => ?_) ?_
      rotate_left
      · (unfold SB at hSx; go_simp; (try with_reducible rfl))
      (try simp only [Act.put, putA, putB, putC])
      refine ord_take (i := 21) (preB 22 22) ?_ rfl (by kernel_rfl) (by kernel_rfl) (by kernel_rfl) (by kernel_rfl) (fun _ _ _ h => h) hHeld (by rfl) (fun wx hSx => ?_) ?_
      rotate_left
      · (unfold SB at hSx; go_simp; (try with_reducible rfl))
      (try simp only [Act.put, putA, putB, putC])
      refine ord_take (i := 22) (preB 23 21) ?_ rfl (by kernel_rfl) (by kernel_rfl) (by kernel_rfl) (by kernel_rfl) (fun _ _ _ h => h) hHeld (by rfl) (fun wx hSx => ?_) ?_
      rotate_left
      · (unfold SB at hSx; go_simp; (try with_reducible rfl))
      (try simp only [Act.put, putA, putB, putC])
      refine ord_take (i := 23) (preB 24 20) ?_ rfl (by kernel_rfl) (by kernel_rfl) (by kernel_rfl) (by kernel_rfl) (fun _ _ _ h => h) hHeld (by rfl) (fun wx hSx => ?_) ?_
      rotate_left
      · (unfold SB at hSx; go_simp; (try with_reducible rfl))
      (try simp only [Act.put, putA, putB, putC])
      refine ord_take (i := 24) (preB 25 19) ?_ rfl (by kernel_rfl) (by kernel_rfl) (by kernel_rfl) (by kernel_rfl) (fun _ _ _ h => h) hHeld (by rfl) (fun wx hSx => ?_) ?_
      rotate_left
      · (unfold SB at hSx; go_simp; (try with_reducible rfl))
      (try simp only [Act.put, putA, putB, putC])
      refine ord_take (i := 25) (preB 26 18) ?_ rfl (by kernel_rfl) (by kernel_rfl) (by kernel_rfl) (by kernel_rfl) (fun _ _ _ h => h) hHeld (by rfl) (fun wx hSx => ?_) ?_
      rotate_left
      · (unfold SB at hSx; go_simp; (try with_reducible rfl))
      (try simp only [Act.put, putA, putB, putC])
      refine ord_take (i := 26) (preB 27 17) ?_ rfl (by kernel_rfl) (by kernel_rfl) (by kernel_rfl) (by kernel_rfl) (fun _ _ _ h => h) hHeld (by rfl) (fun wx hSx => ?_) ?_
      rotate_left
      · (unfold SB at hSx; go_simp; (try with_reducible rfl))
      (try simp only [Act.put, putA, putB, putC])
      refine ord_take (i := 27) (preB 28 16) ?_ rfl (by kernel_rfl) (by kernel_rfl) (by kernel_rfl) (by kernel_rfl) (fun _ _ _ h => h) hHeld (by rfl) (fun wx hSx => ?_) ?_
      rotate_left
      · (unfold SB at hSx; go_simp; (try with_reducible rfl))
      (try simp only [Act.put, putA, putB, putC])
      refine ord_take (i := 28) (preB 29 15) ?_ rfl (by kernel_rfl) (by kernel_rfl) (by kernel_rfl) (by kernel_rfl) (fun _ _ _ h => h) hHeld (by rfl) (fun wx hSx => ?_) ?_
      rotate_left
      · (unfold SB at hSx; go_simp; (try with_reducible rfl))
      (try simp only [Act.put, putA, putB, putC])
      refine ord_take (i := 29) (preB 30 14) ?_ rfl (by kernel_rfl) (by kernel_rfl) (by kernel_rfl) (by kernel_rfl) (fun _ _ _ h => h) hHeld (by rfl) (fun wx hSx => ?_) ?_
      rotate_left
      · (unfold SB at hSx; go_simp; (try with_reducible rfl))
      (try simp only [Act.put, putA, putB, putC])
      refine ord_take (i := 30) (preB 31 13) ?_ rfl (by kernel_rfl) (by kernel_rfl) (by kernel_rfl) (by kernel_rfl) (fun _ _ _ h => h) hHeld (by rfl) (fun wx hSx => ?_) ?_
      rotate_left
      · (unfold SB at hSx; go_simp; (try with_reducible rfl))
      (try simp only [Act.put, putA, putB, putC])
      refine ord_take (i := 31) (preB 32 12) ?_ rfl (by kernel_rfl) (by kernel_rfl) (by kernel_rfl) (by kernel_rfl) (fun _ _ _ h => h) hHeld (by rfl) (fun wx hSx => ?_) ?_
      rotate_left
      · (unfold SB at hSx; go_simp; (try with_reducible rfl))
      (try simp only [Act.put, putA, putB, putC])
      refine ord_take (i := 32) (preB 33 11) ?_ rfl (by kernel_rfl) (by kernel_rfl) (by kernel_rfl) (by kernel_rfl) (fun _ _ _ h => h) hHeld (by rfl) (fun wx hSx => ?_) ?_
      rotate_left
      · (unfold SB at hSx; go_simp; (try with_reducible rfl))
      (try simp only [Act.put, putA, putB, putC])
      refine ord_take (i := 33) (preB 34 10) ?_ rfl (by kernel_rfl) (by kernel_rfl) (by kernel_rfl) (by kernel_rfl) (fun _ _ _ h => h) hHeld (by rfl) (fun wx hSx => ?_) ?_
      rotate_left
      · (unfold SB at hSx; go_simp; (try with_reducible rfl))
      (try simp only [Act.put, putA, putB, putC])
      refine ord_take (i := 34) (preB 35 9) ?_ rfl (by kernel_rfl) (by kernel_rfl) (by kernel_rfl) (by kernel_rfl) (fun _ _ _ h => h) hHeld (by rfl) (fun wx hSx => ?_) ?_
      rotate_left
      · (unfold SB at hSx; go_simp; (try with_reducible rfl))
      (try simp only [Act.put, putA, putB, putC])
      refine ord_take (i := 35) (preB 36 8) ?_ rfl (by kernel_rfl) (by kernel_rfl) (by kernel_rfl) (by kernel_rfl) (fun _ _ _ h => h) hHeld (by rfl) (fun wx hSx => ?_) ?_
      rotate_left
      · (unfold SB at hSx; go_simp; (try with_reducible rfl))
      (try simp only [Act.put, putA, putB, putC])
      refine ord_take (i := 36) (preB 37 7) ?_ rfl (by kernel_rfl) (by kernel_rfl) (by kernel_rfl) (by kernel_rfl) (fun _ _ _ h => h) hHeld (by rfl) (fun wx hSx => ?_) ?_
      rotate_left
      · (unfold SB at hSx; go_simp; (try with_reducible rfl))
      (try simp only [Act.put, putA, putB, putC])
      refine ord_take (i := 37) (preB 38 6) ?_ rfl (by kernel_rfl) (by kernel_rfl) (by kernel_rfl) (by kernel_rfl) (fun _ _ _ h => h) hHeld (by rfl) (fun wx hSx => ?_) ?_
      rotate_left
      · (unfold SB at hSx; go_simp; (try with_reducible rfl))
      (try simp only [Act.put, putA, putB, putC])
      refine ord_take (i := 38) (preB 39 5) ?_ rfl (by kernel_rfl) (by kernel_rfl) (by kernel_rfl) (by kernel_rfl) (fun _ _ _ h => h) hHeld (by rfl) (fun wx hSx => ?_) ?_
      rotate_left
      · (unfold SB at hSx; go_simp; (try with_reducible rfl))
      (try simp only [Act.put, putA, putB, putC])
      refine ord_take (i := 39) (preB 40 4) ?_ rfl (by kernel_rfl) (by kernel_rfl) (by kernel_rfl) (by kernel_rfl) (fun _ _ _ h => h) hHeld (by rfl) (fun wx hSx => ?_) ?_
      rotate_left
      · (unfold SB at hSx; go_simp; (try with_reducible rfl))
      (try simp only [Act.put, putA, putB, putC])
      refine ord_take (i := 40) (preB 41 3) ?_ rfl (by kernel_rfl) (by kernel_rfl) (by kernel_rfl) (by kernel_rfl) (fun _ _ _ h => h) hHeld (by rfl) (fun wx hSx => ?_) ?_
      rotate_left
      · (unfold SB at hSx; go_simp; (try with_reducible rfl))
      (try simp only [Act.put, putA, putB, putC])
      refine wpAnyH_ready (rs := [41]) (by kernel_rfl) (by simp) ?_
      refine ord_run (i := 41) (preB 42 2) rfl (by kernel_rfl) (by rfl) (fun K hK => ?_) AllReadyH.nil
      go_simp
      go_wp2_with (go_at_call 37; refine (EC.out _ _ _ (EX.out.below (by (repeat (first | (with_reducible first | exact Below.refl _ _ | assumption | refine Below.drew ?_) | ((with_reducible first | refine Below.alloc ?_ ?_ _ | refine Below.setCell ?_ ?_ _); rotate_left; (first | omega | (simp <;> omega))))))) (EY.out.below (by (repeat (first | (with_reducible first | exact Below.refl _ _ | assumption | refine Below.drew ?_) | ((with_reducible first | refine Below.alloc ?_ ?_ _ | refine Below.setCell ?_ ?_ _); rotate_left; (first | omega | (simp <;> omega)))))))).mono ?_; rintro r v1 ⟨rfl, hb⟩; have hbS := hb)
      refine hK.out _ _ ?_ (fun hHeld => ?_)
      · (repeat (first | (with_reducible first | exact SB.refl | exact hHeld | refine SB.drew ?_ | refine SB.drewN ?_ _) | ((with_reducible first | refine SB.alloc ?_ ?_ _ | refine SB.below ?_ hbS ?_ | refine SB.below ?_ hbS1 ?_ | refine SB.below ?_ hbS2 ?_ | refine SB.below ?_ hbS3 ?_ | refine SB.below ?_ hbS4 ?_); rotate_left; (first | omega | (simp <;> omega))) | ((with_reducible refine SB.setCell ?_ ?_ _); rotate_left; (focus (first | (simp; done) | (right; first | omega | (simp <;> omega))))) | (with_reducible refine SB.undrew ?_) | ((with_reducible refine SB.congr ?_ ?_); rotate_left; (focus (simp; done))) | ((with_reducible refine SB.realloc ?_ ?_ ?_); rotate_left; (focus (simp; done)); (focus (simp; done)))))
      clear hK K
      (try simp only [Act.put, putA, putB, putC])
      refine ord_take (i := 42) (preB 43 1) ?_ rfl (by kernel_rfl) (by kernel_rfl) (by kernel_rfl) (by kernel_rfl) (fun _ _ _ h => h) hHeld (by rfl) (fun wx hSx => ?_) ?_
      rotate_left
      · (unfold SB at hSx; go_simp; (try with_reducible rfl))
      (try simp only [Act.put, putA, putB, putC])
      refine ord_take (i := 43) (preB 44 0) ?_ rfl (by kernel_rfl) (by kernel_rfl) (by kernel_rfl) (by kernel_rfl) (fun _ _ _ h => h) hHeld (by rfl) (fun wx hSx => ?_) ?_
      rotate_left
      · (unfold SB at hSx; go_simp; (try with_reducible rfl))
      (try simp only [Act.put, putA, putB, putC])
      refine wpAnyH_done (by kernel_rfl) ?_ _
      go_wp2_with fail
      go_roundw
      case rel => exact ⟨k + 1, HLT.out, by go_num, H0.out.trans (Below.trans (by (repeat (first | (with_reducible first | exact Below.refl _ _ | assumption | refine Below.drew ?_) | ((with_reducible first | refine Below.alloc ?_ ?_ _ | refine Below.setCell ?_ ?_ _); rotate_left; (first | omega | (simp <;> omega)))))) (hb.mono (by have := H0.out.size; simpa using this)))⟩
      case measure => have := HLT.out; simp [intOf]; omega
    · obtain rfl : k = n18 := by omega
      clear hlt hkn
      go_wp2_with fail
      go_ret
      exact ⟨rfl, HQ3.out.trans (H0.out.mono HQ3.out.size)⟩
end Go.Proofs.YtdjhkhadjmndoaaDoor
