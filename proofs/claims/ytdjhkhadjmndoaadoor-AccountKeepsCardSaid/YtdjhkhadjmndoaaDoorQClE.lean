/- Texts laid together: ClE. -/
import Derived.Test.YtdjhkhadjmndoaaDoorQClC
import Derived.Test.YtdjhkhadjmndoaaDoorQTrM
import Derived.Deep.DeepCutAuto
namespace Go.Proofs.YtdjhkhadjmndoaaDoor
set_option maxRecDepth 4000
set_option linter.unusedSimpArgs false
set_option linter.unusedVariables false
open Go.RowKit
theorem exprK : ∀ (T : Tr) (n : Nat) (c : Nat → Nat → Tr), T = .row n (tbl 5).length c → T.wt (.sl 5) → ∀ k, k < n → FnOK Tryd.prog 5 (c k) 88 := fun T => by
  induction T with
  | lf v => intro n c h; cases h
  | row n sz c ih =>
    intro n' c' h hwt k hk
    injection h with h1 h2 h3
    subst h1 h2 h3
    have kn : KnOK 5 (c k) := fun j hj => hwt.2.2 k j hk hj
    exact fn_expr (c k) kn (fun n2 c2 h2 k2 hk2 => ih k 3 n2 c2 h2 (kn 3 (by decide)) k2 hk2)
theorem exprS {ck : Nat → Tr} (kn : KnOK 5 ck) : FnOK Tryd.prog 5 ck 88 := fn_expr ck kn fun n c h k hk => exprK _ n c h (kn 3 (by decide)) k hk
theorem KnOK.sub {e e' o : Nat} {ck : Nat → Tr} (h : KnOK e ck) (hs : ∀ j, j < (tbl e').length → o + j < (tbl e).length ∧ (tbl e).getD (o + j) .i = (tbl e').getD j .i) : KnOK e' (fun j => ck (o + j)) := fun j hj => by
  have := h (o + j) (hs j hj).1
  rw [(hs j hj).2] at this
  exact this
theorem feeS {ck : Nat → Tr} (kn : KnOK 6 ck) : FnOK Tryd.prog 6 ck 87 := fn_Product1 ck kn (exprS (kn.sub (o := 2) (by decide))) (exprS (kn.sub (o := 6) (by decide)))
theorem ruleS {ck : Nat → Tr} (kn : KnOK 7 ck) : FnOK Tryd.prog 7 ck 90 := fn_Product2 ck kn (exprS (kn.sub (o := 2) (by decide)))
theorem interestS {ck : Nat → Tr} (kn : KnOK 14 ck) : FnOK Tryd.prog 14 ck 85 := fn_interest ck kn
theorem knk {e n : Nat} {c : Nat → Nat → Tr} (h : RowK e n c) {k : Nat} (hk : k < n) : KnOK e (c k) := fun j hj => h.wt k j hk hj
theorem siz_P : (Tryd.prog.info? 53).map (·.size) = some 19 := by kernel_rfl
/-- Behind the two sides. -/
def PrCut (w : World) (X Z : Array Value) (ck : Nat → Tr) (_v : Value) (wx : World) : Prop :=
  ∃ a0 a1 a2 a3 a4 b0 b1 b2 b3 b4, wx.heap[w.heap.size]? = some (.cells ((((((((((X.setIfInBounds 7 a0).setIfInBounds 8 a1).setIfInBounds 9 a2).setIfInBounds 10 a3).setIfInBounds 11 a4).setIfInBounds 12 b0).setIfInBounds 13 b1).setIfInBounds 14 b2).setIfInBounds 15 b3).setIfInBounds 16 b4) 53 (0, 0)) ∧ wx.heap[w.heap.size + 1]? = some (.cells Z 53 (0, 0)) ∧ ElT (New (w.heap.size + 2) wx) wx 14 (fun j => ck (7 + j)) #[a0, a1, a2, a3, a4] ∧ ElT (New (w.heap.size + 2) wx) wx 14 (fun j => ck (12 + j)) #[b0, b1, b2, b3, b4] ∧ Below w.heap.size w wx ∧ w.heap.size + 2 ≤ wx.heap.size
set_option maxRecDepth 20000 in
set_option maxHeartbeats 8000000 in
theorem fn_Product (ck : Nat → Tr) (hw : KnOK 8 ck) : FnOK Tryd.prog 8 ck 74 := by
  intro w X hX
  have HX := hide hX
  have HW := hide hw
  have HXS := hide (show X.size = 19 from hX.size)
  have HSZ := hide (show ∀ Y : Array Value, Y.size = 19 → (Tryd.prog.info? 53).map (·.size) = some Y.size from fun Y h => by rw [h]; exact siz_P)
  obtain ⟨n7, c7, hc7, hk7, A7, cap7, C7, e7, _, hr7⟩ := rd_row (e := 4) (hX.rd 7 (by decide)) (hw 7 (by decide))
  have HR7 := hide hr7
  have HC7 := hide hc7
  clear hr7 hc7
  have g7 : X[7]? = some (.slice A7 n7 cap7) := at_eq HXS.out (by decide) e7
  have E7 := hide e7
  clear e7
  obtain ⟨z8, q8, e8⟩ := rd_bool (hX.rd 8 (by decide)) (hw 8 (by decide))
  have Q8 := hide q8
  clear q8
  have g8 : X[8]? = some (.bool z8) := at_eq HXS.out (by decide) e8
  have E8 := hide e8
  clear e8
  obtain ⟨z9, q9, e9, _⟩ := rd_int (hX.rd 9 (by decide)) (hw 9 (by decide))
  have Q9 := hide q9
  clear q9
  have g9 : X[9]? = some (.int .i64 z9) := at_eq HXS.out (by decide) e9
  have E9 := hide e9
  clear e9
  obtain ⟨z10, q10, e10, _⟩ := rd_int (hX.rd 10 (by decide)) (hw 10 (by decide))
  have Q10 := hide q10
  clear q10
  have g10 : X[10]? = some (.int .i64 z10) := at_eq HXS.out (by decide) e10
  have E10 := hide e10
  clear e10
  obtain ⟨z11, q11, e11⟩ := rd_bool (hX.rd 11 (by decide)) (hw 11 (by decide))
  have Q11 := hide q11
  clear q11
  have g11 : X[11]? = some (.bool z11) := at_eq HXS.out (by decide) e11
  have E11 := hide e11
  clear e11
  obtain ⟨n12, c12, hc12, hk12, A12, cap12, C12, e12, _, hr12⟩ := rd_row (e := 4) (hX.rd 12 (by decide)) (hw 12 (by decide))
  have HR12 := hide hr12
  have HC12 := hide hc12
  clear hr12 hc12
  have g12 : X[12]? = some (.slice A12 n12 cap12) := at_eq HXS.out (by decide) e12
  have E12 := hide e12
  clear e12
  obtain ⟨z13, q13, e13⟩ := rd_bool (hX.rd 13 (by decide)) (hw 13 (by decide))
  have Q13 := hide q13
  clear q13
  have g13 : X[13]? = some (.bool z13) := at_eq HXS.out (by decide) e13
  have E13 := hide e13
  clear e13
  obtain ⟨z14, q14, e14, _⟩ := rd_int (hX.rd 14 (by decide)) (hw 14 (by decide))
  have Q14 := hide q14
  clear q14
  have g14 : X[14]? = some (.int .i64 z14) := at_eq HXS.out (by decide) e14
  have E14 := hide e14
  clear e14
  obtain ⟨z15, q15, e15, _⟩ := rd_int (hX.rd 15 (by decide)) (hw 15 (by decide))
  have Q15 := hide q15
  clear q15
  have g15 : X[15]? = some (.int .i64 z15) := at_eq HXS.out (by decide) e15
  have E15 := hide e15
  clear e15
  obtain ⟨z16, q16, e16⟩ := rd_bool (hX.rd 16 (by decide)) (hw 16 (by decide))
  have Q16 := hide q16
  clear q16
  have g16 : X[16]? = some (.bool z16) := at_eq HXS.out (by decide) e16
  have E16 := hide e16
  clear e16
  obtain ⟨n17, c17, hc17, hk17, A17, cap17, C17, e17, _, hr17⟩ := rd_row (e := 6) (hX.rd 17 (by decide)) (hw 17 (by decide))
  have HR17 := hide hr17
  have HC17 := hide hc17
  clear hr17 hc17
  have g17 : X[17]? = some (.slice A17 n17 cap17) := at_eq HXS.out (by decide) e17
  have E17 := hide e17
  clear e17
  obtain ⟨n18, c18, hc18, hk18, A18, cap18, C18, e18, _, hr18⟩ := rd_row (e := 7) (hX.rd 18 (by decide)) (hw 18 (by decide))
  have HR18 := hide hr18
  have HC18 := hide hc18
  clear hr18 hc18
  have g18 : X[18]? = some (.slice A18 n18 cap18) := at_eq HXS.out (by decide) e18
  have E18 := hide e18
  clear e18
  have HS0 := hide (show ElT (Old w) w 14 (fun j => ck (7 + j)) #[.slice A7 n7 cap7, .bool z8, .int .i64 z9, .int .i64 z10, .bool z11] from ⟨rfl, by simp [Value.oneCell'], fun j hj => by have hj4 : j < 5 := hj; clear hj; match j, hj4 with | 0, _ => exact (by rw [show (#[.slice A7 n7 cap7, .bool z8, .int .i64 z9, .int .i64 z10, .bool z11] : Array Value).getD 0 undef = .slice A7 n7 cap7 from rfl, ← E7.out]; exact HX.out.rd 7 (by decide)) | 1, _ => exact rd_of_lf Q8.out rfl | 2, _ => exact rd_of_lf Q9.out rfl | 3, _ => exact rd_of_lf Q10.out rfl | 4, _ => exact rd_of_lf Q11.out rfl | j + 5, h => exact absurd h (by omega)⟩)
  have HS1 := hide (show ElT (Old w) w 14 (fun j => ck (12 + j)) #[.slice A12 n12 cap12, .bool z13, .int .i64 z14, .int .i64 z15, .bool z16] from ⟨rfl, by simp [Value.oneCell'], fun j hj => by have hj4 : j < 5 := hj; clear hj; match j, hj4 with | 0, _ => exact (by rw [show (#[.slice A12 n12 cap12, .bool z13, .int .i64 z14, .int .i64 z15, .bool z16] : Array Value).getD 0 undef = .slice A12 n12 cap12 from rfl, ← E12.out]; exact HX.out.rd 12 (by decide)) | 1, _ => exact rd_of_lf Q13.out rfl | 2, _ => exact rd_of_lf Q14.out rfl | 3, _ => exact rd_of_lf Q15.out rfl | 4, _ => exact rd_of_lf Q16.out rfl | j + 5, h => exact absurd h (by omega)⟩)
  have HC0 := hide (interestS (hw.sub (e' := 14) (o := 7) (by decide)))
  have HC1 := hide (interestS (hw.sub (e' := 14) (o := 12) (by decide)))
  have HF := hide (fun (W : World) (h : RowT (Old W) W 6 A17 n17 c17 C17) => each_Fee n17 c17 (fun k hk => feeS (knk hk17 hk)) hk17 A17 cap17 C17 W h)
  have HG := hide (fun (W : World) (h : RowT (Old W) W 7 A18 n18 c18 C18) => each_Rule n18 c18 (fun k hk => ruleS (knk hk18 hk)) hk18 A18 cap18 C18 W h)
  have G17 := hide g17
  have G18 := hide g18
  clear hX hw hk7 hk12 hk17 hk18 g17 g18
  go_enter Tryd.func74, Tryd.ntmps74
  go_wp2_with fail
  go_cut [3] (fun v3 wx => PrCut w X #[.string ⟨#[]⟩, .string ⟨#[]⟩, .string ⟨#[]⟩, .int .i64 0, .int .i64 0, .int .i64 0, .int .i64 0, .slice none 0 0, .bool false, .int .i64 0, .int .i64 0, .bool false, .slice none 0 0, .bool false, .int .i64 0, .int .i64 0, .bool false, .slice none 0 0, .slice none 0 0] ck v3 wx)
  case first =>
    refine ord_start (SB (0) [] _) 10 (preB 0 10) (by kernel_rfl) (by kernel_rfl) (by kernel_rfl) SB.refl.drew (fun hHeld => ?_)
    refine ord_take (i := 0) (preB 1 9) ?_ rfl (by kernel_rfl) (by kernel_rfl) (by kernel_rfl) (by kernel_rfl) (fun _ _ _ h => h) hHeld (by rfl) (fun wx hSx => ?_) ?_
    rotate_left
    · (unfold SB at hSx; go_simp; (try with_reducible rfl))
    (try simp only [Act.put, putA, putB, putC])
    refine ord_take (i := 3) #[true, false, false, true, false, false, false, false, false, false] ?_ rfl (by kernel_rfl) (by kernel_rfl) (by kernel_rfl) (by kernel_rfl) (fun _ _ _ h => h) hHeld (by rfl) (fun wx hSx => ?_) ?_
    rotate_left
    · (unfold SB at hSx; go_simp; (try with_reducible rfl))
    (try simp only [Act.put, putA, putB, putC])
    refine wpAnyH_ready (rs := [1, 4]) (by kernel_rfl) (by simp) ?_
    refine ord_run (i := 1) #[true, true, false, true, false, false, false, false, false, false] rfl (by kernel_rfl) (by rfl) (fun K hK => ?_) ?_
    · go_simp
      refine hK.out _ _ ?_ (fun hHeld => ?_)
      · exact fun _ _ h => absurd h (Nat.not_lt_zero _)
      clear hK K
      (try simp only [Act.put, putA, putB, putC])
      refine wpAnyH_ready (rs := [2, 4]) (by kernel_rfl) (by simp) ?_
      refine ord_run (i := 2) (preB 4 6) rfl (by kernel_rfl) (by rfl) (fun K hK => ?_) ?_
      · go_simp
        go_wp2_with (go_at_call 85; refine (HC0.out _ _ (HS0.out.below (by (repeat (first | (with_reducible first | exact Below.refl _ _ | assumption | refine Below.drew ?_) | ((with_reducible first | refine Below.alloc ?_ ?_ _ | refine Below.setCell ?_ ?_ _); rotate_left; (first | omega | (simp <;> omega)))))))).mono ?_; rintro r w1 ⟨D, rfl, hN, hb⟩; obtain ⟨a0, a1, a2, a3, a4, rfl⟩ := arr5 (show D.size = 5 from hN.size); obtain ⟨ena, _, _, _, eAa, eca, _, e0, _⟩ := rd_row (e := 4) (hN.rd 0 (by decide)) (HW.out 7 (by decide)); have e0 : a0 = .slice eAa ena eca := e0; subst e0; obtain ⟨fa1, _, e0⟩ := rd_bool (hN.rd 1 (by decide)) (HW.out 8 (by decide)); have e0 : a1 = .bool fa1 := e0; subst e0; obtain ⟨fa2, _, e0, _⟩ := rd_int (hN.rd 2 (by decide)) (HW.out 9 (by decide)); have e0 : a2 = .int .i64 fa2 := e0; subst e0; obtain ⟨fa3, _, e0, _⟩ := rd_int (hN.rd 3 (by decide)) (HW.out 10 (by decide)); have e0 : a3 = .int .i64 fa3 := e0; subst e0; obtain ⟨fa4, _, e0⟩ := rd_bool (hN.rd 4 (by decide)) (HW.out 11 (by decide)); have e0 : a4 = .bool fa4 := e0; subst e0; have HN0 := hide hN; clear hN; have HP1 := hide (show w1.heap[w.heap.size]? = some (.cells X 53 (0, 0)) from blk_below hb (by first | omega | (simp <;> omega)) (by repeat (first | (exact blk_new (by simp)) | (with_reducible refine blk_drew ?_) | (with_reducible refine blk_under ?_)))); have HR1 := hide (show w1.heap[w.heap.size + 1]? = some (.cells #[.string ⟨#[]⟩, .string ⟨#[]⟩, .string ⟨#[]⟩, .int .i64 0, .int .i64 0, .int .i64 0, .int .i64 0, .slice none 0 0, .bool false, .int .i64 0, .int .i64 0, .bool false, .slice none 0 0, .bool false, .int .i64 0, .int .i64 0, .bool false, .slice none 0 0, .slice none 0 0] 53 (0, 0)) from blk_below hb (by first | omega | (simp <;> omega)) (by first | exact blk_new (by simp) | exact blk_drew (blk_new (by simp)))); (have q1B : Below w.heap.size w w1 := (by refine Below.trans ?_ (hb.mono (by first | omega | (simp <;> omega))); (repeat (first | (with_reducible first | exact Below.refl _ _ | assumption | refine Below.drew ?_) | ((with_reducible first | refine Below.alloc ?_ ?_ _ | refine Below.setCell ?_ ?_ _); rotate_left; (first | omega | (simp <;> omega)))))); have q1z := hb.size; (try simp at q1z); have q1t : w.heap.size ≤ w1.heap.size := (by omega); have q1s0 : w.heap.size < w1.heap.size := (by omega); have q1n0_0 : ¬ w1.heap.size = w.heap.size := (by omega); have q1n0_1 : ¬ w1.heap.size + 1 = w.heap.size := (by omega); have q1n0_2 : ¬ w1.heap.size + 2 = w.heap.size := (by omega); have q1c0_7 := hb.cell (p := ⟨w.heap.size, 7, none⟩) (by first | omega | (simp <;> omega)); simp [go_sem, *] at q1c0_7; have q1c0_8 := hb.cell (p := ⟨w.heap.size, 8, none⟩) (by first | omega | (simp <;> omega)); simp [go_sem, *] at q1c0_8; have q1c0_9 := hb.cell (p := ⟨w.heap.size, 9, none⟩) (by first | omega | (simp <;> omega)); simp [go_sem, *] at q1c0_9; have q1c0_10 := hb.cell (p := ⟨w.heap.size, 10, none⟩) (by first | omega | (simp <;> omega)); simp [go_sem, *] at q1c0_10; have q1c0_11 := hb.cell (p := ⟨w.heap.size, 11, none⟩) (by first | omega | (simp <;> omega)); simp [go_sem, *] at q1c0_11; have q1c0_12 := hb.cell (p := ⟨w.heap.size, 12, none⟩) (by first | omega | (simp <;> omega)); simp [go_sem, *] at q1c0_12; have q1c0_13 := hb.cell (p := ⟨w.heap.size, 13, none⟩) (by first | omega | (simp <;> omega)); simp [go_sem, *] at q1c0_13; have q1c0_14 := hb.cell (p := ⟨w.heap.size, 14, none⟩) (by first | omega | (simp <;> omega)); simp [go_sem, *] at q1c0_14; have q1c0_15 := hb.cell (p := ⟨w.heap.size, 15, none⟩) (by first | omega | (simp <;> omega)); simp [go_sem, *] at q1c0_15; have q1c0_16 := hb.cell (p := ⟨w.heap.size, 16, none⟩) (by first | omega | (simp <;> omega)); simp [go_sem, *] at q1c0_16; have q1f0 := fun o => hb.frozen (p := ⟨w.heap.size, o, none⟩) (by first | omega | (simp <;> omega)); simp [go_sem, *] at q1f0; have q1o : ∀ b o, b < w.heap.size → w1.cell? ⟨b, o, none⟩ = w.cell? ⟨b, o, none⟩ := fun b o h => q1B.cell (p := ⟨b, o, none⟩) h; have hbS := hb; have hbS1 := hb; clear hb); have HB1 := hide q1B; have t1 : w.heap.size + 2 ≤ w1.heap.size := (by omega))
        refine hK.out _ _ ?_ (fun hHeld => ?_)
        · exact fun _ _ h => absurd h (Nat.not_lt_zero _)
        clear hK K
        (try simp only [Act.put, putA, putB, putC])
        refine wpAnyH_ready (rs := [4]) (by kernel_rfl) (by simp) ?_
        refine ord_run (i := 4) (preB 5 5) rfl (by kernel_rfl) (by rfl) (fun K hK => ?_) AllReadyH.nil
        go_simp
        refine hK.out _ _ ?_ (fun hHeld => ?_)
        · exact fun _ _ h => absurd h (Nat.not_lt_zero _)
        clear hK K
        (try simp only [Act.put, putA, putB, putC])
        refine ord_take (i := 6) #[true, true, true, true, true, false, true, false, false, false] ?_ rfl (by kernel_rfl) (by kernel_rfl) (by kernel_rfl) (by kernel_rfl) (fun _ _ _ h => h) hHeld (by rfl) (fun wx hSx => ?_) ?_
        rotate_left
        · (unfold SB at hSx; go_simp; (try with_reducible rfl))
        (try simp only [Act.put, putA, putB, putC])
        refine wpAnyH_ready (rs := [5]) (by kernel_rfl) (by simp) ?_
        refine ord_run (i := 5) (preB 7 3) rfl (by kernel_rfl) (by rfl) (fun K hK => ?_) AllReadyH.nil
        go_simp
        go_wp2_with (go_at_call 85; refine (HC1.out _ _ (HS1.out.below (HB1.out.trans (by (repeat (first | (with_reducible first | exact Below.refl _ _ | assumption | refine Below.drew ?_) | ((with_reducible first | refine Below.alloc ?_ ?_ _ | refine Below.setCell ?_ ?_ _); rotate_left; (first | omega | (simp <;> omega))))))))).mono ?_; rintro r w2 ⟨D, rfl, hN, hb⟩; obtain ⟨b0, b1, b2, b3, b4, rfl⟩ := arr5 (show D.size = 5 from hN.size); obtain ⟨enb, _, _, _, eAb, ecb, _, e0, _⟩ := rd_row (e := 4) (hN.rd 0 (by decide)) (HW.out 12 (by decide)); have e0 : b0 = .slice eAb enb ecb := e0; subst e0; obtain ⟨fb1, _, e0⟩ := rd_bool (hN.rd 1 (by decide)) (HW.out 13 (by decide)); have e0 : b1 = .bool fb1 := e0; subst e0; obtain ⟨fb2, _, e0, _⟩ := rd_int (hN.rd 2 (by decide)) (HW.out 14 (by decide)); have e0 : b2 = .int .i64 fb2 := e0; subst e0; obtain ⟨fb3, _, e0, _⟩ := rd_int (hN.rd 3 (by decide)) (HW.out 15 (by decide)); have e0 : b3 = .int .i64 fb3 := e0; subst e0; obtain ⟨fb4, _, e0⟩ := rd_bool (hN.rd 4 (by decide)) (HW.out 16 (by decide)); have e0 : b4 = .bool fb4 := e0; subst e0; have HN1 := hide hN; clear hN; have HP2 := hide (show w2.heap[w.heap.size]? = some (.cells X 53 (0, 0)) from blk_below hb (by first | omega | (simp <;> omega)) HP1.out); have HR2 := hide (show w2.heap[w.heap.size + 1]? = some (.cells #[.string ⟨#[]⟩, .string ⟨#[]⟩, .string ⟨#[]⟩, .int .i64 0, .int .i64 0, .int .i64 0, .int .i64 0, .slice none 0 0, .bool false, .int .i64 0, .int .i64 0, .bool false, .slice none 0 0, .bool false, .int .i64 0, .int .i64 0, .bool false, .slice none 0 0, .slice none 0 0] 53 (0, 0)) from blk_below hb (by first | omega | (simp <;> omega)) HR1.out); (have q2B : Below w1.heap.size w1 w2 := (by refine Below.trans ?_ (hb.mono (by first | omega | (simp <;> omega))); (repeat (first | (with_reducible first | exact Below.refl _ _ | assumption | refine Below.drew ?_) | ((with_reducible first | refine Below.alloc ?_ ?_ _ | refine Below.setCell ?_ ?_ _); rotate_left; (first | omega | (simp <;> omega)))))); have q2z := hb.size; (try simp at q2z); have q2t : w1.heap.size ≤ w2.heap.size := (by omega); have q2s0 : w.heap.size < w2.heap.size := (by omega); have q2n0_0 : ¬ w2.heap.size = w.heap.size := (by omega); have q2n0_1 : ¬ w2.heap.size + 1 = w.heap.size := (by omega); have q2n0_2 : ¬ w2.heap.size + 2 = w.heap.size := (by omega); have q2c0_7 := hb.cell (p := ⟨w.heap.size, 7, none⟩) (by first | omega | (simp <;> omega)); simp [go_sem, *] at q2c0_7; have q2c0_8 := hb.cell (p := ⟨w.heap.size, 8, none⟩) (by first | omega | (simp <;> omega)); simp [go_sem, *] at q2c0_8; have q2c0_9 := hb.cell (p := ⟨w.heap.size, 9, none⟩) (by first | omega | (simp <;> omega)); simp [go_sem, *] at q2c0_9; have q2c0_10 := hb.cell (p := ⟨w.heap.size, 10, none⟩) (by first | omega | (simp <;> omega)); simp [go_sem, *] at q2c0_10; have q2c0_11 := hb.cell (p := ⟨w.heap.size, 11, none⟩) (by first | omega | (simp <;> omega)); simp [go_sem, *] at q2c0_11; have q2c0_12 := hb.cell (p := ⟨w.heap.size, 12, none⟩) (by first | omega | (simp <;> omega)); simp [go_sem, *] at q2c0_12; have q2c0_13 := hb.cell (p := ⟨w.heap.size, 13, none⟩) (by first | omega | (simp <;> omega)); simp [go_sem, *] at q2c0_13; have q2c0_14 := hb.cell (p := ⟨w.heap.size, 14, none⟩) (by first | omega | (simp <;> omega)); simp [go_sem, *] at q2c0_14; have q2c0_15 := hb.cell (p := ⟨w.heap.size, 15, none⟩) (by first | omega | (simp <;> omega)); simp [go_sem, *] at q2c0_15; have q2c0_16 := hb.cell (p := ⟨w.heap.size, 16, none⟩) (by first | omega | (simp <;> omega)); simp [go_sem, *] at q2c0_16; have q2f0 := fun o => hb.frozen (p := ⟨w.heap.size, o, none⟩) (by first | omega | (simp <;> omega)); simp [go_sem, *] at q2f0; have q2o : ∀ b o, b < w1.heap.size → w2.cell? ⟨b, o, none⟩ = w1.cell? ⟨b, o, none⟩ := fun b o h => q2B.cell (p := ⟨b, o, none⟩) h; have hbS := hb; have hbS2 := hb; clear hb); have HQ2 := hide q2B; have t2 : w.heap.size + 2 ≤ w2.heap.size := (by omega))
        refine hK.out _ _ ?_ (fun hHeld => ?_)
        · exact fun _ _ h => absurd h (Nat.not_lt_zero _)
        clear hK K
        (try simp only [Act.put, putA, putB, putC])
        refine wpAnyH_ready (rs := [7]) (by kernel_rfl) (by simp) ?_
        refine ord_run (i := 7) (preB 8 2) rfl (by kernel_rfl) (by rfl) (fun K hK => ?_) AllReadyH.nil
        go_simp
        refine hK.out _ _ ?_ (fun hHeld => ?_)
        · exact fun _ _ h => absurd h (Nat.not_lt_zero _)
        clear hK K
        (try simp only [Act.put, putA, putB, putC])
        refine ord_take (i := 8) (preB 9 1) ?_ rfl (by kernel_rfl) (by kernel_rfl) (by kernel_rfl) (by kernel_rfl) (fun _ _ _ h => h) hHeld (by rfl) (fun wx hSx => ?_) ?_
        rotate_left
        · (unfold SB at hSx; go_simp; (try with_reducible rfl))
        (try simp only [Act.put, putA, putB, putC])
        refine wpAnyH_ready (rs := [9]) (by kernel_rfl) (by simp) ?_
        refine ord_run (i := 9) (preB 10 0) rfl (by kernel_rfl) (by rfl) (fun K hK => ?_) AllReadyH.nil
        go_simp
        refine hK.out _ _ ?_ (fun hHeld => ?_)
        · exact fun _ _ h => absurd h (Nat.not_lt_zero _)
        clear hK K
        (try simp only [Act.put, putA, putB, putC])
        refine wpAnyH_done (by kernel_rfl) ?_ _
        go_wp2_with fail
        go_meet
        have xp := HP2.out
        have xr := HR2.out
        exact ⟨_, _, _, _, _, _, _, _, _, _, (blk_setCell (blk_setCell (blk_setCell (blk_setCell (blk_setCell (blk_setCell (blk_setCell (blk_setCell (blk_setCell (blk_setCell (HP2.out))))))))))), (blk_setOther (by simp) (blk_setOther (by simp) (blk_setOther (by simp) (blk_setOther (by simp) (blk_setOther (by simp) (blk_setOther (by simp) (blk_setOther (by simp) (blk_setOther (by simp) (blk_setOther (by simp) (blk_setOther (by simp) (HR2.out))))))))))), (HN0.out.mono (S' := New (w.heap.size + 2) w2) (fun b h => ⟨by have h3 := h.1; (try simp at h3); omega, Nat.lt_of_lt_of_le h.2 HQ2.out.size⟩) (fun b h => HQ2.out.block b h.2)).mono (fun b h => ⟨h.1, by have := h.2; simp; omega⟩) (fun b h => by have h1 : w.heap.size + 2 ≤ b := h.1; repeat (first | (with_reducible exact rfl) | (refine (Go.Deep.blk_setCell_other _ _ _ _ (by have h3 := h1; (try simp at h3); (first | omega | (simp; omega)))).trans ?_))), (HN1.out.mono (S' := New (w.heap.size + 2) w2) (fun b h => ⟨by have h3 := h.1; (try simp at h3); omega, h.2⟩) (fun _ _ => rfl)).mono (fun b h => ⟨h.1, by have := h.2; simp; omega⟩) (fun b h => by have h1 : w.heap.size + 2 ≤ b := h.1; repeat (first | (with_reducible exact rfl) | (refine (Go.Deep.blk_setCell_other _ _ _ _ (by have h3 := h1; (try simp at h3); (first | omega | (simp; omega)))).trans ?_))), (HB1.out.trans ((HQ2.out.mono HB1.out.size).trans (by (repeat (first | (with_reducible first | exact Below.refl _ _ | assumption | refine Below.drew ?_) | ((with_reducible first | refine Below.alloc ?_ ?_ _ | refine Below.setCell ?_ ?_ _); rotate_left; (first | omega | (simp <;> omega)))))))), (by simp; omega)⟩
      refine ord_run (i := 4) #[true, true, false, true, true, false, false, false, false, false] rfl (by kernel_rfl) (by rfl) (fun K hK => ?_) ?_
      · go_simp
        refine hK.out _ _ ?_ (fun hHeld => ?_)
        · exact fun _ _ h => absurd h (Nat.not_lt_zero _)
        clear hK K
        (try simp only [Act.put, putA, putB, putC])
        refine wpAnyH_ready (rs := [2]) (by kernel_rfl) (by simp) ?_
        refine ord_run (i := 2) (preB 5 5) rfl (by kernel_rfl) (by rfl) (fun K hK => ?_) AllReadyH.nil
        go_simp
        go_wp2_with (go_at_call 85; refine (HC0.out _ _ (HS0.out.below (by (repeat (first | (with_reducible first | exact Below.refl _ _ | assumption | refine Below.drew ?_) | ((with_reducible first | refine Below.alloc ?_ ?_ _ | refine Below.setCell ?_ ?_ _); rotate_left; (first | omega | (simp <;> omega)))))))).mono ?_; rintro r w1 ⟨D, rfl, hN, hb⟩; obtain ⟨a0, a1, a2, a3, a4, rfl⟩ := arr5 (show D.size = 5 from hN.size); obtain ⟨ena, _, _, _, eAa, eca, _, e0, _⟩ := rd_row (e := 4) (hN.rd 0 (by decide)) (HW.out 7 (by decide)); have e0 : a0 = .slice eAa ena eca := e0; subst e0; obtain ⟨fa1, _, e0⟩ := rd_bool (hN.rd 1 (by decide)) (HW.out 8 (by decide)); have e0 : a1 = .bool fa1 := e0; subst e0; obtain ⟨fa2, _, e0, _⟩ := rd_int (hN.rd 2 (by decide)) (HW.out 9 (by decide)); have e0 : a2 = .int .i64 fa2 := e0; subst e0; obtain ⟨fa3, _, e0, _⟩ := rd_int (hN.rd 3 (by decide)) (HW.out 10 (by decide)); have e0 : a3 = .int .i64 fa3 := e0; subst e0; obtain ⟨fa4, _, e0⟩ := rd_bool (hN.rd 4 (by decide)) (HW.out 11 (by decide)); have e0 : a4 = .bool fa4 := e0; subst e0; have HN0 := hide hN; clear hN; have HP1 := hide (show w1.heap[w.heap.size]? = some (.cells X 53 (0, 0)) from blk_below hb (by first | omega | (simp <;> omega)) (by repeat (first | (exact blk_new (by simp)) | (with_reducible refine blk_drew ?_) | (with_reducible refine blk_under ?_)))); have HR1 := hide (show w1.heap[w.heap.size + 1]? = some (.cells #[.string ⟨#[]⟩, .string ⟨#[]⟩, .string ⟨#[]⟩, .int .i64 0, .int .i64 0, .int .i64 0, .int .i64 0, .slice none 0 0, .bool false, .int .i64 0, .int .i64 0, .bool false, .slice none 0 0, .bool false, .int .i64 0, .int .i64 0, .bool false, .slice none 0 0, .slice none 0 0] 53 (0, 0)) from blk_below hb (by first | omega | (simp <;> omega)) (by first | exact blk_new (by simp) | exact blk_drew (blk_new (by simp)))); (have q1B : Below w.heap.size w w1 := (by refine Below.trans ?_ (hb.mono (by first | omega | (simp <;> omega))); (repeat (first | (with_reducible first | exact Below.refl _ _ | assumption | refine Below.drew ?_) | ((with_reducible first | refine Below.alloc ?_ ?_ _ | refine Below.setCell ?_ ?_ _); rotate_left; (first | omega | (simp <;> omega)))))); have q1z := hb.size; (try simp at q1z); have q1t : w.heap.size ≤ w1.heap.size := (by omega); have q1s0 : w.heap.size < w1.heap.size := (by omega); have q1n0_0 : ¬ w1.heap.size = w.heap.size := (by omega); have q1n0_1 : ¬ w1.heap.size + 1 = w.heap.size := (by omega); have q1n0_2 : ¬ w1.heap.size + 2 = w.heap.size := (by omega); have q1c0_7 := hb.cell (p := ⟨w.heap.size, 7, none⟩) (by first | omega | (simp <;> omega)); simp [go_sem, *] at q1c0_7; have q1c0_8 := hb.cell (p := ⟨w.heap.size, 8, none⟩) (by first | omega | (simp <;> omega)); simp [go_sem, *] at q1c0_8; have q1c0_9 := hb.cell (p := ⟨w.heap.size, 9, none⟩) (by first | omega | (simp <;> omega)); simp [go_sem, *] at q1c0_9; have q1c0_10 := hb.cell (p := ⟨w.heap.size, 10, none⟩) (by first | omega | (simp <;> omega)); simp [go_sem, *] at q1c0_10; have q1c0_11 := hb.cell (p := ⟨w.heap.size, 11, none⟩) (by first | omega | (simp <;> omega)); simp [go_sem, *] at q1c0_11; have q1c0_12 := hb.cell (p := ⟨w.heap.size, 12, none⟩) (by first | omega | (simp <;> omega)); simp [go_sem, *] at q1c0_12; have q1c0_13 := hb.cell (p := ⟨w.heap.size, 13, none⟩) (by first | omega | (simp <;> omega)); simp [go_sem, *] at q1c0_13; have q1c0_14 := hb.cell (p := ⟨w.heap.size, 14, none⟩) (by first | omega | (simp <;> omega)); simp [go_sem, *] at q1c0_14; have q1c0_15 := hb.cell (p := ⟨w.heap.size, 15, none⟩) (by first | omega | (simp <;> omega)); simp [go_sem, *] at q1c0_15; have q1c0_16 := hb.cell (p := ⟨w.heap.size, 16, none⟩) (by first | omega | (simp <;> omega)); simp [go_sem, *] at q1c0_16; have q1f0 := fun o => hb.frozen (p := ⟨w.heap.size, o, none⟩) (by first | omega | (simp <;> omega)); simp [go_sem, *] at q1f0; have q1o : ∀ b o, b < w.heap.size → w1.cell? ⟨b, o, none⟩ = w.cell? ⟨b, o, none⟩ := fun b o h => q1B.cell (p := ⟨b, o, none⟩) h; have hbS := hb; have hbS1 := hb; clear hb); have HB1 := hide q1B; have t1 : w.heap.size + 2 ≤ w1.heap.size := (by omega))
        refine hK.out _ _ ?_ (fun hHeld => ?_)
        · exact fun _ _ h => absurd h (Nat.not_lt_zero _)
        clear hK K
        (try simp only [Act.put, putA, putB, putC])
        refine ord_take (i := 6) #[true, true, true, true, true, false, true, false, false, false] ?_ rfl (by kernel_rfl) (by kernel_rfl) (by kernel_rfl) (by kernel_rfl) (fun _ _ _ h => h) hHeld (by rfl) (fun wx hSx => ?_) ?_
        rotate_left
        · (unfold SB at hSx; go_simp; (try with_reducible rfl))
        (try simp only [Act.put, putA, putB, putC])
        refine wpAnyH_ready (rs := [5]) (by kernel_rfl) (by simp) ?_
        refine ord_run (i := 5) (preB 7 3) rfl (by kernel_rfl) (by rfl) (fun K hK => ?_) AllReadyH.nil
        go_simp
        go_wp2_with (go_at_call 85; refine (HC1.out _ _ (HS1.out.below (HB1.out.trans (by (repeat (first | (with_reducible first | exact Below.refl _ _ | assumption | refine Below.drew ?_) | ((with_reducible first | refine Below.alloc ?_ ?_ _ | refine Below.setCell ?_ ?_ _); rotate_left; (first | omega | (simp <;> omega))))))))).mono ?_; rintro r w2 ⟨D, rfl, hN, hb⟩; obtain ⟨b0, b1, b2, b3, b4, rfl⟩ := arr5 (show D.size = 5 from hN.size); obtain ⟨enb, _, _, _, eAb, ecb, _, e0, _⟩ := rd_row (e := 4) (hN.rd 0 (by decide)) (HW.out 12 (by decide)); have e0 : b0 = .slice eAb enb ecb := e0; subst e0; obtain ⟨fb1, _, e0⟩ := rd_bool (hN.rd 1 (by decide)) (HW.out 13 (by decide)); have e0 : b1 = .bool fb1 := e0; subst e0; obtain ⟨fb2, _, e0, _⟩ := rd_int (hN.rd 2 (by decide)) (HW.out 14 (by decide)); have e0 : b2 = .int .i64 fb2 := e0; subst e0; obtain ⟨fb3, _, e0, _⟩ := rd_int (hN.rd 3 (by decide)) (HW.out 15 (by decide)); have e0 : b3 = .int .i64 fb3 := e0; subst e0; obtain ⟨fb4, _, e0⟩ := rd_bool (hN.rd 4 (by decide)) (HW.out 16 (by decide)); have e0 : b4 = .bool fb4 := e0; subst e0; have HN1 := hide hN; clear hN; have HP2 := hide (show w2.heap[w.heap.size]? = some (.cells X 53 (0, 0)) from blk_below hb (by first | omega | (simp <;> omega)) HP1.out); have HR2 := hide (show w2.heap[w.heap.size + 1]? = some (.cells #[.string ⟨#[]⟩, .string ⟨#[]⟩, .string ⟨#[]⟩, .int .i64 0, .int .i64 0, .int .i64 0, .int .i64 0, .slice none 0 0, .bool false, .int .i64 0, .int .i64 0, .bool false, .slice none 0 0, .bool false, .int .i64 0, .int .i64 0, .bool false, .slice none 0 0, .slice none 0 0] 53 (0, 0)) from blk_below hb (by first | omega | (simp <;> omega)) HR1.out); (have q2B : Below w1.heap.size w1 w2 := (by refine Below.trans ?_ (hb.mono (by first | omega | (simp <;> omega))); (repeat (first | (with_reducible first | exact Below.refl _ _ | assumption | refine Below.drew ?_) | ((with_reducible first | refine Below.alloc ?_ ?_ _ | refine Below.setCell ?_ ?_ _); rotate_left; (first | omega | (simp <;> omega)))))); have q2z := hb.size; (try simp at q2z); have q2t : w1.heap.size ≤ w2.heap.size := (by omega); have q2s0 : w.heap.size < w2.heap.size := (by omega); have q2n0_0 : ¬ w2.heap.size = w.heap.size := (by omega); have q2n0_1 : ¬ w2.heap.size + 1 = w.heap.size := (by omega); have q2n0_2 : ¬ w2.heap.size + 2 = w.heap.size := (by omega); have q2c0_7 := hb.cell (p := ⟨w.heap.size, 7, none⟩) (by first | omega | (simp <;> omega)); simp [go_sem, *] at q2c0_7; have q2c0_8 := hb.cell (p := ⟨w.heap.size, 8, none⟩) (by first | omega | (simp <;> omega)); simp [go_sem, *] at q2c0_8; have q2c0_9 := hb.cell (p := ⟨w.heap.size, 9, none⟩) (by first | omega | (simp <;> omega)); simp [go_sem, *] at q2c0_9; have q2c0_10 := hb.cell (p := ⟨w.heap.size, 10, none⟩) (by first | omega | (simp <;> omega)); simp [go_sem, *] at q2c0_10; have q2c0_11 := hb.cell (p := ⟨w.heap.size, 11, none⟩) (by first | omega | (simp <;> omega)); simp [go_sem, *] at q2c0_11; have q2c0_12 := hb.cell (p := ⟨w.heap.size, 12, none⟩) (by first | omega | (simp <;> omega)); simp [go_sem, *] at q2c0_12; have q2c0_13 := hb.cell (p := ⟨w.heap.size, 13, none⟩) (by first | omega | (simp <;> omega)); simp [go_sem, *] at q2c0_13; have q2c0_14 := hb.cell (p := ⟨w.heap.size, 14, none⟩) (by first | omega | (simp <;> omega)); simp [go_sem, *] at q2c0_14; have q2c0_15 := hb.cell (p := ⟨w.heap.size, 15, none⟩) (by first | omega | (simp <;> omega)); simp [go_sem, *] at q2c0_15; have q2c0_16 := hb.cell (p := ⟨w.heap.size, 16, none⟩) (by first | omega | (simp <;> omega)); simp [go_sem, *] at q2c0_16; have q2f0 := fun o => hb.frozen (p := ⟨w.heap.size, o, none⟩) (by first | omega | (simp <;> omega)); simp [go_sem, *] at q2f0; have q2o : ∀ b o, b < w1.heap.size → w2.cell? ⟨b, o, none⟩ = w1.cell? ⟨b, o, none⟩ := fun b o h => q2B.cell (p := ⟨b, o, none⟩) h; have hbS := hb; have hbS2 := hb; clear hb); have HQ2 := hide q2B; have t2 : w.heap.size + 2 ≤ w2.heap.size := (by omega))
        refine hK.out _ _ ?_ (fun hHeld => ?_)
        · exact fun _ _ h => absurd h (Nat.not_lt_zero _)
        clear hK K
        (try simp only [Act.put, putA, putB, putC])
        refine wpAnyH_ready (rs := [7]) (by kernel_rfl) (by simp) ?_
        refine ord_run (i := 7) (preB 8 2) rfl (by kernel_rfl) (by rfl) (fun K hK => ?_) AllReadyH.nil
        go_simp
        refine hK.out _ _ ?_ (fun hHeld => ?_)
        · exact fun _ _ h => absurd h (Nat.not_lt_zero _)
        clear hK K
        (try simp only [Act.put, putA, putB, putC])
        refine ord_take (i := 8) (preB 9 1) ?_ rfl (by kernel_rfl) (by kernel_rfl) (by kernel_rfl) (by kernel_rfl) (fun _ _ _ h => h) hHeld (by rfl) (fun wx hSx => ?_) ?_
        rotate_left
        · (unfold SB at hSx; go_simp; (try with_reducible rfl))
        (try simp only [Act.put, putA, putB, putC])
        refine wpAnyH_ready (rs := [9]) (by kernel_rfl) (by simp) ?_
        refine ord_run (i := 9) (preB 10 0) rfl (by kernel_rfl) (by rfl) (fun K hK => ?_) AllReadyH.nil
        go_simp
        refine hK.out _ _ ?_ (fun hHeld => ?_)
        · exact fun _ _ h => absurd h (Nat.not_lt_zero _)
        clear hK K
        (try simp only [Act.put, putA, putB, putC])
        refine wpAnyH_done (by kernel_rfl) ?_ _
        go_wp2_with fail
        go_meet
        have xp := HP2.out
        have xr := HR2.out
        exact ⟨_, _, _, _, _, _, _, _, _, _, (blk_setCell (blk_setCell (blk_setCell (blk_setCell (blk_setCell (blk_setCell (blk_setCell (blk_setCell (blk_setCell (blk_setCell (HP2.out))))))))))), (blk_setOther (by simp) (blk_setOther (by simp) (blk_setOther (by simp) (blk_setOther (by simp) (blk_setOther (by simp) (blk_setOther (by simp) (blk_setOther (by simp) (blk_setOther (by simp) (blk_setOther (by simp) (blk_setOther (by simp) (HR2.out))))))))))), (HN0.out.mono (S' := New (w.heap.size + 2) w2) (fun b h => ⟨by have h3 := h.1; (try simp at h3); omega, Nat.lt_of_lt_of_le h.2 HQ2.out.size⟩) (fun b h => HQ2.out.block b h.2)).mono (fun b h => ⟨h.1, by have := h.2; simp; omega⟩) (fun b h => by have h1 : w.heap.size + 2 ≤ b := h.1; repeat (first | (with_reducible exact rfl) | (refine (Go.Deep.blk_setCell_other _ _ _ _ (by have h3 := h1; (try simp at h3); (first | omega | (simp; omega)))).trans ?_))), (HN1.out.mono (S' := New (w.heap.size + 2) w2) (fun b h => ⟨by have h3 := h.1; (try simp at h3); omega, h.2⟩) (fun _ _ => rfl)).mono (fun b h => ⟨h.1, by have := h.2; simp; omega⟩) (fun b h => by have h1 : w.heap.size + 2 ≤ b := h.1; repeat (first | (with_reducible exact rfl) | (refine (Go.Deep.blk_setCell_other _ _ _ _ (by have h3 := h1; (try simp at h3); (first | omega | (simp; omega)))).trans ?_))), (HB1.out.trans ((HQ2.out.mono HB1.out.size).trans (by (repeat (first | (with_reducible first | exact Below.refl _ _ | assumption | refine Below.drew ?_) | ((with_reducible first | refine Below.alloc ?_ ?_ _ | refine Below.setCell ?_ ?_ _); rotate_left; (first | omega | (simp <;> omega)))))))), (by simp; omega)⟩
      exact AllReadyH.nil
    refine ord_run (i := 4) #[true, false, false, true, true, false, false, false, false, false] rfl (by kernel_rfl) (by rfl) (fun K hK => ?_) ?_
    · go_simp
      refine hK.out _ _ ?_ (fun hHeld => ?_)
      · exact fun _ _ h => absurd h (Nat.not_lt_zero _)
      clear hK K
      (try simp only [Act.put, putA, putB, putC])
      refine wpAnyH_ready (rs := [1]) (by kernel_rfl) (by simp) ?_
      refine ord_run (i := 1) #[true, true, false, true, true, false, false, false, false, false] rfl (by kernel_rfl) (by rfl) (fun K hK => ?_) AllReadyH.nil
      go_simp
      refine hK.out _ _ ?_ (fun hHeld => ?_)
      · exact fun _ _ h => absurd h (Nat.not_lt_zero _)
      clear hK K
      (try simp only [Act.put, putA, putB, putC])
      refine wpAnyH_ready (rs := [2]) (by kernel_rfl) (by simp) ?_
      refine ord_run (i := 2) (preB 5 5) rfl (by kernel_rfl) (by rfl) (fun K hK => ?_) AllReadyH.nil
      go_simp
      go_wp2_with (go_at_call 85; refine (HC0.out _ _ (HS0.out.below (by (repeat (first | (with_reducible first | exact Below.refl _ _ | assumption | refine Below.drew ?_) | ((with_reducible first | refine Below.alloc ?_ ?_ _ | refine Below.setCell ?_ ?_ _); rotate_left; (first | omega | (simp <;> omega)))))))).mono ?_; rintro r w1 ⟨D, rfl, hN, hb⟩; obtain ⟨a0, a1, a2, a3, a4, rfl⟩ := arr5 (show D.size = 5 from hN.size); obtain ⟨ena, _, _, _, eAa, eca, _, e0, _⟩ := rd_row (e := 4) (hN.rd 0 (by decide)) (HW.out 7 (by decide)); have e0 : a0 = .slice eAa ena eca := e0; subst e0; obtain ⟨fa1, _, e0⟩ := rd_bool (hN.rd 1 (by decide)) (HW.out 8 (by decide)); have e0 : a1 = .bool fa1 := e0; subst e0; obtain ⟨fa2, _, e0, _⟩ := rd_int (hN.rd 2 (by decide)) (HW.out 9 (by decide)); have e0 : a2 = .int .i64 fa2 := e0; subst e0; obtain ⟨fa3, _, e0, _⟩ := rd_int (hN.rd 3 (by decide)) (HW.out 10 (by decide)); have e0 : a3 = .int .i64 fa3 := e0; subst e0; obtain ⟨fa4, _, e0⟩ := rd_bool (hN.rd 4 (by decide)) (HW.out 11 (by decide)); have e0 : a4 = .bool fa4 := e0; subst e0; have HN0 := hide hN; clear hN; have HP1 := hide (show w1.heap[w.heap.size]? = some (.cells X 53 (0, 0)) from blk_below hb (by first | omega | (simp <;> omega)) (by repeat (first | (exact blk_new (by simp)) | (with_reducible refine blk_drew ?_) | (with_reducible refine blk_under ?_)))); have HR1 := hide (show w1.heap[w.heap.size + 1]? = some (.cells #[.string ⟨#[]⟩, .string ⟨#[]⟩, .string ⟨#[]⟩, .int .i64 0, .int .i64 0, .int .i64 0, .int .i64 0, .slice none 0 0, .bool false, .int .i64 0, .int .i64 0, .bool false, .slice none 0 0, .bool false, .int .i64 0, .int .i64 0, .bool false, .slice none 0 0, .slice none 0 0] 53 (0, 0)) from blk_below hb (by first | omega | (simp <;> omega)) (by first | exact blk_new (by simp) | exact blk_drew (blk_new (by simp)))); (have q1B : Below w.heap.size w w1 := (by refine Below.trans ?_ (hb.mono (by first | omega | (simp <;> omega))); (repeat (first | (with_reducible first | exact Below.refl _ _ | assumption | refine Below.drew ?_) | ((with_reducible first | refine Below.alloc ?_ ?_ _ | refine Below.setCell ?_ ?_ _); rotate_left; (first | omega | (simp <;> omega)))))); have q1z := hb.size; (try simp at q1z); have q1t : w.heap.size ≤ w1.heap.size := (by omega); have q1s0 : w.heap.size < w1.heap.size := (by omega); have q1n0_0 : ¬ w1.heap.size = w.heap.size := (by omega); have q1n0_1 : ¬ w1.heap.size + 1 = w.heap.size := (by omega); have q1n0_2 : ¬ w1.heap.size + 2 = w.heap.size := (by omega); have q1c0_7 := hb.cell (p := ⟨w.heap.size, 7, none⟩) (by first | omega | (simp <;> omega)); simp [go_sem, *] at q1c0_7; have q1c0_8 := hb.cell (p := ⟨w.heap.size, 8, none⟩) (by first | omega | (simp <;> omega)); simp [go_sem, *] at q1c0_8; have q1c0_9 := hb.cell (p := ⟨w.heap.size, 9, none⟩) (by first | omega | (simp <;> omega)); simp [go_sem, *] at q1c0_9; have q1c0_10 := hb.cell (p := ⟨w.heap.size, 10, none⟩) (by first | omega | (simp <;> omega)); simp [go_sem, *] at q1c0_10; have q1c0_11 := hb.cell (p := ⟨w.heap.size, 11, none⟩) (by first | omega | (simp <;> omega)); simp [go_sem, *] at q1c0_11; have q1c0_12 := hb.cell (p := ⟨w.heap.size, 12, none⟩) (by first | omega | (simp <;> omega)); simp [go_sem, *] at q1c0_12; have q1c0_13 := hb.cell (p := ⟨w.heap.size, 13, none⟩) (by first | omega | (simp <;> omega)); simp [go_sem, *] at q1c0_13; have q1c0_14 := hb.cell (p := ⟨w.heap.size, 14, none⟩) (by first | omega | (simp <;> omega)); simp [go_sem, *] at q1c0_14; have q1c0_15 := hb.cell (p := ⟨w.heap.size, 15, none⟩) (by first | omega | (simp <;> omega)); simp [go_sem, *] at q1c0_15; have q1c0_16 := hb.cell (p := ⟨w.heap.size, 16, none⟩) (by first | omega | (simp <;> omega)); simp [go_sem, *] at q1c0_16; have q1f0 := fun o => hb.frozen (p := ⟨w.heap.size, o, none⟩) (by first | omega | (simp <;> omega)); simp [go_sem, *] at q1f0; have q1o : ∀ b o, b < w.heap.size → w1.cell? ⟨b, o, none⟩ = w.cell? ⟨b, o, none⟩ := fun b o h => q1B.cell (p := ⟨b, o, none⟩) h; have hbS := hb; have hbS1 := hb; clear hb); have HB1 := hide q1B; have t1 : w.heap.size + 2 ≤ w1.heap.size := (by omega))
      refine hK.out _ _ ?_ (fun hHeld => ?_)
      · exact fun _ _ h => absurd h (Nat.not_lt_zero _)
      clear hK K
      (try simp only [Act.put, putA, putB, putC])
      refine ord_take (i := 6) #[true, true, true, true, true, false, true, false, false, false] ?_ rfl (by kernel_rfl) (by kernel_rfl) (by kernel_rfl) (by kernel_rfl) (fun _ _ _ h => h) hHeld (by rfl) (fun wx hSx => ?_) ?_
      rotate_left
      · (unfold SB at hSx; go_simp; (try with_reducible rfl))
      (try simp only [Act.put, putA, putB, putC])
      refine wpAnyH_ready (rs := [5]) (by kernel_rfl) (by simp) ?_
      refine ord_run (i := 5) (preB 7 3) rfl (by kernel_rfl) (by rfl) (fun K hK => ?_) AllReadyH.nil
      go_simp
      go_wp2_with (go_at_call 85; refine (HC1.out _ _ (HS1.out.below (HB1.out.trans (by (repeat (first | (with_reducible first | exact Below.refl _ _ | assumption | refine Below.drew ?_) | ((with_reducible first | refine Below.alloc ?_ ?_ _ | refine Below.setCell ?_ ?_ _); rotate_left; (first | omega | (simp <;> omega))))))))).mono ?_; rintro r w2 ⟨D, rfl, hN, hb⟩; obtain ⟨b0, b1, b2, b3, b4, rfl⟩ := arr5 (show D.size = 5 from hN.size); obtain ⟨enb, _, _, _, eAb, ecb, _, e0, _⟩ := rd_row (e := 4) (hN.rd 0 (by decide)) (HW.out 12 (by decide)); have e0 : b0 = .slice eAb enb ecb := e0; subst e0; obtain ⟨fb1, _, e0⟩ := rd_bool (hN.rd 1 (by decide)) (HW.out 13 (by decide)); have e0 : b1 = .bool fb1 := e0; subst e0; obtain ⟨fb2, _, e0, _⟩ := rd_int (hN.rd 2 (by decide)) (HW.out 14 (by decide)); have e0 : b2 = .int .i64 fb2 := e0; subst e0; obtain ⟨fb3, _, e0, _⟩ := rd_int (hN.rd 3 (by decide)) (HW.out 15 (by decide)); have e0 : b3 = .int .i64 fb3 := e0; subst e0; obtain ⟨fb4, _, e0⟩ := rd_bool (hN.rd 4 (by decide)) (HW.out 16 (by decide)); have e0 : b4 = .bool fb4 := e0; subst e0; have HN1 := hide hN; clear hN; have HP2 := hide (show w2.heap[w.heap.size]? = some (.cells X 53 (0, 0)) from blk_below hb (by first | omega | (simp <;> omega)) HP1.out); have HR2 := hide (show w2.heap[w.heap.size + 1]? = some (.cells #[.string ⟨#[]⟩, .string ⟨#[]⟩, .string ⟨#[]⟩, .int .i64 0, .int .i64 0, .int .i64 0, .int .i64 0, .slice none 0 0, .bool false, .int .i64 0, .int .i64 0, .bool false, .slice none 0 0, .bool false, .int .i64 0, .int .i64 0, .bool false, .slice none 0 0, .slice none 0 0] 53 (0, 0)) from blk_below hb (by first | omega | (simp <;> omega)) HR1.out); (have q2B : Below w1.heap.size w1 w2 := (by refine Below.trans ?_ (hb.mono (by first | omega | (simp <;> omega))); (repeat (first | (with_reducible first | exact Below.refl _ _ | assumption | refine Below.drew ?_) | ((with_reducible first | refine Below.alloc ?_ ?_ _ | refine Below.setCell ?_ ?_ _); rotate_left; (first | omega | (simp <;> omega)))))); have q2z := hb.size; (try simp at q2z); have q2t : w1.heap.size ≤ w2.heap.size := (by omega); have q2s0 : w.heap.size < w2.heap.size := (by omega); have q2n0_0 : ¬ w2.heap.size = w.heap.size := (by omega); have q2n0_1 : ¬ w2.heap.size + 1 = w.heap.size := (by omega); have q2n0_2 : ¬ w2.heap.size + 2 = w.heap.size := (by omega); have q2c0_7 := hb.cell (p := ⟨w.heap.size, 7, none⟩) (by first | omega | (simp <;> omega)); simp [go_sem, *] at q2c0_7; have q2c0_8 := hb.cell (p := ⟨w.heap.size, 8, none⟩) (by first | omega | (simp <;> omega)); simp [go_sem, *] at q2c0_8; have q2c0_9 := hb.cell (p := ⟨w.heap.size, 9, none⟩) (by first | omega | (simp <;> omega)); simp [go_sem, *] at q2c0_9; have q2c0_10 := hb.cell (p := ⟨w.heap.size, 10, none⟩) (by first | omega | (simp <;> omega)); simp [go_sem, *] at q2c0_10; have q2c0_11 := hb.cell (p := ⟨w.heap.size, 11, none⟩) (by first | omega | (simp <;> omega)); simp [go_sem, *] at q2c0_11; have q2c0_12 := hb.cell (p := ⟨w.heap.size, 12, none⟩) (by first | omega | (simp <;> omega)); simp [go_sem, *] at q2c0_12; have q2c0_13 := hb.cell (p := ⟨w.heap.size, 13, none⟩) (by first | omega | (simp <;> omega)); simp [go_sem, *] at q2c0_13; have q2c0_14 := hb.cell (p := ⟨w.heap.size, 14, none⟩) (by first | omega | (simp <;> omega)); simp [go_sem, *] at q2c0_14; have q2c0_15 := hb.cell (p := ⟨w.heap.size, 15, none⟩) (by first | omega | (simp <;> omega)); simp [go_sem, *] at q2c0_15; have q2c0_16 := hb.cell (p := ⟨w.heap.size, 16, none⟩) (by first | omega | (simp <;> omega)); simp [go_sem, *] at q2c0_16; have q2f0 := fun o => hb.frozen (p := ⟨w.heap.size, o, none⟩) (by first | omega | (simp <;> omega)); simp [go_sem, *] at q2f0; have q2o : ∀ b o, b < w1.heap.size → w2.cell? ⟨b, o, none⟩ = w1.cell? ⟨b, o, none⟩ := fun b o h => q2B.cell (p := ⟨b, o, none⟩) h; have hbS := hb; have hbS2 := hb; clear hb); have HQ2 := hide q2B; have t2 : w.heap.size + 2 ≤ w2.heap.size := (by omega))
      refine hK.out _ _ ?_ (fun hHeld => ?_)
      · exact fun _ _ h => absurd h (Nat.not_lt_zero _)
      clear hK K
      (try simp only [Act.put, putA, putB, putC])
      refine wpAnyH_ready (rs := [7]) (by kernel_rfl) (by simp) ?_
      refine ord_run (i := 7) (preB 8 2) rfl (by kernel_rfl) (by rfl) (fun K hK => ?_) AllReadyH.nil
      go_simp
      refine hK.out _ _ ?_ (fun hHeld => ?_)
      · exact fun _ _ h => absurd h (Nat.not_lt_zero _)
      clear hK K
      (try simp only [Act.put, putA, putB, putC])
      refine ord_take (i := 8) (preB 9 1) ?_ rfl (by kernel_rfl) (by kernel_rfl) (by kernel_rfl) (by kernel_rfl) (fun _ _ _ h => h) hHeld (by rfl) (fun wx hSx => ?_) ?_
      rotate_left
      · (unfold SB at hSx; go_simp; (try with_reducible rfl))
      (try simp only [Act.put, putA, putB, putC])
      refine wpAnyH_ready (rs := [9]) (by kernel_rfl) (by simp) ?_
      refine ord_run (i := 9) (preB 10 0) rfl (by kernel_rfl) (by rfl) (fun K hK => ?_) AllReadyH.nil
      go_simp
      refine hK.out _ _ ?_ (fun hHeld => ?_)
      · exact fun _ _ h => absurd h (Nat.not_lt_zero _)
      clear hK K
      (try simp only [Act.put, putA, putB, putC])
      refine wpAnyH_done (by kernel_rfl) ?_ _
      go_wp2_with fail
      go_meet
      have xp := HP2.out
      have xr := HR2.out
      exact ⟨_, _, _, _, _, _, _, _, _, _, (blk_setCell (blk_setCell (blk_setCell (blk_setCell (blk_setCell (blk_setCell (blk_setCell (blk_setCell (blk_setCell (blk_setCell (HP2.out))))))))))), (blk_setOther (by simp) (blk_setOther (by simp) (blk_setOther (by simp) (blk_setOther (by simp) (blk_setOther (by simp) (blk_setOther (by simp) (blk_setOther (by simp) (blk_setOther (by simp) (blk_setOther (by simp) (blk_setOther (by simp) (HR2.out))))))))))), (HN0.out.mono (S' := New (w.heap.size + 2) w2) (fun b h => ⟨by have h3 := h.1; (try simp at h3); omega, Nat.lt_of_lt_of_le h.2 HQ2.out.size⟩) (fun b h => HQ2.out.block b h.2)).mono (fun b h => ⟨h.1, by have := h.2; simp; omega⟩) (fun b h => by have h1 : w.heap.size + 2 ≤ b := h.1; repeat (first | (with_reducible exact rfl) | (refine (Go.Deep.blk_setCell_other _ _ _ _ (by have h3 := h1; (try simp at h3); (first | omega | (simp; omega)))).trans ?_))), (HN1.out.mono (S' := New (w.heap.size + 2) w2) (fun b h => ⟨by have h3 := h.1; (try simp at h3); omega, h.2⟩) (fun _ _ => rfl)).mono (fun b h => ⟨h.1, by have := h.2; simp; omega⟩) (fun b h => by have h1 : w.heap.size + 2 ≤ b := h.1; repeat (first | (with_reducible exact rfl) | (refine (Go.Deep.blk_setCell_other _ _ _ _ (by have h3 := h1; (try simp at h3); (first | omega | (simp; omega)))).trans ?_))), (HB1.out.trans ((HQ2.out.mono HB1.out.size).trans (by (repeat (first | (with_reducible first | exact Below.refl _ _ | assumption | refine Below.drew ?_) | ((with_reducible first | refine Below.alloc ?_ ?_ _ | refine Below.setCell ?_ ?_ _); rotate_left; (first | omega | (simp <;> omega)))))))), (by simp; omega)⟩
    exact AllReadyH.nil
  case rest =>
    obtain ⟨a0, a1, a2, a3, a4, b0, b1, b2, b3, b4, hp, hr, h0, h1, hb, hz⟩ := hcut
    have HO := hide (show ((((((((((X.setIfInBounds 7 a0).setIfInBounds 8 a1).setIfInBounds 9 a2).setIfInBounds 10 a3).setIfInBounds 11 a4).setIfInBounds 12 b0).setIfInBounds 13 b1).setIfInBounds 14 b2).setIfInBounds 15 b3).setIfInBounds 16 b4).all (·.oneCell') = true from all_setZ (all_setZ (all_setZ (all_setZ (all_setZ (all_setZ (all_setZ (all_setZ (all_setZ (all_setZ (HX.out.ones) (one_at (X := #[a0, a1, a2, a3, a4]) (j := 0) (n := 5) rfl (by decide) h0.ones)) (one_at (X := #[a0, a1, a2, a3, a4]) (j := 1) (n := 5) rfl (by decide) h0.ones)) (one_at (X := #[a0, a1, a2, a3, a4]) (j := 2) (n := 5) rfl (by decide) h0.ones)) (one_at (X := #[a0, a1, a2, a3, a4]) (j := 3) (n := 5) rfl (by decide) h0.ones)) (one_at (X := #[a0, a1, a2, a3, a4]) (j := 4) (n := 5) rfl (by decide) h0.ones)) (one_at (X := #[b0, b1, b2, b3, b4]) (j := 0) (n := 5) rfl (by decide) h1.ones)) (one_at (X := #[b0, b1, b2, b3, b4]) (j := 1) (n := 5) rfl (by decide) h1.ones)) (one_at (X := #[b0, b1, b2, b3, b4]) (j := 2) (n := 5) rfl (by decide) h1.ones)) (one_at (X := #[b0, b1, b2, b3, b4]) (j := 3) (n := 5) rfl (by decide) h1.ones)) (one_at (X := #[b0, b1, b2, b3, b4]) (j := 4) (n := 5) rfl (by decide) h1.ones))
    obtain ⟨Y, hY⟩ : ∃ Y, Y = ((((((((((X.setIfInBounds 7 a0).setIfInBounds 8 a1).setIfInBounds 9 a2).setIfInBounds 10 a3).setIfInBounds 11 a4).setIfInBounds 12 b0).setIfInBounds 13 b1).setIfInBounds 14 b2).setIfInBounds 15 b3).setIfInBounds 16 b4) := ⟨_, rfl⟩
    have y17 : Y[17]? = some (.slice A17 n17 cap17) := by rw [hY]; exact set_ne (by decide) (set_ne (by decide) (set_ne (by decide) (set_ne (by decide) (set_ne (by decide) (set_ne (by decide) (set_ne (by decide) (set_ne (by decide) (set_ne (by decide) (set_ne (by decide) (G17.out))))))))))
    have y18 : Y[18]? = some (.slice A18 n18 cap18) := by rw [hY]; exact set_ne (by decide) (set_ne (by decide) (set_ne (by decide) (set_ne (by decide) (set_ne (by decide) (set_ne (by decide) (set_ne (by decide) (set_ne (by decide) (set_ne (by decide) (set_ne (by decide) (G18.out))))))))))
    have Y17 := hide y17
    have Y18 := hide y18
    have HYS := hide (show Y.size = 19 by rw [hY]; simp [HXS.out])
    rw [← hY] at hp HO
    have HYE := hide hY
    have HP := hide hp
    have HRR := hide hr
    have H0 := hide h0
    have H1 := hide h1
    have HB := hide hb
    have p17 := (cell_of_cells hp 17).trans y17
    have p18 := (cell_of_cells hp 18).trans y18
    have pf := free_of_cells hp
    have hlt0 : w.heap.size < wc.heap.size := by omega
    clear hp hr h0 h1 hb hY y17 y18
    go_wp2_with fail
    refine (HF.out _ (HR17.out.below (HB.out.trans (by (repeat (first | (with_reducible first | exact Below.refl _ _ | assumption | refine Below.drew ?_) | ((with_reducible first | refine Below.alloc ?_ ?_ _ | refine Below.setCell ?_ ?_ _); rotate_left; (first | omega | (simp <;> omega))))))))).mono ?_
    rintro r w3 ⟨B2, bap2, D2, rfl, hcap2, hN, hb3⟩
    have HN2 := hide hN
    have HM3 := hide (show Below wc.heap.size wc w3 from hb3)
    have HP3 := hide (show w3.heap[w.heap.size]? = some (.cells Y 53 (0, 0)) from blk_below hb3 hlt0 HP.out)
    have HR3 := hide (show w3.heap[w.heap.size + 1]? = some (.cells #[.string ⟨#[]⟩, .string ⟨#[]⟩, .string ⟨#[]⟩, .int .i64 0, .int .i64 0, .int .i64 0, .int .i64 0, .slice none 0 0, .bool false, .int .i64 0, .int .i64 0, .bool false, .slice none 0 0, .bool false, .int .i64 0, .int .i64 0, .bool false, .slice none 0 0, .slice none 0 0] 53 (0, 0)) from blk_below hb3 (by omega) HRR.out)
    have hz3 : w.heap.size + 2 ≤ w3.heap.size := Nat.le_trans hz hb3.size
    have HB3 := hide (HB.out.trans (hb3.mono (by omega)))
    clear p17 p18 pf hN hb3
    have p17 := (cell_of_cells HP3.out 17).trans Y17.out
    have p18 := (cell_of_cells HP3.out 18).trans Y18.out
    have pf := free_of_cells HP3.out
    have hlt3 : w.heap.size < w3.heap.size := by omega
    go_wp2_with fail
    refine (HG.out _ (HR18.out.below (HB3.out.trans (by (repeat (first | (with_reducible first | exact Below.refl _ _ | assumption | refine Below.drew ?_) | ((with_reducible first | refine Below.alloc ?_ ?_ _ | refine Below.setCell ?_ ?_ _); rotate_left; (first | omega | (simp <;> omega))))))))).mono ?_
    rintro r w4 ⟨B3, bap3, D3, rfl, hcap3, hN, hb4⟩
    have HN3 := hide hN
    have HM4 := hide hb4
    have HP4 := hide (show w4.heap[w.heap.size]? = some (.cells (Y.setIfInBounds 17 (.slice B2 n17 bap2)) 53 (0, 0)) from blk_below hb4 (by simp; omega) (blk_setCell HP3.out))
    have HR4 := hide (show w4.heap[w.heap.size + 1]? = some (.cells #[.string ⟨#[]⟩, .string ⟨#[]⟩, .string ⟨#[]⟩, .int .i64 0, .int .i64 0, .int .i64 0, .int .i64 0, .slice none 0 0, .bool false, .int .i64 0, .int .i64 0, .bool false, .slice none 0 0, .bool false, .int .i64 0, .int .i64 0, .bool false, .slice none 0 0, .slice none 0 0] 53 (0, 0)) from blk_below hb4 (by simp; omega) (blk_setOther (by simp) HR3.out))
    have hz4 : w3.heap.size ≤ w4.heap.size := by have := hb4.size; simpa using this
    have HB4 := hide (show Below w.heap.size w w4 from HB3.out.trans (Below.trans (by (repeat (first | (with_reducible first | exact Below.refl _ _ | assumption | refine Below.drew ?_) | ((with_reducible first | refine Below.alloc ?_ ?_ _ | refine Below.setCell ?_ ?_ _); rotate_left; (first | omega | (simp <;> omega)))))) (hb4.mono (by simp; omega))))
    clear p17 p18 pf hN hb4
    have p18 := (cell_of_cells HP4.out 18).trans (set_ne (by decide) Y18.out)
    have pf := free_of_cells HP4.out
    have hlt4 : w.heap.size < w4.heap.size := by omega
    have HYFS := hide (show ((Y.setIfInBounds 17 (.slice B2 n17 bap2)).setIfInBounds 18 (.slice B3 n18 bap3)).size = 19 by simp [HYS.out])
    have HYFO := hide (show ((Y.setIfInBounds 17 (.slice B2 n17 bap2)).setIfInBounds 18 (.slice B3 n18 bap3)).all (·.oneCell') = true from all_setZ (all_setZ HO.out rfl) rfl)
    have HYFI := hide (HSZ.out _ HYFS.out)
    have HZS := hide (show (#[.string ⟨#[]⟩, .string ⟨#[]⟩, .string ⟨#[]⟩, .int .i64 0, .int .i64 0, .int .i64 0, .int .i64 0, .slice none 0 0, .bool false, .int .i64 0, .int .i64 0, .bool false, .slice none 0 0, .bool false, .int .i64 0, .int .i64 0, .bool false, .slice none 0 0, .slice none 0 0] : Array Value).size = ((Y.setIfInBounds 17 (.slice B2 n17 bap2)).setIfInBounds 18 (.slice B3 n18 bap3)).size from HYFS.out.symm)
    have HX4 := hide (show (w4.setCell ⟨w.heap.size, 18, none⟩ (.slice B3 n18 bap3)).heap[w.heap.size]? = some (.cells ((Y.setIfInBounds 17 (.slice B2 n17 bap2)).setIfInBounds 18 (.slice B3 n18 bap3)) 53 (0, 0)) from blk_setCell HP4.out)
    have HY4 := hide (show (w4.setCell ⟨w.heap.size, 18, none⟩ (.slice B3 n18 bap3)).heap[w.heap.size + 1]? = some (.cells #[.string ⟨#[]⟩, .string ⟨#[]⟩, .string ⟨#[]⟩, .int .i64 0, .int .i64 0, .int .i64 0, .int .i64 0, .slice none 0 0, .bool false, .int .i64 0, .int .i64 0, .bool false, .slice none 0 0, .bool false, .int .i64 0, .int .i64 0, .bool false, .slice none 0 0, .slice none 0 0] 53 (0, 0)) from blk_setOther (by simp) HR4.out)
    go_wp2_with (first
      | (with_reducible refine wpList_load_row rfl 53 (.tmp 1) rfl w.heap.size rfl 53 ((Y.setIfInBounds 17 (.slice B2 n17 bap2)).setIfInBounds 18 (.slice B3 n18 bap3)) (0, 0) _ HX4.out Tryd.underlying53 rfl HYFI.out ?_)
      | ((with_reducible refine wpList_store_newrow2 rfl 53 (.tmp 2) (.tmp 19) rfl rfl (w.heap.size + 1) ((Y.setIfInBounds 17 (.slice B2 n17 bap2)).setIfInBounds 18 (.slice B3 n18 bap3)) rfl rfl 53 #[.string ⟨#[]⟩, .string ⟨#[]⟩, .string ⟨#[]⟩, .int .i64 0, .int .i64 0, .int .i64 0, .int .i64 0, .slice none 0 0, .bool false, .int .i64 0, .int .i64 0, .bool false, .slice none 0 0, .bool false, .int .i64 0, .int .i64 0, .bool false, .slice none 0 0, .slice none 0 0] HY4.out HYFI.out HZS.out HYFO.out ?_); intro w9 hb9 hs9 hx9 hk9))
    have hs9' : w9.heap.size = w4.heap.size := by rw [hs9]; simp
    have K3 := hide (fun (b : Nat) (h : w.heap.size + 2 ≤ b) => show w9.heap[b]? = w4.heap[b]? from (hk9 b (by omega)).trans (Go.Deep.blk_setCell_other _ _ _ _ (by simp; omega)))
    have K2 := hide (fun (b : Nat) (h : w.heap.size + 2 ≤ b) (h2 : b < w3.heap.size) => show w9.heap[b]? = w3.heap[b]? from (K3.out b h).trans ((HM4.out.block b (by simpa using h2)).trans (Go.Deep.blk_setCell_other _ _ _ _ (by simp; omega))))
    have K1 := hide (fun (b : Nat) (h : w.heap.size + 2 ≤ b) (h2 : b < wc.heap.size) => show w9.heap[b]? = wc.heap[b]? from (K2.out b h (Nat.lt_of_lt_of_le h2 HM3.out.size)).trans (HM3.out.block b h2))
    have S1 : wc.heap.size ≤ w9.heap.size := by have := HM3.out.size; omega
    have S2 : w3.heap.size ≤ w9.heap.size := by omega
    have S3 : w4.heap.size ≤ w9.heap.size := by omega
    refine bodyPost_ret (v := .agg ((Y.setIfInBounds 17 (.slice B2 n17 bap2)).setIfInBounds 18 (.slice B3 n18 bap3))) (Go.results_cell_row (by rfl) _ _ (w.heap.size + 1) 53 ((Y.setIfInBounds 17 (.slice B2 n17 bap2)).setIfInBounds 18 (.slice B3 n18 bap3)) (0, 0) _ rfl hx9 Tryd.underlying53 rfl HYFI.out) rfl ⟨((Y.setIfInBounds 17 (.slice B2 n17 bap2)).setIfInBounds 18 (.slice B3 n18 bap3)), rfl, el_big HYFS.out (fun j hj => ?_), ?_⟩
    · have hj4 : j < 19 := hj
      clear hj
      match j, hj4 with
      | 0, _ => exact ⟨X.getD 0 undef, set_ne (by decide) (set_ne (by decide) (by rw [HYE.out]; exact set_ne (by decide) (set_ne (by decide) (set_ne (by decide) (set_ne (by decide) (set_ne (by decide) (set_ne (by decide) (set_ne (by decide) (set_ne (by decide) (set_ne (by decide) (set_ne (by decide) (getD_at (by rw [HXS.out]; decide))))))))))))), one_at HXS.out (by decide) HX.out.ones, rd_any (by decide) (HX.out.rd 0 (by decide)) (HW.out 0 (by decide))⟩
      | 1, _ => exact ⟨X.getD 1 undef, set_ne (by decide) (set_ne (by decide) (by rw [HYE.out]; exact set_ne (by decide) (set_ne (by decide) (set_ne (by decide) (set_ne (by decide) (set_ne (by decide) (set_ne (by decide) (set_ne (by decide) (set_ne (by decide) (set_ne (by decide) (set_ne (by decide) (getD_at (by rw [HXS.out]; decide))))))))))))), one_at HXS.out (by decide) HX.out.ones, rd_any (by decide) (HX.out.rd 1 (by decide)) (HW.out 1 (by decide))⟩
      | 2, _ => exact ⟨X.getD 2 undef, set_ne (by decide) (set_ne (by decide) (by rw [HYE.out]; exact set_ne (by decide) (set_ne (by decide) (set_ne (by decide) (set_ne (by decide) (set_ne (by decide) (set_ne (by decide) (set_ne (by decide) (set_ne (by decide) (set_ne (by decide) (set_ne (by decide) (getD_at (by rw [HXS.out]; decide))))))))))))), one_at HXS.out (by decide) HX.out.ones, rd_any (by decide) (HX.out.rd 2 (by decide)) (HW.out 2 (by decide))⟩
      | 3, _ => exact ⟨X.getD 3 undef, set_ne (by decide) (set_ne (by decide) (by rw [HYE.out]; exact set_ne (by decide) (set_ne (by decide) (set_ne (by decide) (set_ne (by decide) (set_ne (by decide) (set_ne (by decide) (set_ne (by decide) (set_ne (by decide) (set_ne (by decide) (set_ne (by decide) (getD_at (by rw [HXS.out]; decide))))))))))))), one_at HXS.out (by decide) HX.out.ones, rd_any (by decide) (HX.out.rd 3 (by decide)) (HW.out 3 (by decide))⟩
      | 4, _ => exact ⟨X.getD 4 undef, set_ne (by decide) (set_ne (by decide) (by rw [HYE.out]; exact set_ne (by decide) (set_ne (by decide) (set_ne (by decide) (set_ne (by decide) (set_ne (by decide) (set_ne (by decide) (set_ne (by decide) (set_ne (by decide) (set_ne (by decide) (set_ne (by decide) (getD_at (by rw [HXS.out]; decide))))))))))))), one_at HXS.out (by decide) HX.out.ones, rd_any (by decide) (HX.out.rd 4 (by decide)) (HW.out 4 (by decide))⟩
      | 5, _ => exact ⟨X.getD 5 undef, set_ne (by decide) (set_ne (by decide) (by rw [HYE.out]; exact set_ne (by decide) (set_ne (by decide) (set_ne (by decide) (set_ne (by decide) (set_ne (by decide) (set_ne (by decide) (set_ne (by decide) (set_ne (by decide) (set_ne (by decide) (set_ne (by decide) (getD_at (by rw [HXS.out]; decide))))))))))))), one_at HXS.out (by decide) HX.out.ones, rd_any (by decide) (HX.out.rd 5 (by decide)) (HW.out 5 (by decide))⟩
      | 6, _ => exact ⟨X.getD 6 undef, set_ne (by decide) (set_ne (by decide) (by rw [HYE.out]; exact set_ne (by decide) (set_ne (by decide) (set_ne (by decide) (set_ne (by decide) (set_ne (by decide) (set_ne (by decide) (set_ne (by decide) (set_ne (by decide) (set_ne (by decide) (set_ne (by decide) (getD_at (by rw [HXS.out]; decide))))))))))))), one_at HXS.out (by decide) HX.out.ones, rd_any (by decide) (HX.out.rd 6 (by decide)) (HW.out 6 (by decide))⟩
      | 7, _ => exact ⟨a0, set_ne (by decide) (set_ne (by decide) (by rw [HYE.out]; exact set_ne (by decide) (set_ne (by decide) (set_ne (by decide) (set_ne (by decide) (set_ne (by decide) (set_ne (by decide) (set_ne (by decide) (set_ne (by decide) (set_ne (by decide) (set_eq (n := 19) (by simp [HXS.out]) (by decide)))))))))))), one_at (X := #[a0, a1, a2, a3, a4]) (j := 0) (n := 5) rfl (by decide) H0.out.ones, el_fin (N := w.heap.size + 2) (H0.out.rd 0 (by decide)) (by omega) S1 (fun b h h2 => K1.out b h h2)⟩
      | 8, _ => exact ⟨a1, set_ne (by decide) (set_ne (by decide) (by rw [HYE.out]; exact set_ne (by decide) (set_ne (by decide) (set_ne (by decide) (set_ne (by decide) (set_ne (by decide) (set_ne (by decide) (set_ne (by decide) (set_ne (by decide) (set_eq (n := 19) (by simp [HXS.out]) (by decide))))))))))), one_at (X := #[a0, a1, a2, a3, a4]) (j := 1) (n := 5) rfl (by decide) H0.out.ones, el_fin (N := w.heap.size + 2) (H0.out.rd 1 (by decide)) (by omega) S1 (fun b h h2 => K1.out b h h2)⟩
      | 9, _ => exact ⟨a2, set_ne (by decide) (set_ne (by decide) (by rw [HYE.out]; exact set_ne (by decide) (set_ne (by decide) (set_ne (by decide) (set_ne (by decide) (set_ne (by decide) (set_ne (by decide) (set_ne (by decide) (set_eq (n := 19) (by simp [HXS.out]) (by decide)))))))))), one_at (X := #[a0, a1, a2, a3, a4]) (j := 2) (n := 5) rfl (by decide) H0.out.ones, el_fin (N := w.heap.size + 2) (H0.out.rd 2 (by decide)) (by omega) S1 (fun b h h2 => K1.out b h h2)⟩
      | 10, _ => exact ⟨a3, set_ne (by decide) (set_ne (by decide) (by rw [HYE.out]; exact set_ne (by decide) (set_ne (by decide) (set_ne (by decide) (set_ne (by decide) (set_ne (by decide) (set_ne (by decide) (set_eq (n := 19) (by simp [HXS.out]) (by decide))))))))), one_at (X := #[a0, a1, a2, a3, a4]) (j := 3) (n := 5) rfl (by decide) H0.out.ones, el_fin (N := w.heap.size + 2) (H0.out.rd 3 (by decide)) (by omega) S1 (fun b h h2 => K1.out b h h2)⟩
      | 11, _ => exact ⟨a4, set_ne (by decide) (set_ne (by decide) (by rw [HYE.out]; exact set_ne (by decide) (set_ne (by decide) (set_ne (by decide) (set_ne (by decide) (set_ne (by decide) (set_eq (n := 19) (by simp [HXS.out]) (by decide)))))))), one_at (X := #[a0, a1, a2, a3, a4]) (j := 4) (n := 5) rfl (by decide) H0.out.ones, el_fin (N := w.heap.size + 2) (H0.out.rd 4 (by decide)) (by omega) S1 (fun b h h2 => K1.out b h h2)⟩
      | 12, _ => exact ⟨b0, set_ne (by decide) (set_ne (by decide) (by rw [HYE.out]; exact set_ne (by decide) (set_ne (by decide) (set_ne (by decide) (set_ne (by decide) (set_eq (n := 19) (by simp [HXS.out]) (by decide))))))), one_at (X := #[b0, b1, b2, b3, b4]) (j := 0) (n := 5) rfl (by decide) H1.out.ones, el_fin (N := w.heap.size + 2) (H1.out.rd 0 (by decide)) (by omega) S1 (fun b h h2 => K1.out b h h2)⟩
      | 13, _ => exact ⟨b1, set_ne (by decide) (set_ne (by decide) (by rw [HYE.out]; exact set_ne (by decide) (set_ne (by decide) (set_ne (by decide) (set_eq (n := 19) (by simp [HXS.out]) (by decide)))))), one_at (X := #[b0, b1, b2, b3, b4]) (j := 1) (n := 5) rfl (by decide) H1.out.ones, el_fin (N := w.heap.size + 2) (H1.out.rd 1 (by decide)) (by omega) S1 (fun b h h2 => K1.out b h h2)⟩
      | 14, _ => exact ⟨b2, set_ne (by decide) (set_ne (by decide) (by rw [HYE.out]; exact set_ne (by decide) (set_ne (by decide) (set_eq (n := 19) (by simp [HXS.out]) (by decide))))), one_at (X := #[b0, b1, b2, b3, b4]) (j := 2) (n := 5) rfl (by decide) H1.out.ones, el_fin (N := w.heap.size + 2) (H1.out.rd 2 (by decide)) (by omega) S1 (fun b h h2 => K1.out b h h2)⟩
      | 15, _ => exact ⟨b3, set_ne (by decide) (set_ne (by decide) (by rw [HYE.out]; exact set_ne (by decide) (set_eq (n := 19) (by simp [HXS.out]) (by decide)))), one_at (X := #[b0, b1, b2, b3, b4]) (j := 3) (n := 5) rfl (by decide) H1.out.ones, el_fin (N := w.heap.size + 2) (H1.out.rd 3 (by decide)) (by omega) S1 (fun b h h2 => K1.out b h h2)⟩
      | 16, _ => exact ⟨b4, set_ne (by decide) (set_ne (by decide) (by rw [HYE.out]; exact set_eq (n := 19) (by simp [HXS.out]) (by decide))), one_at (X := #[b0, b1, b2, b3, b4]) (j := 4) (n := 5) rfl (by decide) H1.out.ones, el_fin (N := w.heap.size + 2) (H1.out.rd 4 (by decide)) (by omega) S1 (fun b h h2 => K1.out b h h2)⟩
      | 17, _ => exact ⟨.slice B2 n17 bap2, set_ne (by decide) (set_eq (n := 19) HYS.out (by decide)), rfl, row_fin HC17.out hcap2 HN2.out (by omega) S2 (fun b h h2 => K2.out b (by omega) h2)⟩
      | 18, _ => exact ⟨.slice B3 n18 bap3, set_eq (n := 19) (by simp [HYS.out]) (by decide), rfl, row_fin HC18.out hcap3 HN3.out (by simp; omega) S3 (fun b h h2 => K3.out b (by have := h; simp at this; omega))⟩
      | j + 19, h => exact absurd h (by omega)
    · exact HB4.out.trans (Below.trans (by (repeat (first | (with_reducible first | exact Below.refl _ _ | assumption | refine Below.drew ?_) | ((with_reducible first | refine Below.alloc ?_ ?_ _ | refine Below.setCell ?_ ?_ _); rotate_left; (first | omega | (simp <;> omega)))))) (hb9.mono (by omega)))
end Go.Proofs.YtdjhkhadjmndoaaDoor
