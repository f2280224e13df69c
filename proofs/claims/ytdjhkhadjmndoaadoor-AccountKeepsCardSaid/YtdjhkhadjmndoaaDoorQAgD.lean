/- Texts laid together: AgD. -/
import Derived.Test.YtdjhkhadjmndoaaDoorQAgC
import Derived.Test.YtdjhkhadjmndoaaDoorQStA
import Derived.Test.YtdjhkhadjmndoaaDoorQRowM
namespace Go.Proofs.YtdjhkhadjmndoaaDoor
set_option maxRecDepth 4000
set_option linter.unusedSimpArgs false
set_option linter.unusedVariables false
open Go.RowKit
theorem bk_size {B : LBk} (h : BkOK B) : (Tryd.prog.info? 41).map (·.size) = some B.C.size := by rw [h.bks.size]; kernel_rfl
set_option maxRecDepth 4000 in
set_option maxHeartbeats 2000000 in
theorem active_any (B : LBk) (hB : BkOK B) (id day : Int) (w : World) (hw : BkIn w B) :
    Calls Tryd.prog 19 #[.agg B.C, .int .i64 id, .int .i64 day] w fun e w' => e = .returned (.bool (actB B id day)) ∧ Below w.heap.size w w' := by
  have HB := hide hB
  have HW := hide hw
  have HS := hide (bk_size hB)
  have h17 := hB.pro
  obtain ⟨x, hx⟩ : ∃ x, x = getA B.a id B.an := ⟨_, rfl⟩
  obtain ⟨h, hh⟩ : ∃ h, h = hasA B.a id B.an := ⟨_, rfl⟩
  have HF := hide (fun W hr => by have t := find_any B.C B.aA B.an B.ac B.jA B.jn B.jc HB.out.bks B.a id HB.out.an W hr; rw [← hx, ← hh] at t; exact t)
  have HA := hide (show actB B id day = (h && actL x day) from by unfold actB; rw [hx, hh])
  clear hx hh hB hw h17
  cases h with
  | false =>
    have HV := hide (show actB B id day = false from by rw [HA.out]; rfl)
    go_enter Tryd.func19, Tryd.ntmps19
    go_wp2_with (with_reducible refine wpList_load_row rfl 41 (.tmp 3) rfl w.heap.size rfl 41 B.C (0, 0) _ (blk_new rfl) Tryd.underlying41 rfl HS.out ?_)
    refine (HF.out _ (HW.out.acc.below (by (repeat (first | (with_reducible first | exact Below.refl _ _ | assumption | refine Below.drew ?_) | ((with_reducible first | refine Below.alloc ?_ ?_ _ | refine Below.setCell ?_ ?_ _); rotate_left; (first | omega | (simp <;> omega)))))))).mono ?_
    rintro e w1 ⟨rfl, hb⟩
    have q1B : Below w.heap.size w w1 := (by refine Below.trans ?_ (hb.mono (by first | omega | (simp <;> omega))); (repeat (first | (with_reducible first | exact Below.refl _ _ | assumption | refine Below.drew ?_) | ((with_reducible first | refine Below.alloc ?_ ?_ _ | refine Below.setCell ?_ ?_ _); rotate_left; (first | omega | (simp <;> omega))))))
    have q1z := hb.size
    try simp at q1z
    have q1t : w.heap.size ≤ w1.heap.size := (by omega)
    have q1o : ∀ b o, b < w.heap.size → w1.cell? ⟨b, o, none⟩ = w.cell? ⟨b, o, none⟩ := fun b o h => q1B.cell (p := ⟨b, o, none⟩) h
    clear hb
    go_wp2_with fail
    go_ret
    exact ⟨by rw [HV.out]; rfl, by refine q1B.trans ?_; (repeat (first | (with_reducible first | exact Below.refl _ _ | assumption | refine Below.drew ?_) | ((with_reducible first | refine Below.alloc ?_ ?_ _ | refine Below.setCell ?_ ?_ _); rotate_left; (first | omega | (simp <;> omega)))))⟩
  | true =>
    by_cases h1 : x.op ≤ day
    · have d1 : decide (x.op ≤ day) = true := decide_eq_true h1
      cases h2 : (x.cl == 0) with
      | true =>
        have HV := hide (show actB B id day = true from by rw [HA.out]; unfold actL; rw [d1, h2]; rfl)
        go_enter Tryd.func19, Tryd.ntmps19
        go_wp2_with (with_reducible refine wpList_load_row rfl 41 (.tmp 3) rfl w.heap.size rfl 41 B.C (0, 0) _ (blk_new rfl) Tryd.underlying41 rfl HS.out ?_)
        refine (HF.out _ (HW.out.acc.below (by (repeat (first | (with_reducible first | exact Below.refl _ _ | assumption | refine Below.drew ?_) | ((with_reducible first | refine Below.alloc ?_ ?_ _ | refine Below.setCell ?_ ?_ _); rotate_left; (first | omega | (simp <;> omega)))))))).mono ?_
        rintro e w1 ⟨rfl, hb⟩
        have q1B : Below w.heap.size w w1 := (by refine Below.trans ?_ (hb.mono (by first | omega | (simp <;> omega))); (repeat (first | (with_reducible first | exact Below.refl _ _ | assumption | refine Below.drew ?_) | ((with_reducible first | refine Below.alloc ?_ ?_ _ | refine Below.setCell ?_ ?_ _); rotate_left; (first | omega | (simp <;> omega))))))
        have q1z := hb.size
        try simp at q1z
        have q1t : w.heap.size ≤ w1.heap.size := (by omega)
        have q1o : ∀ b o, b < w.heap.size → w1.cell? ⟨b, o, none⟩ = w.cell? ⟨b, o, none⟩ := fun b o h => q1B.cell (p := ⟨b, o, none⟩) h
        clear hb
        go_wp2_with fail
        go_ret
        exact ⟨by rw [HV.out]; rfl, by refine q1B.trans ?_; (repeat (first | (with_reducible first | exact Below.refl _ _ | assumption | refine Below.drew ?_) | ((with_reducible first | refine Below.alloc ?_ ?_ _ | refine Below.setCell ?_ ?_ _); rotate_left; (first | omega | (simp <;> omega)))))⟩
      | false =>
        by_cases h3 : day < x.cl
        · have d3 : decide (day < x.cl) = true := decide_eq_true h3
          have HV := hide (show actB B id day = true from by rw [HA.out]; unfold actL; rw [d1, h2, d3]; rfl)
          go_enter Tryd.func19, Tryd.ntmps19
          go_wp2_with (with_reducible refine wpList_load_row rfl 41 (.tmp 3) rfl w.heap.size rfl 41 B.C (0, 0) _ (blk_new rfl) Tryd.underlying41 rfl HS.out ?_)
          refine (HF.out _ (HW.out.acc.below (by (repeat (first | (with_reducible first | exact Below.refl _ _ | assumption | refine Below.drew ?_) | ((with_reducible first | refine Below.alloc ?_ ?_ _ | refine Below.setCell ?_ ?_ _); rotate_left; (first | omega | (simp <;> omega)))))))).mono ?_
          rintro e w1 ⟨rfl, hb⟩
          have q1B : Below w.heap.size w w1 := (by refine Below.trans ?_ (hb.mono (by first | omega | (simp <;> omega))); (repeat (first | (with_reducible first | exact Below.refl _ _ | assumption | refine Below.drew ?_) | ((with_reducible first | refine Below.alloc ?_ ?_ _ | refine Below.setCell ?_ ?_ _); rotate_left; (first | omega | (simp <;> omega))))))
          have q1z := hb.size
          try simp at q1z
          have q1t : w.heap.size ≤ w1.heap.size := (by omega)
          have q1o : ∀ b o, b < w.heap.size → w1.cell? ⟨b, o, none⟩ = w.cell? ⟨b, o, none⟩ := fun b o h => q1B.cell (p := ⟨b, o, none⟩) h
          clear hb
          go_wp2_with fail
          go_ret
          exact ⟨by rw [HV.out]; rfl, by refine q1B.trans ?_; (repeat (first | (with_reducible first | exact Below.refl _ _ | assumption | refine Below.drew ?_) | ((with_reducible first | refine Below.alloc ?_ ?_ _ | refine Below.setCell ?_ ?_ _); rotate_left; (first | omega | (simp <;> omega)))))⟩
        · have d3 : decide (day < x.cl) = false := decide_eq_false h3
          have HV := hide (show actB B id day = false from by rw [HA.out]; unfold actL; rw [d1, h2, d3]; rfl)
          have h4 := Int.not_lt.1 h3
          clear h3
          go_enter Tryd.func19, Tryd.ntmps19
          go_wp2_with (with_reducible refine wpList_load_row rfl 41 (.tmp 3) rfl w.heap.size rfl 41 B.C (0, 0) _ (blk_new rfl) Tryd.underlying41 rfl HS.out ?_)
          refine (HF.out _ (HW.out.acc.below (by (repeat (first | (with_reducible first | exact Below.refl _ _ | assumption | refine Below.drew ?_) | ((with_reducible first | refine Below.alloc ?_ ?_ _ | refine Below.setCell ?_ ?_ _); rotate_left; (first | omega | (simp <;> omega)))))))).mono ?_
          rintro e w1 ⟨rfl, hb⟩
          have q1B : Below w.heap.size w w1 := (by refine Below.trans ?_ (hb.mono (by first | omega | (simp <;> omega))); (repeat (first | (with_reducible first | exact Below.refl _ _ | assumption | refine Below.drew ?_) | ((with_reducible first | refine Below.alloc ?_ ?_ _ | refine Below.setCell ?_ ?_ _); rotate_left; (first | omega | (simp <;> omega))))))
          have q1z := hb.size
          try simp at q1z
          have q1t : w.heap.size ≤ w1.heap.size := (by omega)
          have q1o : ∀ b o, b < w.heap.size → w1.cell? ⟨b, o, none⟩ = w.cell? ⟨b, o, none⟩ := fun b o h => q1B.cell (p := ⟨b, o, none⟩) h
          clear hb
          go_wp2_with fail
          go_ret
          exact ⟨by rw [HV.out]; rfl, by refine q1B.trans ?_; (repeat (first | (with_reducible first | exact Below.refl _ _ | assumption | refine Below.drew ?_) | ((with_reducible first | refine Below.alloc ?_ ?_ _ | refine Below.setCell ?_ ?_ _); rotate_left; (first | omega | (simp <;> omega)))))⟩
    · have d1 : decide (x.op ≤ day) = false := decide_eq_false h1
      have HV := hide (show actB B id day = false from by rw [HA.out]; unfold actL; rw [d1]; rfl)
      have h4 := Int.not_le.1 h1
      clear h1
      go_enter Tryd.func19, Tryd.ntmps19
      go_wp2_with (with_reducible refine wpList_load_row rfl 41 (.tmp 3) rfl w.heap.size rfl 41 B.C (0, 0) _ (blk_new rfl) Tryd.underlying41 rfl HS.out ?_)
      refine (HF.out _ (HW.out.acc.below (by (repeat (first | (with_reducible first | exact Below.refl _ _ | assumption | refine Below.drew ?_) | ((with_reducible first | refine Below.alloc ?_ ?_ _ | refine Below.setCell ?_ ?_ _); rotate_left; (first | omega | (simp <;> omega)))))))).mono ?_
      rintro e w1 ⟨rfl, hb⟩
      have q1B : Below w.heap.size w w1 := (by refine Below.trans ?_ (hb.mono (by first | omega | (simp <;> omega))); (repeat (first | (with_reducible first | exact Below.refl _ _ | assumption | refine Below.drew ?_) | ((with_reducible first | refine Below.alloc ?_ ?_ _ | refine Below.setCell ?_ ?_ _); rotate_left; (first | omega | (simp <;> omega))))))
      have q1z := hb.size
      try simp at q1z
      have q1t : w.heap.size ≤ w1.heap.size := (by omega)
      have q1o : ∀ b o, b < w.heap.size → w1.cell? ⟨b, o, none⟩ = w.cell? ⟨b, o, none⟩ := fun b o h => q1B.cell (p := ⟨b, o, none⟩) h
      clear hb
      go_wp2_with fail
      go_ret
      exact ⟨by rw [HV.out]; rfl, by refine q1B.trans ?_; (repeat (first | (with_reducible first | exact Below.refl _ _ | assumption | refine Below.drew ?_) | ((with_reducible first | refine Below.alloc ?_ ?_ _ | refine Below.setCell ?_ ?_ _); rotate_left; (first | omega | (simp <;> omega)))))⟩
set_option maxRecDepth 8000 in
set_option maxHeartbeats 4000000 in
theorem product_any (B : LBk) (hB : BkOK B) (id day : Int) (w : World) (hw : BkIn w B) :
    Calls Tryd.prog 16 #[.agg B.C, .int .i64 id, .int .i64 day] w (CatRet B.P (prdB B id day) w) := by
  obtain ⟨i0, Z, hi0, hi1, hi2⟩ := pz_zero
  obtain ⟨Z2, hz0, hz1, hz2, hzz⟩ := pz_built
  have HZZ := hide hzz
  clear hzz
  have HI := hide (And.intro hi0 hi1)
  have HZ := hide (And.intro hz0 (And.intro hz1 hz2))
  have HZ1 := hide hi2
  have HB := hide hB
  have HW := hide hw
  have HS := hide (bk_size hB)
  have h17 := hB.pro
  obtain ⟨x, hx⟩ : ∃ x, x = getA B.a id B.an := ⟨_, rfl⟩
  obtain ⟨h, hh⟩ : ∃ h, h = hasA B.a id B.an := ⟨_, rfl⟩
  have HF := hide (fun W hr => by have t := find_any B.C B.aA B.an B.ac B.jA B.jn B.jc HB.out.bks B.a id HB.out.an W hr; rw [← hx, ← hh] at t; exact t)
  have HA := hide (show prdB B id day = if h = true then bstP B.P x.pr day B.pn else none from by unfold prdB; rw [hx, hh])
  clear hx hh hB hw hi0 hi1 hi2 hz0 hz1 hz2
  cases h with
  | false =>
    have HV := hide (show prdB B id day = none from by rw [HA.out]; rfl)
    go_enter Tryd.func16, Tryd.ntmps16
    go_wp2_with (first
      | (with_reducible refine wpList_load_row rfl 41 (.tmp 3) rfl w.heap.size rfl 41 B.C (0, 0) _ (two_boxes _ _ _) Tryd.underlying41 rfl HS.out ?_)
      | (with_reducible refine wpList_alloc_row rfl 53 rfl (some 6) rfl i0 HI.out.1 Z HI.out.2 (w.heap.size + 1) (by simp) ?_))
    refine (HF.out _ (HW.out.acc.below (by (repeat (first | (with_reducible first | exact Below.refl _ _ | assumption | refine Below.drew ?_) | ((with_reducible first | refine Below.alloc ?_ ?_ _ | refine Below.setCell ?_ ?_ _); rotate_left; (first | omega | (simp <;> omega)))))))).mono ?_
    rintro e w1 ⟨rfl, hb⟩
    have X1 := hide (blk_below hb (by simp) (blk_new (k := w.heap.size + 1) (by simp)))
    have q1B : Below w.heap.size w w1 := (by refine Below.trans ?_ (hb.mono (by first | omega | (simp <;> omega))); (repeat (first | (with_reducible first | exact Below.refl _ _ | assumption | refine Below.drew ?_) | ((with_reducible first | refine Below.alloc ?_ ?_ _ | refine Below.setCell ?_ ?_ _); rotate_left; (first | omega | (simp <;> omega))))))
    have q1z := hb.size
    try simp at q1z
    have q1t : w.heap.size ≤ w1.heap.size := (by omega)
    have q1o : ∀ b o, b < w.heap.size → w1.cell? ⟨b, o, none⟩ = w.cell? ⟨b, o, none⟩ := fun b o h => q1B.cell (p := ⟨b, o, none⟩) h
    clear hb
    have zz : w.heap.size + 1 < w1.heap.size := by omega
    go_wp2_with (first
      | ((with_reducible refine Go.wpList_buildTo rfl 53 #[] rfl (some 18) rfl Z2 ?_ ?_); (focus (refine Eq.trans (congrArg _ ?_) HZ.out.1; simp [Act.eval])))
      | (with_reducible refine Go.wpList_store_rowTo rfl 53 (.tmp 6) (.tmp 18) rfl rfl (w.heap.size + 1) Z2 rfl rfl 53 Z (blk_under X1.out) (pz_size HZ.out.2.1) (by rw [HZ1.out, HZ.out.2.1]) HZ.out.2.2 ?_))
    refine bodyPost_ret (v := .tuple #[.agg Z2, .bool false]) (results_row_tmp (fn := Tryd.f16) rfl _ _ (w.heap.size + 1) 53 Z2 (0, 0) _ rfl (Go.setRow_heap _ _ Z _ _ _ (blk_under X1.out)) _ rfl Tryd.underlying53 rfl (pz_size HZ.out.2.1)) rfl ?_
    exact catRet_none HZZ.out HV.out HZ.out.2.1 HZ.out.2.2 rfl (below_setRow (q1B.trans (by (repeat (first | (with_reducible first | exact Below.refl _ _ | assumption | refine Below.drew ?_) | ((with_reducible first | refine Below.alloc ?_ ?_ _ | refine Below.setCell ?_ ?_ _); rotate_left; (first | omega | (simp <;> omega))))))) (by omega) _)
  | true =>
    have HV := hide (show prdB B id day = bstP B.P x.pr day B.pn from by rw [HA.out]; rfl)
    go_enter Tryd.func16, Tryd.ntmps16
    go_wp2_with (first
      | (with_reducible refine wpList_load_row rfl 41 (.tmp 3) rfl w.heap.size rfl 41 B.C (0, 0) _ (two_boxes _ _ _) Tryd.underlying41 rfl HS.out ?_)
      | (with_reducible refine wpList_alloc_row rfl 53 rfl (some 6) rfl i0 HI.out.1 Z HI.out.2 (w.heap.size + 1) (by simp) ?_))
    refine (HF.out _ (HW.out.acc.below (by (repeat (first | (with_reducible first | exact Below.refl _ _ | assumption | refine Below.drew ?_) | ((with_reducible first | refine Below.alloc ?_ ?_ _ | refine Below.setCell ?_ ?_ _); rotate_left; (first | omega | (simp <;> omega)))))))).mono ?_
    rintro e w1 ⟨rfl, hb⟩
    have X1 := hide (blk_below hb (by simp) (blk_new (k := w.heap.size + 1) (by simp)))
    have q1B : Below w.heap.size w w1 := (by refine Below.trans ?_ (hb.mono (by first | omega | (simp <;> omega))); (repeat (first | (with_reducible first | exact Below.refl _ _ | assumption | refine Below.drew ?_) | ((with_reducible first | refine Below.alloc ?_ ?_ _ | refine Below.setCell ?_ ?_ _); rotate_left; (first | omega | (simp <;> omega))))))
    have q1z := hb.size
    try simp at q1z
    have q1t : w.heap.size ≤ w1.heap.size := (by omega)
    have q1s0 : w.heap.size < w1.heap.size := (by omega)
    have q1n0_0 : ¬ w1.heap.size = w.heap.size := (by omega)
    have q1n0_1 : ¬ w1.heap.size + 1 = w.heap.size := (by omega)
    have q1n0_2 : ¬ w1.heap.size + 2 = w.heap.size := (by omega)
    have q1c0_17 := hb.cell (p := ⟨w.heap.size, 17, none⟩) (by first | omega | (simp <;> omega))
    simp [go_sem, *] at q1c0_17
    have q1f0 := fun o => hb.frozen (p := ⟨w.heap.size, o, none⟩) (by first | omega | (simp <;> omega))
    simp [go_sem, *] at q1f0
    have q1o : ∀ b o, b < w.heap.size → w1.cell? ⟨b, o, none⟩ = w.cell? ⟨b, o, none⟩ := fun b o h => q1B.cell (p := ⟨b, o, none⟩) h
    clear hb
    have zz : w.heap.size + 1 < w1.heap.size := by omega
    go_wp2_with fail
    refine (cat_any B.pA B.pn B.pc B.P x.pr day HB.out.pn HB.out.cells _ (HW.out.pro.below (q1B.trans (by (repeat (first | (with_reducible first | exact Below.refl _ _ | assumption | refine Below.drew ?_) | ((with_reducible first | refine Below.alloc ?_ ?_ _ | refine Below.setCell ?_ ?_ _); rotate_left; (first | omega | (simp <;> omega))))))))).mono ?_
    rintro e w2 ⟨C, b, rfl, hs, h1, ho, hb⟩
    have X2 := hide (blk_below hb (by simp; omega) (blk_under X1.out))
    have HH := hide (And.intro hs (And.intro h1 ho))
    have Ba : Below w.heap.size w1 (w1.alloc (.cells #[.int .i64 x.id, .int .i64 x.op, .int .i64 x.cl, .int .i64 x.ex, .string x.ow, .string x.pr, .string x.nu] 44)) := by (repeat (first | (with_reducible first | exact Below.refl _ _ | assumption | refine Below.drew ?_) | ((with_reducible first | refine Below.alloc ?_ ?_ _ | refine Below.setCell ?_ ?_ _); rotate_left; (first | omega | (simp <;> omega)))))
    have B2 := hide (q1B.trans (Ba.trans (hb.mono (by simp; omega))))
    clear hs h1 ho hb
    go_wp2_with (with_reducible refine Go.wpList_store_rowTo rfl 53 (.tmp 6) (.tmp 25) rfl rfl (w.heap.size + 1) C rfl rfl 53 Z X2.out (pz_size HH.out.1) (by rw [HZ1.out, HH.out.1]) HH.out.2.1 ?_)
    refine bodyPost_ret (v := .tuple #[.agg C, .bool b]) (results_row_tmp (fn := Tryd.f16) rfl _ _ (w.heap.size + 1) 53 C (0, 0) _ rfl (Go.setRow_heap _ _ Z _ _ _ X2.out) _ rfl Tryd.underlying53 rfl (pz_size HH.out.1)) rfl ?_
    exact ⟨C, b, rfl, HH.out.1, HH.out.2.1, by rw [HV.out]; exact HH.out.2.2, below_setRow B2.out (by omega) _⟩
end Go.Proofs.YtdjhkhadjmndoaaDoor
