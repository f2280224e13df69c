/- R45.Make. -/
import Derived.Test.YtodfpfbcjiganaaDoorStG
import Derived.Test.YtodfpfbcjiganaaDoorApW
namespace Go.Proofs.YtodfpfbcjiganaaDoor
set_option linter.unusedSimpArgs false
set_option linter.unusedVariables false
open Go.RowKit

/-- The box of a statement: its six numbers. -/
structure BoxN (g : Nat) (x0 x1 x2 x3 x4 x5 : Int) (w : World) : Prop where
  lt : g < w.heap.size
  fr : ∀ o, w.frozen? ⟨g, o, none⟩ = false
  c0 : w.cell? ⟨g, 0, none⟩ = some (.int .i64 x0)
  c1 : w.cell? ⟨g, 1, none⟩ = some (.int .i64 x1)
  c2 : w.cell? ⟨g, 2, none⟩ = some (.int .i64 x2)
  c3 : w.cell? ⟨g, 3, none⟩ = some (.int .i64 x3)
  c4 : w.cell? ⟨g, 4, none⟩ = some (.int .i64 x4)
  c5 : w.cell? ⟨g, 5, none⟩ = some (.int .i64 x5)
theorem BoxN.below {g : Nat} {x0 x1 x2 x3 x4 x5 : Int} {w w' : World} (h : BoxN g x0 x1 x2 x3 x4 x5 w) {B : Nat} (hb : Below B w w') (hg : g < B) : BoxN g x0 x1 x2 x3 x4 x5 w' :=
  ⟨Nat.lt_of_lt_of_le h.lt hb.size, fun o => (hb.frozen (p := ⟨g, o, none⟩) hg).trans (h.fr o), (hb.cell (p := ⟨g, 0, none⟩) hg).trans h.c0, (hb.cell (p := ⟨g, 1, none⟩) hg).trans h.c1, (hb.cell (p := ⟨g, 2, none⟩) hg).trans h.c2, (hb.cell (p := ⟨g, 3, none⟩) hg).trans h.c3, (hb.cell (p := ⟨g, 4, none⟩) hg).trans h.c4, (hb.cell (p := ⟨g, 5, none⟩) hg).trans h.c5⟩
theorem BoxN.set {g : Nat} {x0 x1 x2 x3 x4 x5 : Int} {w : World} (h : BoxN g x0 x1 x2 x3 x4 x5 w) (v : Value) : BoxN g x0 x1 x2 x3 x4 x5 (w.setCell ⟨g, 6, none⟩ v) := by
  refine ⟨by simpa using h.lt, fun o => by rw [World.frozen?_setCell]; exact h.fr o, ?_, ?_, ?_, ?_, ?_, ?_⟩
  · rw [World.cell?_setCell_other _ _ _ _ (by simp)]; exact h.c0
  · rw [World.cell?_setCell_other _ _ _ _ (by simp)]; exact h.c1
  · rw [World.cell?_setCell_other _ _ _ _ (by simp)]; exact h.c2
  · rw [World.cell?_setCell_other _ _ _ _ (by simp)]; exact h.c3
  · rw [World.cell?_setCell_other _ _ _ _ (by simp)]; exact h.c4
  · rw [World.cell?_setCell_other _ _ _ _ (by simp)]; exact h.c5
def RkI (E : Nat → LEnt) (id no f t : Int) (n g : Nat) (tP : TypeId) (W : World) (v : Value) (wr : World) : Prop :=
  ∃ (k : Nat) (A : Option Addr) (c : Nat), k ≤ n ∧ v = .int .i64 k ∧ Below W.heap.size W wr ∧ g < wr.heap.size ∧ (∀ o, wr.frozen? ⟨g, o, none⟩ = false) ∧
    wr.cell? ⟨g, 0, none⟩ = some (.int .i64 id) ∧ wr.cell? ⟨g, 1, none⟩ = some (.int .i64 no) ∧ wr.cell? ⟨g, 2, none⟩ = some (.int .i64 f) ∧ wr.cell? ⟨g, 3, none⟩ = some (.int .i64 t) ∧
    wr.cell? ⟨g, 4, none⟩ = some (.int .i64 (opS E id f n)) ∧ wr.cell? ⟨g, 5, none⟩ = some (.int .i64 (clS E id t n)) ∧ wr.cell? ⟨g, 6, none⟩ = some (.slice A (lnL E id f t k).length c) ∧
    wr.ownsRow (g + 1) tP 4 (.slice A (lnL E id f t k).length c) (lnL E id f t k).length ((lnL E id f t k).flatMap posL)
theorem opS_of {E : Nat → LEnt} {id f x : Int} {n : Nat} (h : x = sumE E id (fun e => decide (e.bk ≤ f - 1)) n) : x = opS E id f n := by
  rw [h]
  have : (fun e : LEnt => decide (e.bk ≤ f - 1)) = opB f := by funext e; unfold opB; exact decide_eq_decide.2 (by omega)
  rw [this]; rfl
set_option maxRecDepth 4000 in
set_option maxHeartbeats 4000000 in
theorem rmake_any (C : Array Value) (aA : Option Addr) (an ac : Nat) (jA : Option Addr) (jn jc : Nat) (hC : Bks C aA an ac jA jn jc) (a : Nat → LAcc) (E : Nat → LEnt) (id no f t : Int) (hn : an ≤ 1000000) (hjn : jn ≤ 1000000) (hjc : jn ≤ jc) (w : World) (hr : RowAcc w aA an a) (hj : Jrn w jA jn E) :
    Calls Tryd.prog 11 #[.agg C, .int .i64 id, .int .i64 no, .int .i64 f, .int .i64 t] w (StRet (mkS E jn (hasA a id an) id no f t) (mkE (hasA a id an) no f t) w) := by
  obtain ⟨i0, hi0, hz0, hz1, hz2⟩ := info3 pos_info
  have I0 := hide hi0
  have I1 := hide hz0
  have I2 := hide hz1
  have I3 := hide hz2
  clear hi0 hz0 hz1 hz2
  have HR := hide hr
  have HJ := hide hj
  have HCC := hide hC
  have h19 := hC.jou
  have hrow : (Tryd.prog.info? 33).map (·.size) = some C.size := by rw [hC.size]; kernel_rfl
  have HW := hide hrow
  clear hr hrow hj hC
  go_enter Tryd.func11, Tryd.ntmps11
  go_wp2_with (with_reducible refine wpList_load_row rfl 33 (.tmp 5) rfl w.heap.size rfl 33 C (0, 0) _ (two_boxes _ _ _) Tryd.underlying33 rfl HW.out ?_)
  refine (rfind_any C aA an ac jA jn jc HCC.out a id hn _ (HR.out.below (by (repeat (first | (with_reducible exact Below.refl _ _) | (with_reducible assumption) | ((with_reducible refine Below.alloc ?_ ?_ _); (rotate_left); (first | omega | (simp <;> omega))) | ((with_reducible refine Below.setCell ?_ ?_ _); (rotate_left); (first | omega | (simp <;> omega))) | (with_reducible refine Below.drew ?_) | (with_reducible refine below_drewN ?_ _)))))).mono ?_
  rintro e w1 ⟨rfl, hb⟩
  have q1B : Below w.heap.size w w1 := (by refine Below.trans ?_ (hb.mono (by first | omega | (simp <;> omega))); (repeat (first | (with_reducible exact Below.refl _ _) | (with_reducible assumption) | ((with_reducible refine Below.alloc ?_ ?_ _); (rotate_left); (first | omega | (simp <;> omega))) | ((with_reducible refine Below.setCell ?_ ?_ _); (rotate_left); (first | omega | (simp <;> omega))) | (with_reducible refine Below.drew ?_) | (with_reducible refine below_drewN ?_ _))))
  have q1z := hb.size
  try simp at q1z
  have q1t : w.heap.size ≤ w1.heap.size := (by omega)
  have q1s0 : w.heap.size < w1.heap.size := (by omega)
  have q1n0_0 : ¬ w1.heap.size = w.heap.size := (by omega)
  have q1n0_1 : ¬ w1.heap.size + 1 = w.heap.size := (by omega)
  have q1n0_2 : ¬ w1.heap.size + 2 = w.heap.size := (by omega)
  have q1c0_19 := hb.cell (p := ⟨w.heap.size, 19, none⟩) (by first | omega | (simp <;> omega))
  simp [go_sem, *] at q1c0_19
  have q1f0 := fun o => hb.frozen (p := ⟨w.heap.size, o, none⟩) (by first | omega | (simp <;> omega))
  simp [go_sem, *] at q1f0
  have q1s1 : w.heap.size + 1 < w1.heap.size := (by omega)
  have q1n1_0 : ¬ w1.heap.size = w.heap.size + 1 := (by omega)
  have q1n1_1 : ¬ w1.heap.size + 1 = w.heap.size + 1 := (by omega)
  have q1n1_2 : ¬ w1.heap.size + 2 = w.heap.size + 1 := (by omega)
  have q1c1_0 := hb.cell (p := ⟨w.heap.size + 1, 0, none⟩) (by first | omega | (simp <;> omega))
  simp [go_sem, *] at q1c1_0
  have q1c1_1 := hb.cell (p := ⟨w.heap.size + 1, 1, none⟩) (by first | omega | (simp <;> omega))
  simp [go_sem, *] at q1c1_1
  have q1c1_2 := hb.cell (p := ⟨w.heap.size + 1, 2, none⟩) (by first | omega | (simp <;> omega))
  simp [go_sem, *] at q1c1_2
  have q1c1_3 := hb.cell (p := ⟨w.heap.size + 1, 3, none⟩) (by first | omega | (simp <;> omega))
  simp [go_sem, *] at q1c1_3
  have q1c1_4 := hb.cell (p := ⟨w.heap.size + 1, 4, none⟩) (by first | omega | (simp <;> omega))
  simp [go_sem, *] at q1c1_4
  have q1c1_5 := hb.cell (p := ⟨w.heap.size + 1, 5, none⟩) (by first | omega | (simp <;> omega))
  simp [go_sem, *] at q1c1_5
  have q1c1_6 := hb.cell (p := ⟨w.heap.size + 1, 6, none⟩) (by first | omega | (simp <;> omega))
  simp [go_sem, *] at q1c1_6
  have q1f1 := fun o => hb.frozen (p := ⟨w.heap.size + 1, o, none⟩) (by first | omega | (simp <;> omega))
  simp [go_sem, *] at q1f1
  have q1o : ∀ b o, b < w.heap.size → w1.cell? ⟨b, o, none⟩ = w.cell? ⟨b, o, none⟩ := fun b o h => q1B.cell (p := ⟨b, o, none⟩) h
  clear hb
  clear h19
  cases hh : hasA a id an with
  | false =>
    have HM := hide (mkE_0 hh no f t)
    have HS := hide (mkS_err (E := E) (n := jn) (id := id) HM.out (by decide))
    clear hh
    go_wp2_with fail
    refine bodyPost_ret (by simp [results, Tryd.results11, go_sem, *] <;> rfl) rfl ?_
    rw [HM.out, HS.out]
    exact stRet_no 11 (by (repeat (first | (with_reducible exact Below.refl _ _) | (with_reducible assumption) | ((with_reducible refine Below.alloc ?_ ?_ _); (rotate_left); (first | omega | (simp <;> omega))) | ((with_reducible refine Below.setCell ?_ ?_ _); (rotate_left); (first | omega | (simp <;> omega))) | (with_reducible refine Below.drew ?_) | (with_reducible refine below_drewN ?_ _))))
  | true =>
    have HH := hide hh
    clear hh
    by_cases hno : no < 1
    · have HM := hide (mkE_1 HH.out f t hno)
      have HS := hide (mkS_err (E := E) (n := jn) (id := id) HM.out (by decide))
      go_wp2_with fail
      refine bodyPost_ret (by simp [results, Tryd.results11, go_sem, *] <;> rfl) rfl ?_
      rw [HM.out, HS.out]
      exact stRet_no 1 (by (repeat (first | (with_reducible exact Below.refl _ _) | (with_reducible assumption) | ((with_reducible refine Below.alloc ?_ ?_ _); (rotate_left); (first | omega | (simp <;> omega))) | ((with_reducible refine Below.setCell ?_ ?_ _); (rotate_left); (first | omega | (simp <;> omega))) | (with_reducible refine Below.drew ?_) | (with_reducible refine below_drewN ?_ _))))
    · have HNO := hide hno
      have hno2 := Int.not_lt.1 hno
      clear hno
      cases hf : vday f with
      | false =>
        have HM := hide (mkE_2 HH.out t HNO.out hf)
        have HS := hide (mkS_err (E := E) (n := jn) (id := id) HM.out (by decide))
        have HF := hide hf
        clear hf
        go_wp2_with fail
        refine (rvalid_any f _).mono ?_
        rintro e w2 ⟨rfl, rfl⟩
        rw [HF.out]
        go_wp2_with fail
        refine bodyPost_ret (by simp [results, Tryd.results11, go_sem, *] <;> rfl) rfl ?_
        rw [HM.out, HS.out]
        exact stRet_no 1 (by (repeat (first | (with_reducible exact Below.refl _ _) | (with_reducible assumption) | ((with_reducible refine Below.alloc ?_ ?_ _); (rotate_left); (first | omega | (simp <;> omega))) | ((with_reducible refine Below.setCell ?_ ?_ _); (rotate_left); (first | omega | (simp <;> omega))) | (with_reducible refine Below.drew ?_) | (with_reducible refine below_drewN ?_ _))))
      | true =>
        have HF := hide hf
        clear hf
        cases ht : vday t with
        | false =>
          have HM := hide (mkE_3 HH.out HNO.out HF.out ht)
          have HS := hide (mkS_err (E := E) (n := jn) (id := id) HM.out (by decide))
          have HT := hide ht
          clear ht
          go_wp2_with fail
          refine (rvalid_any f _).mono ?_
          rintro e w2 ⟨rfl, rfl⟩
          rw [HF.out]
          go_wp2_with fail
          refine (rvalid_any t _).mono ?_
          rintro e w2 ⟨rfl, rfl⟩
          rw [HT.out]
          go_wp2_with fail
          refine bodyPost_ret (by simp [results, Tryd.results11, go_sem, *] <;> rfl) rfl ?_
          rw [HM.out, HS.out]
          exact stRet_no 1 (by (repeat (first | (with_reducible exact Below.refl _ _) | (with_reducible assumption) | ((with_reducible refine Below.alloc ?_ ?_ _); (rotate_left); (first | omega | (simp <;> omega))) | ((with_reducible refine Below.setCell ?_ ?_ _); (rotate_left); (first | omega | (simp <;> omega))) | (with_reducible refine Below.drew ?_) | (with_reducible refine below_drewN ?_ _))))
        | true =>
          have HT := hide ht
          clear ht
          by_cases hft : f > t
          · have HM := hide (mkE_4 HH.out HNO.out HF.out HT.out hft)
            have HS := hide (mkS_err (E := E) (n := jn) (id := id) HM.out (by decide))
            have hft2 : t < f := hft
            clear hft
            go_wp2_with fail
            refine (rvalid_any f _).mono ?_
            rintro e w2 ⟨rfl, rfl⟩
            rw [HF.out]
            go_wp2_with fail
            refine (rvalid_any t _).mono ?_
            rintro e w2 ⟨rfl, rfl⟩
            rw [HT.out]
            go_wp2_with fail
            refine bodyPost_ret (by simp [results, Tryd.results11, go_sem, *] <;> rfl) rfl ?_
            rw [HM.out, HS.out]
            exact stRet_no 1 (by (repeat (first | (with_reducible exact Below.refl _ _) | (with_reducible assumption) | ((with_reducible refine Below.alloc ?_ ?_ _); (rotate_left); (first | omega | (simp <;> omega))) | ((with_reducible refine Below.setCell ?_ ?_ _); (rotate_left); (first | omega | (simp <;> omega))) | (with_reducible refine Below.drew ?_) | (with_reducible refine below_drewN ?_ _))))
          · have HM := hide (mkE_5 HH.out HNO.out HF.out HT.out hft)
            have HS := hide (mkS_yes (E := E) (n := jn) (id := id) HM.out)
            have hft2 : f ≤ t := by omega
            have HFT := hide hft2
            obtain ⟨f0, f1⟩ := vday_iff.1 HF.out
            clear hft
            go_wp2_with fail
            refine (rvalid_any f _).mono ?_
            rintro e w2 ⟨rfl, rfl⟩
            rw [HF.out]
            go_wp2_with fail
            refine (rvalid_any t _).mono ?_
            rintro e w2 ⟨rfl, rfl⟩
            rw [HT.out]
            go_wp2_with fail
            have H1 := hide q1B
            have HQ := hide (And.intro q1c0_19 (And.intro q1f0 (And.intro q1c1_0 (And.intro q1c1_1 (And.intro q1c1_2 (And.intro q1c1_3 (And.intro q1c1_4 (And.intro q1c1_5 (And.intro q1c1_6 q1f1)))))))))
            refine (before_any jA jn jc E (f - 1) hjn _ ((HJ.out.below H1.out).below (by (repeat (first | (with_reducible exact Below.refl _ _) | (with_reducible assumption) | ((with_reducible refine Below.alloc ?_ ?_ _); (rotate_left); (first | omega | (simp <;> omega))) | ((with_reducible refine Below.setCell ?_ ?_ _); (rotate_left); (first | omega | (simp <;> omega))) | (with_reducible refine Below.drew ?_) | (with_reducible refine below_drewN ?_ _)))))).mono ?_
            rintro e w2 ⟨A2, m2, c2, F2, rfl, hm2, hj2, hs2, hb⟩
            have HO := hide (opS_of (hs2 id).symm.symm)
            have HJ2 := hide hj2
            have hm2' : m2 ≤ 1000000 := by omega
            clear hs2 hj2 hm2
            have q2B : Below w1.heap.size w1 w2 := (by refine Below.trans ?_ (hb.mono (by first | omega | (simp <;> omega))); (repeat (first | (with_reducible exact Below.refl _ _) | (with_reducible assumption) | ((with_reducible refine Below.alloc ?_ ?_ _); (rotate_left); (first | omega | (simp <;> omega))) | ((with_reducible refine Below.setCell ?_ ?_ _); (rotate_left); (first | omega | (simp <;> omega))) | (with_reducible refine Below.drew ?_) | (with_reducible refine below_drewN ?_ _))))
            have q2z := hb.size
            try simp at q2z
            have q2t : w1.heap.size ≤ w2.heap.size := (by omega)
            have q2s0 : w.heap.size < w2.heap.size := (by omega)
            have q2n0_0 : ¬ w2.heap.size = w.heap.size := (by omega)
            have q2n0_1 : ¬ w2.heap.size + 1 = w.heap.size := (by omega)
            have q2n0_2 : ¬ w2.heap.size + 2 = w.heap.size := (by omega)
            have q2c0_19 := hb.cell (p := ⟨w.heap.size, 19, none⟩) (by first | omega | (simp <;> omega))
            simp [go_sem, *] at q2c0_19
            have q2f0 := fun o => hb.frozen (p := ⟨w.heap.size, o, none⟩) (by first | omega | (simp <;> omega))
            simp [go_sem, *] at q2f0
            have q2s1 : w.heap.size + 1 < w2.heap.size := (by omega)
            have q2n1_0 : ¬ w2.heap.size = w.heap.size + 1 := (by omega)
            have q2n1_1 : ¬ w2.heap.size + 1 = w.heap.size + 1 := (by omega)
            have q2n1_2 : ¬ w2.heap.size + 2 = w.heap.size + 1 := (by omega)
            have q2c1_0 := hb.cell (p := ⟨w.heap.size + 1, 0, none⟩) (by first | omega | (simp <;> omega))
            simp [go_sem, *] at q2c1_0
            have q2c1_1 := hb.cell (p := ⟨w.heap.size + 1, 1, none⟩) (by first | omega | (simp <;> omega))
            simp [go_sem, *] at q2c1_1
            have q2c1_2 := hb.cell (p := ⟨w.heap.size + 1, 2, none⟩) (by first | omega | (simp <;> omega))
            simp [go_sem, *] at q2c1_2
            have q2c1_3 := hb.cell (p := ⟨w.heap.size + 1, 3, none⟩) (by first | omega | (simp <;> omega))
            simp [go_sem, *] at q2c1_3
            have q2c1_4 := hb.cell (p := ⟨w.heap.size + 1, 4, none⟩) (by first | omega | (simp <;> omega))
            simp [go_sem, *] at q2c1_4
            have q2c1_5 := hb.cell (p := ⟨w.heap.size + 1, 5, none⟩) (by first | omega | (simp <;> omega))
            simp [go_sem, *] at q2c1_5
            have q2c1_6 := hb.cell (p := ⟨w.heap.size + 1, 6, none⟩) (by first | omega | (simp <;> omega))
            simp [go_sem, *] at q2c1_6
            have q2f1 := fun o => hb.frozen (p := ⟨w.heap.size + 1, o, none⟩) (by first | omega | (simp <;> omega))
            simp [go_sem, *] at q2f1
            have q2s2 : w1.heap.size + 1 < w2.heap.size := (by omega)
            have q2n2_0 : ¬ w2.heap.size = w1.heap.size + 1 := (by omega)
            have q2n2_1 : ¬ w2.heap.size + 1 = w1.heap.size + 1 := (by omega)
            have q2n2_2 : ¬ w2.heap.size + 2 = w1.heap.size + 1 := (by omega)
            have q2c2_0 := hb.cell (p := ⟨w1.heap.size + 1, 0, none⟩) (by first | omega | (simp <;> omega))
            simp [go_sem, *] at q2c2_0
            have q2c2_1 := hb.cell (p := ⟨w1.heap.size + 1, 1, none⟩) (by first | omega | (simp <;> omega))
            simp [go_sem, *] at q2c2_1
            have q2c2_2 := hb.cell (p := ⟨w1.heap.size + 1, 2, none⟩) (by first | omega | (simp <;> omega))
            simp [go_sem, *] at q2c2_2
            have q2c2_3 := hb.cell (p := ⟨w1.heap.size + 1, 3, none⟩) (by first | omega | (simp <;> omega))
            simp [go_sem, *] at q2c2_3
            have q2c2_4 := hb.cell (p := ⟨w1.heap.size + 1, 4, none⟩) (by first | omega | (simp <;> omega))
            simp [go_sem, *] at q2c2_4
            have q2c2_5 := hb.cell (p := ⟨w1.heap.size + 1, 5, none⟩) (by first | omega | (simp <;> omega))
            simp [go_sem, *] at q2c2_5
            have q2c2_6 := hb.cell (p := ⟨w1.heap.size + 1, 6, none⟩) (by first | omega | (simp <;> omega))
            simp [go_sem, *] at q2c2_6
            have q2f2 := fun o => hb.frozen (p := ⟨w1.heap.size + 1, o, none⟩) (by first | omega | (simp <;> omega))
            simp [go_sem, *] at q2f2
            have q2o : ∀ b o, b < w1.heap.size → w2.cell? ⟨b, o, none⟩ = w1.cell? ⟨b, o, none⟩ := fun b o h => q2B.cell (p := ⟨b, o, none⟩) h
            clear hb q1o q1f1 q1c1_6 q1c1_5 q1c1_4 q1c1_3 q1c1_2 q1c1_1 q1c1_0 q1s1 q1f0 q1c0_19 q1s0 q1z q1B
            have H2 := hide q2B
            go_wp2_with fail
            refine (rof_any A2 m2 c2 F2 id hm2' _ (HJ2.out.below (by (repeat (first | (with_reducible exact Below.refl _ _) | (with_reducible assumption) | ((with_reducible refine Below.alloc ?_ ?_ _); (rotate_left); (first | omega | (simp <;> omega))) | ((with_reducible refine Below.setCell ?_ ?_ _); (rotate_left); (first | omega | (simp <;> omega))) | (with_reducible refine Below.drew ?_) | (with_reducible refine below_drewN ?_ _)))))).mono ?_
            rintro e w3 ⟨rfl, hb⟩
            rw [HO.out]
            have q3B : Below w2.heap.size w2 w3 := (by refine Below.trans ?_ (hb.mono (by first | omega | (simp <;> omega))); (repeat (first | (with_reducible exact Below.refl _ _) | (with_reducible assumption) | ((with_reducible refine Below.alloc ?_ ?_ _); (rotate_left); (first | omega | (simp <;> omega))) | ((with_reducible refine Below.setCell ?_ ?_ _); (rotate_left); (first | omega | (simp <;> omega))) | (with_reducible refine Below.drew ?_) | (with_reducible refine below_drewN ?_ _))))
            have q3z := hb.size
            try simp at q3z
            have q3t : w2.heap.size ≤ w3.heap.size := (by omega)
            have q3s0 : w.heap.size < w3.heap.size := (by omega)
            have q3n0_0 : ¬ w3.heap.size = w.heap.size := (by omega)
            have q3n0_1 : ¬ w3.heap.size + 1 = w.heap.size := (by omega)
            have q3n0_2 : ¬ w3.heap.size + 2 = w.heap.size := (by omega)
            have q3c0_19 := hb.cell (p := ⟨w.heap.size, 19, none⟩) (by first | omega | (simp <;> omega))
            simp [go_sem, *] at q3c0_19
            have q3f0 := fun o => hb.frozen (p := ⟨w.heap.size, o, none⟩) (by first | omega | (simp <;> omega))
            simp [go_sem, *] at q3f0
            have q3s1 : w.heap.size + 1 < w3.heap.size := (by omega)
            have q3n1_0 : ¬ w3.heap.size = w.heap.size + 1 := (by omega)
            have q3n1_1 : ¬ w3.heap.size + 1 = w.heap.size + 1 := (by omega)
            have q3n1_2 : ¬ w3.heap.size + 2 = w.heap.size + 1 := (by omega)
            have q3c1_0 := hb.cell (p := ⟨w.heap.size + 1, 0, none⟩) (by first | omega | (simp <;> omega))
            simp [go_sem, *] at q3c1_0
            have q3c1_1 := hb.cell (p := ⟨w.heap.size + 1, 1, none⟩) (by first | omega | (simp <;> omega))
            simp [go_sem, *] at q3c1_1
            have q3c1_2 := hb.cell (p := ⟨w.heap.size + 1, 2, none⟩) (by first | omega | (simp <;> omega))
            simp [go_sem, *] at q3c1_2
            have q3c1_3 := hb.cell (p := ⟨w.heap.size + 1, 3, none⟩) (by first | omega | (simp <;> omega))
            simp [go_sem, *] at q3c1_3
            have q3c1_4 := hb.cell (p := ⟨w.heap.size + 1, 4, none⟩) (by first | omega | (simp <;> omega))
            simp [go_sem, *] at q3c1_4
            have q3c1_5 := hb.cell (p := ⟨w.heap.size + 1, 5, none⟩) (by first | omega | (simp <;> omega))
            simp [go_sem, *] at q3c1_5
            have q3c1_6 := hb.cell (p := ⟨w.heap.size + 1, 6, none⟩) (by first | omega | (simp <;> omega))
            simp [go_sem, *] at q3c1_6
            have q3f1 := fun o => hb.frozen (p := ⟨w.heap.size + 1, o, none⟩) (by first | omega | (simp <;> omega))
            simp [go_sem, *] at q3f1
            have q3s2 : w1.heap.size + 1 < w3.heap.size := (by omega)
            have q3n2_0 : ¬ w3.heap.size = w1.heap.size + 1 := (by omega)
            have q3n2_1 : ¬ w3.heap.size + 1 = w1.heap.size + 1 := (by omega)
            have q3n2_2 : ¬ w3.heap.size + 2 = w1.heap.size + 1 := (by omega)
            have q3c2_0 := hb.cell (p := ⟨w1.heap.size + 1, 0, none⟩) (by first | omega | (simp <;> omega))
            simp [go_sem, *] at q3c2_0
            have q3c2_1 := hb.cell (p := ⟨w1.heap.size + 1, 1, none⟩) (by first | omega | (simp <;> omega))
            simp [go_sem, *] at q3c2_1
            have q3c2_2 := hb.cell (p := ⟨w1.heap.size + 1, 2, none⟩) (by first | omega | (simp <;> omega))
            simp [go_sem, *] at q3c2_2
            have q3c2_3 := hb.cell (p := ⟨w1.heap.size + 1, 3, none⟩) (by first | omega | (simp <;> omega))
            simp [go_sem, *] at q3c2_3
            have q3c2_4 := hb.cell (p := ⟨w1.heap.size + 1, 4, none⟩) (by first | omega | (simp <;> omega))
            simp [go_sem, *] at q3c2_4
            have q3c2_5 := hb.cell (p := ⟨w1.heap.size + 1, 5, none⟩) (by first | omega | (simp <;> omega))
            simp [go_sem, *] at q3c2_5
            have q3c2_6 := hb.cell (p := ⟨w1.heap.size + 1, 6, none⟩) (by first | omega | (simp <;> omega))
            simp [go_sem, *] at q3c2_6
            have q3f2 := fun o => hb.frozen (p := ⟨w1.heap.size + 1, o, none⟩) (by first | omega | (simp <;> omega))
            simp [go_sem, *] at q3f2
            have q3o : ∀ b o, b < w2.heap.size → w3.cell? ⟨b, o, none⟩ = w2.cell? ⟨b, o, none⟩ := fun b o h => q3B.cell (p := ⟨b, o, none⟩) h
            clear hb q2o q2f2 q2c2_6 q2c2_5 q2c2_4 q2c2_3 q2c2_2 q2c2_1 q2c2_0 q2s2 q2f1 q2c1_6 q2c1_5 q2c1_4 q2c1_3 q2c1_2 q2c1_1 q2c1_0 q2s1 q2f0 q2c0_19 q2s0 q2z q2B
            have H3 := hide q3B
            go_wp2_with fail
            refine (before_any jA jn jc E t hjn _ ((HJ.out.below H1.out).below (H2.out.trans (by refine Below.trans (H3.out.mono (by omega)) ?_; (repeat (first | (with_reducible exact Below.refl _ _) | (with_reducible assumption) | ((with_reducible refine Below.alloc ?_ ?_ _); (rotate_left); (first | omega | (simp <;> omega))) | ((with_reducible refine Below.setCell ?_ ?_ _); (rotate_left); (first | omega | (simp <;> omega))) | (with_reducible refine Below.drew ?_) | (with_reducible refine below_drewN ?_ _))))))).mono ?_
            rintro e w4 ⟨A4, m4, c4, F4, rfl, hm4, hj4, hs4, hb⟩
            have HC := hide (show sumE F4 id (fun _ => true) m4 = clS E id t jn from hs4 id)
            have HJ4 := hide hj4
            have hm4' : m4 ≤ 1000000 := by omega
            clear hs4 hj4 hm4
            have h13 : Below w1.heap.size w1 w3 := H2.out.trans (H3.out.mono (by omega))
            have q4B : Below w1.heap.size w1 w4 := (by refine Below.trans ?_ (hb.mono (by first | omega | (simp <;> omega))); (repeat (first | (with_reducible exact Below.refl _ _) | (with_reducible assumption) | ((with_reducible refine Below.alloc ?_ ?_ _); (rotate_left); (first | omega | (simp <;> omega))) | ((with_reducible refine Below.setCell ?_ ?_ _); (rotate_left); (first | omega | (simp <;> omega))) | (with_reducible refine Below.drew ?_) | (with_reducible refine below_drewN ?_ _))))
            have q4z := hb.size
            try simp at q4z
            have q4t : w1.heap.size ≤ w4.heap.size := (by omega)
            have q4s0 : w.heap.size < w4.heap.size := (by omega)
            have q4n0_0 : ¬ w4.heap.size = w.heap.size := (by omega)
            have q4n0_1 : ¬ w4.heap.size + 1 = w.heap.size := (by omega)
            have q4n0_2 : ¬ w4.heap.size + 2 = w.heap.size := (by omega)
            have q4c0_19 := hb.cell (p := ⟨w.heap.size, 19, none⟩) (by first | omega | (simp <;> omega))
            simp [go_sem, *] at q4c0_19
            have q4f0 := fun o => hb.frozen (p := ⟨w.heap.size, o, none⟩) (by first | omega | (simp <;> omega))
            simp [go_sem, *] at q4f0
            have q4s1 : w.heap.size + 1 < w4.heap.size := (by omega)
            have q4n1_0 : ¬ w4.heap.size = w.heap.size + 1 := (by omega)
            have q4n1_1 : ¬ w4.heap.size + 1 = w.heap.size + 1 := (by omega)
            have q4n1_2 : ¬ w4.heap.size + 2 = w.heap.size + 1 := (by omega)
            have q4c1_0 := hb.cell (p := ⟨w.heap.size + 1, 0, none⟩) (by first | omega | (simp <;> omega))
            simp [go_sem, *] at q4c1_0
            have q4c1_1 := hb.cell (p := ⟨w.heap.size + 1, 1, none⟩) (by first | omega | (simp <;> omega))
            simp [go_sem, *] at q4c1_1
            have q4c1_2 := hb.cell (p := ⟨w.heap.size + 1, 2, none⟩) (by first | omega | (simp <;> omega))
            simp [go_sem, *] at q4c1_2
            have q4c1_3 := hb.cell (p := ⟨w.heap.size + 1, 3, none⟩) (by first | omega | (simp <;> omega))
            simp [go_sem, *] at q4c1_3
            have q4c1_4 := hb.cell (p := ⟨w.heap.size + 1, 4, none⟩) (by first | omega | (simp <;> omega))
            simp [go_sem, *] at q4c1_4
            have q4c1_5 := hb.cell (p := ⟨w.heap.size + 1, 5, none⟩) (by first | omega | (simp <;> omega))
            simp [go_sem, *] at q4c1_5
            have q4c1_6 := hb.cell (p := ⟨w.heap.size + 1, 6, none⟩) (by first | omega | (simp <;> omega))
            simp [go_sem, *] at q4c1_6
            have q4f1 := fun o => hb.frozen (p := ⟨w.heap.size + 1, o, none⟩) (by first | omega | (simp <;> omega))
            simp [go_sem, *] at q4f1
            have q4s2 : w1.heap.size + 1 < w4.heap.size := (by omega)
            have q4n2_0 : ¬ w4.heap.size = w1.heap.size + 1 := (by omega)
            have q4n2_1 : ¬ w4.heap.size + 1 = w1.heap.size + 1 := (by omega)
            have q4n2_2 : ¬ w4.heap.size + 2 = w1.heap.size + 1 := (by omega)
            have q4c2_0 := hb.cell (p := ⟨w1.heap.size + 1, 0, none⟩) (by first | omega | (simp <;> omega))
            simp [go_sem, *] at q4c2_0
            have q4c2_1 := hb.cell (p := ⟨w1.heap.size + 1, 1, none⟩) (by first | omega | (simp <;> omega))
            simp [go_sem, *] at q4c2_1
            have q4c2_2 := hb.cell (p := ⟨w1.heap.size + 1, 2, none⟩) (by first | omega | (simp <;> omega))
            simp [go_sem, *] at q4c2_2
            have q4c2_3 := hb.cell (p := ⟨w1.heap.size + 1, 3, none⟩) (by first | omega | (simp <;> omega))
            simp [go_sem, *] at q4c2_3
            have q4c2_4 := hb.cell (p := ⟨w1.heap.size + 1, 4, none⟩) (by first | omega | (simp <;> omega))
            simp [go_sem, *] at q4c2_4
            have q4c2_5 := hb.cell (p := ⟨w1.heap.size + 1, 5, none⟩) (by first | omega | (simp <;> omega))
            simp [go_sem, *] at q4c2_5
            have q4c2_6 := hb.cell (p := ⟨w1.heap.size + 1, 6, none⟩) (by first | omega | (simp <;> omega))
            simp [go_sem, *] at q4c2_6
            have q4f2 := fun o => hb.frozen (p := ⟨w1.heap.size + 1, o, none⟩) (by first | omega | (simp <;> omega))
            simp [go_sem, *] at q4f2
            have q4o : ∀ b o, b < w1.heap.size → w4.cell? ⟨b, o, none⟩ = w1.cell? ⟨b, o, none⟩ := fun b o h => q4B.cell (p := ⟨b, o, none⟩) h
            clear hb q3o q3f2 q3c2_6 q3c2_5 q3c2_4 q3c2_3 q3c2_2 q3c2_1 q3c2_0 q3s2 q3f1 q3c1_6 q3c1_5 q3c1_4 q3c1_3 q3c1_2 q3c1_1 q3c1_0 q3s1 q3f0 q3c0_19 q3s0 q3z q3B
            have H4 := hide q4B
            go_wp2_with fail
            refine (rof_any A4 m4 c4 F4 id hm4' _ (HJ4.out.below (by (repeat (first | (with_reducible exact Below.refl _ _) | (with_reducible assumption) | ((with_reducible refine Below.alloc ?_ ?_ _); (rotate_left); (first | omega | (simp <;> omega))) | ((with_reducible refine Below.setCell ?_ ?_ _); (rotate_left); (first | omega | (simp <;> omega))) | (with_reducible refine Below.drew ?_) | (with_reducible refine below_drewN ?_ _)))))).mono ?_
            rintro e w5 ⟨rfl, hb⟩
            rw [HC.out]
            have q5B : Below w4.heap.size w4 w5 := (by refine Below.trans ?_ (hb.mono (by first | omega | (simp <;> omega))); (repeat (first | (with_reducible exact Below.refl _ _) | (with_reducible assumption) | ((with_reducible refine Below.alloc ?_ ?_ _); (rotate_left); (first | omega | (simp <;> omega))) | ((with_reducible refine Below.setCell ?_ ?_ _); (rotate_left); (first | omega | (simp <;> omega))) | (with_reducible refine Below.drew ?_) | (with_reducible refine below_drewN ?_ _))))
            have q5z := hb.size
            try simp at q5z
            have q5t : w4.heap.size ≤ w5.heap.size := (by omega)
            have q5s0 : w.heap.size < w5.heap.size := (by omega)
            have q5n0_0 : ¬ w5.heap.size = w.heap.size := (by omega)
            have q5n0_1 : ¬ w5.heap.size + 1 = w.heap.size := (by omega)
            have q5n0_2 : ¬ w5.heap.size + 2 = w.heap.size := (by omega)
            have q5c0_19 := hb.cell (p := ⟨w.heap.size, 19, none⟩) (by first | omega | (simp <;> omega))
            simp [go_sem, *] at q5c0_19
            have q5f0 := fun o => hb.frozen (p := ⟨w.heap.size, o, none⟩) (by first | omega | (simp <;> omega))
            simp [go_sem, *] at q5f0
            have q5s1 : w.heap.size + 1 < w5.heap.size := (by omega)
            have q5n1_0 : ¬ w5.heap.size = w.heap.size + 1 := (by omega)
            have q5n1_1 : ¬ w5.heap.size + 1 = w.heap.size + 1 := (by omega)
            have q5n1_2 : ¬ w5.heap.size + 2 = w.heap.size + 1 := (by omega)
            have q5c1_0 := hb.cell (p := ⟨w.heap.size + 1, 0, none⟩) (by first | omega | (simp <;> omega))
            simp [go_sem, *] at q5c1_0
            have q5c1_1 := hb.cell (p := ⟨w.heap.size + 1, 1, none⟩) (by first | omega | (simp <;> omega))
            simp [go_sem, *] at q5c1_1
            have q5c1_2 := hb.cell (p := ⟨w.heap.size + 1, 2, none⟩) (by first | omega | (simp <;> omega))
            simp [go_sem, *] at q5c1_2
            have q5c1_3 := hb.cell (p := ⟨w.heap.size + 1, 3, none⟩) (by first | omega | (simp <;> omega))
            simp [go_sem, *] at q5c1_3
            have q5c1_4 := hb.cell (p := ⟨w.heap.size + 1, 4, none⟩) (by first | omega | (simp <;> omega))
            simp [go_sem, *] at q5c1_4
            have q5c1_5 := hb.cell (p := ⟨w.heap.size + 1, 5, none⟩) (by first | omega | (simp <;> omega))
            simp [go_sem, *] at q5c1_5
            have q5c1_6 := hb.cell (p := ⟨w.heap.size + 1, 6, none⟩) (by first | omega | (simp <;> omega))
            simp [go_sem, *] at q5c1_6
            have q5f1 := fun o => hb.frozen (p := ⟨w.heap.size + 1, o, none⟩) (by first | omega | (simp <;> omega))
            simp [go_sem, *] at q5f1
            have q5s2 : w1.heap.size + 1 < w5.heap.size := (by omega)
            have q5n2_0 : ¬ w5.heap.size = w1.heap.size + 1 := (by omega)
            have q5n2_1 : ¬ w5.heap.size + 1 = w1.heap.size + 1 := (by omega)
            have q5n2_2 : ¬ w5.heap.size + 2 = w1.heap.size + 1 := (by omega)
            have q5c2_0 := hb.cell (p := ⟨w1.heap.size + 1, 0, none⟩) (by first | omega | (simp <;> omega))
            simp [go_sem, *] at q5c2_0
            have q5c2_1 := hb.cell (p := ⟨w1.heap.size + 1, 1, none⟩) (by first | omega | (simp <;> omega))
            simp [go_sem, *] at q5c2_1
            have q5c2_2 := hb.cell (p := ⟨w1.heap.size + 1, 2, none⟩) (by first | omega | (simp <;> omega))
            simp [go_sem, *] at q5c2_2
            have q5c2_3 := hb.cell (p := ⟨w1.heap.size + 1, 3, none⟩) (by first | omega | (simp <;> omega))
            simp [go_sem, *] at q5c2_3
            have q5c2_4 := hb.cell (p := ⟨w1.heap.size + 1, 4, none⟩) (by first | omega | (simp <;> omega))
            simp [go_sem, *] at q5c2_4
            have q5c2_5 := hb.cell (p := ⟨w1.heap.size + 1, 5, none⟩) (by first | omega | (simp <;> omega))
            simp [go_sem, *] at q5c2_5
            have q5c2_6 := hb.cell (p := ⟨w1.heap.size + 1, 6, none⟩) (by first | omega | (simp <;> omega))
            simp [go_sem, *] at q5c2_6
            have q5f2 := fun o => hb.frozen (p := ⟨w1.heap.size + 1, o, none⟩) (by first | omega | (simp <;> omega))
            simp [go_sem, *] at q5f2
            have q5o : ∀ b o, b < w4.heap.size → w5.cell? ⟨b, o, none⟩ = w4.cell? ⟨b, o, none⟩ := fun b o h => q5B.cell (p := ⟨b, o, none⟩) h
            clear hb q4o q4f2 q4c2_6 q4c2_5 q4c2_4 q4c2_3 q4c2_2 q4c2_1 q4c2_0 q4s2 q4f1 q4c1_6 q4c1_5 q4c1_4 q4c1_3 q4c1_2 q4c1_1 q4c1_0 q4s1 q4f0 q4c0_19 q4s0 q4z q4B
            have h15 : Below w1.heap.size w1 w5 := H4.out.trans (q5B.mono (by omega))
            go_wp2_with fail
            go_loopw [15] (fun v wr => RkI E id no f t jn (w1.heap.size + 1) 66 w1 v wr) (fun v _ => jn - (intOf v).toNat)
            case atStart => exact ⟨0, none, 0, by omega, rfl, by (repeat (first | (with_reducible exact Below.refl _ _) | (with_reducible assumption) | ((with_reducible refine Below.alloc ?_ ?_ _); (rotate_left); (first | omega | (simp <;> omega))) | ((with_reducible refine Below.setCell ?_ ?_ _); (rotate_left); (first | omega | (simp <;> omega))) | (with_reducible refine Below.drew ?_) | (with_reducible refine below_drewN ?_ _))), by simp; omega, fun o => by simp [go_sem, *], by simp [go_sem, *], by simp [go_sem, *], by simp [go_sem, *], by simp [go_sem, *], by simp [go_sem, *], by simp [go_sem, *], by simp [go_sem, *]; rfl, ⟨rfl, .inl ⟨rfl, rfl⟩⟩⟩
            case round =>
              clear h13 h15
              obtain ⟨k, A9, c9, hk, rfl, hb, hg, bf, b0, b1, b2, b3, b4, b5, b6, hown⟩ := hrel
              have H0 := hide hb
              obtain ⟨p19, pf0, p0, p1, p2, p3, p4, p5, p6, pf1⟩ := HQ.out
              have q6B : Below w1.heap.size w1 wr := (by refine Below.trans ?_ (hb.mono (by first | omega | (simp <;> omega))); (repeat (first | (with_reducible exact Below.refl _ _) | (with_reducible assumption) | ((with_reducible refine Below.alloc ?_ ?_ _); (rotate_left); (first | omega | (simp <;> omega))) | ((with_reducible refine Below.setCell ?_ ?_ _); (rotate_left); (first | omega | (simp <;> omega))) | (with_reducible refine Below.drew ?_) | (with_reducible refine below_drewN ?_ _))))
              have q6z := hb.size
              try simp at q6z
              have q6t : w1.heap.size ≤ wr.heap.size := (by omega)
              have q6s0 : w.heap.size < wr.heap.size := (by omega)
              have q6n0_0 : ¬ wr.heap.size = w.heap.size := (by omega)
              have q6n0_1 : ¬ wr.heap.size + 1 = w.heap.size := (by omega)
              have q6n0_2 : ¬ wr.heap.size + 2 = w.heap.size := (by omega)
              have q6c0_19 := hb.cell (p := ⟨w.heap.size, 19, none⟩) (by first | omega | (simp <;> omega))
              simp [go_sem, *] at q6c0_19
              have q6f0 := fun o => hb.frozen (p := ⟨w.heap.size, o, none⟩) (by first | omega | (simp <;> omega))
              simp [go_sem, *] at q6f0
              have q6s1 : w.heap.size + 1 < wr.heap.size := (by omega)
              have q6n1_0 : ¬ wr.heap.size = w.heap.size + 1 := (by omega)
              have q6n1_1 : ¬ wr.heap.size + 1 = w.heap.size + 1 := (by omega)
              have q6n1_2 : ¬ wr.heap.size + 2 = w.heap.size + 1 := (by omega)
              have q6c1_0 := hb.cell (p := ⟨w.heap.size + 1, 0, none⟩) (by first | omega | (simp <;> omega))
              simp [go_sem, *] at q6c1_0
              have q6c1_1 := hb.cell (p := ⟨w.heap.size + 1, 1, none⟩) (by first | omega | (simp <;> omega))
              simp [go_sem, *] at q6c1_1
              have q6c1_2 := hb.cell (p := ⟨w.heap.size + 1, 2, none⟩) (by first | omega | (simp <;> omega))
              simp [go_sem, *] at q6c1_2
              have q6c1_3 := hb.cell (p := ⟨w.heap.size + 1, 3, none⟩) (by first | omega | (simp <;> omega))
              simp [go_sem, *] at q6c1_3
              have q6c1_4 := hb.cell (p := ⟨w.heap.size + 1, 4, none⟩) (by first | omega | (simp <;> omega))
              simp [go_sem, *] at q6c1_4
              have q6c1_5 := hb.cell (p := ⟨w.heap.size + 1, 5, none⟩) (by first | omega | (simp <;> omega))
              simp [go_sem, *] at q6c1_5
              have q6c1_6 := hb.cell (p := ⟨w.heap.size + 1, 6, none⟩) (by first | omega | (simp <;> omega))
              simp [go_sem, *] at q6c1_6
              have q6f1 := fun o => hb.frozen (p := ⟨w.heap.size + 1, o, none⟩) (by first | omega | (simp <;> omega))
              simp [go_sem, *] at q6f1
              have q6o : ∀ b o, b < w1.heap.size → wr.cell? ⟨b, o, none⟩ = w1.cell? ⟨b, o, none⟩ := fun b o h => q6B.cell (p := ⟨b, o, none⟩) h
              clear hb q5o q5f2 q5c2_6 q5c2_5 q5c2_4 q5c2_3 q5c2_2 q5c2_1 q5c2_0 q5s2 q5f1 q5c1_6 q5c1_5 q5c1_4 q5c1_3 q5c1_2 q5c1_1 q5c1_0 q5s1 q5f0 q5c0_19 q5s0 q5z q5B
              clear p19 pf0 p0 p1 p2 p3 p4 p5 p6 pf1
              have H6 := hide q6B
              by_cases hlt : k < jn
              · have hm : (k : Int) < jn := by omega
                have HK := hide hlt
                have hk0 : (0 : Int) ≤ k := by omega
                obtain ⟨b, off, rfl, hbl, c0, c1, c2, c3, c4, c5, c6, c7, c8, d9⟩ := ((HJ.out.below H1.out).below q6B).row.at hlt
                clear hlt hk
                by_cases g1 : (E k).bk < f
                · have HL := hide (lnL_lt (id := id) (t := t) g1)
                  go_wp2_with fail
                  go_roundw
                  case rel => exact ⟨k + 1, A9, c9, HK.out, by go_num, by (repeat (first | (with_reducible exact Below.refl _ _) | (with_reducible assumption) | ((with_reducible refine Below.alloc ?_ ?_ _); (rotate_left); (first | omega | (simp <;> omega))) | ((with_reducible refine Below.setCell ?_ ?_ _); (rotate_left); (first | omega | (simp <;> omega))) | (with_reducible refine Below.drew ?_) | (with_reducible refine below_drewN ?_ _))), by simp; omega, fun o => by simp [go_sem, *], by simp [go_sem, *], by simp [go_sem, *], by simp [go_sem, *], by simp [go_sem, *], by simp [go_sem, *], by simp [go_sem, *], by rw [HL.out]; simp [go_sem, *], by rw [HL.out]; exact hown.alloc _⟩
                  case measure => have := HK.out; simp [intOf]; omega
                · have g1' := Int.not_lt.1 g1
                  clear g1
                  by_cases g2 : (E k).bk > t
                  · have HL := hide (lnL_gt (id := id) (f := f) g2)
                    have g2' : t < (E k).bk := g2
                    clear g2
                    go_wp2_with fail
                    go_roundw
                    case rel => exact ⟨k + 1, A9, c9, HK.out, by go_num, by (repeat (first | (with_reducible exact Below.refl _ _) | (with_reducible assumption) | ((with_reducible refine Below.alloc ?_ ?_ _); (rotate_left); (first | omega | (simp <;> omega))) | ((with_reducible refine Below.setCell ?_ ?_ _); (rotate_left); (first | omega | (simp <;> omega))) | (with_reducible refine Below.drew ?_) | (with_reducible refine below_drewN ?_ _))), by simp; omega, fun o => by simp [go_sem, *], by simp [go_sem, *], by simp [go_sem, *], by simp [go_sem, *], by simp [go_sem, *], by simp [go_sem, *], by simp [go_sem, *], by rw [HL.out]; simp [go_sem, *], by rw [HL.out]; exact hown.alloc _⟩
                    case measure => have := HK.out; simp [intOf]; omega
                  · have g2' := Int.not_lt.1 g2
                    clear g2
                    go_wp2_with fail
                    refine (moves_any _ (E k).lA (E k).ln (E k).lc rfl (E k).legs id (HJ.out.legs k HK.out) _ (((HJ.out.row.2 k HK.out).below (H1.out.trans (q6B.mono (by omega)))).below (by (repeat (first | (with_reducible exact Below.refl _ _) | (with_reducible assumption) | ((with_reducible refine Below.alloc ?_ ?_ _); (rotate_left); (first | omega | (simp <;> omega))) | ((with_reducible refine Below.setCell ?_ ?_ _); (rotate_left); (first | omega | (simp <;> omega))) | (with_reducible refine Below.drew ?_) | (with_reducible refine below_drewN ?_ _)))))).mono ?_
                    rintro e w6 ⟨rfl, hb⟩
                    have HOW := hide hown
                    clear hown
                    have q7B : Below wr.heap.size wr w6 := (by refine Below.trans ?_ (hb.mono (by first | omega | (simp <;> omega))); (repeat (first | (with_reducible exact Below.refl _ _) | (with_reducible assumption) | ((with_reducible refine Below.alloc ?_ ?_ _); (rotate_left); (first | omega | (simp <;> omega))) | ((with_reducible refine Below.setCell ?_ ?_ _); (rotate_left); (first | omega | (simp <;> omega))) | (with_reducible refine Below.drew ?_) | (with_reducible refine below_drewN ?_ _))))
                    have q7z := hb.size
                    try simp at q7z
                    have q7t : wr.heap.size ≤ w6.heap.size := (by omega)
                    have q7s0 : w.heap.size < w6.heap.size := (by omega)
                    have q7n0_0 : ¬ w6.heap.size = w.heap.size := (by omega)
                    have q7n0_1 : ¬ w6.heap.size + 1 = w.heap.size := (by omega)
                    have q7n0_2 : ¬ w6.heap.size + 2 = w.heap.size := (by omega)
                    have q7c0_19 := hb.cell (p := ⟨w.heap.size, 19, none⟩) (by first | omega | (simp <;> omega))
                    simp [go_sem, *] at q7c0_19
                    have q7f0 := fun o => hb.frozen (p := ⟨w.heap.size, o, none⟩) (by first | omega | (simp <;> omega))
                    simp [go_sem, *] at q7f0
                    have q7s1 : w.heap.size + 1 < w6.heap.size := (by omega)
                    have q7n1_0 : ¬ w6.heap.size = w.heap.size + 1 := (by omega)
                    have q7n1_1 : ¬ w6.heap.size + 1 = w.heap.size + 1 := (by omega)
                    have q7n1_2 : ¬ w6.heap.size + 2 = w.heap.size + 1 := (by omega)
                    have q7c1_0 := hb.cell (p := ⟨w.heap.size + 1, 0, none⟩) (by first | omega | (simp <;> omega))
                    simp [go_sem, *] at q7c1_0
                    have q7c1_1 := hb.cell (p := ⟨w.heap.size + 1, 1, none⟩) (by first | omega | (simp <;> omega))
                    simp [go_sem, *] at q7c1_1
                    have q7c1_2 := hb.cell (p := ⟨w.heap.size + 1, 2, none⟩) (by first | omega | (simp <;> omega))
                    simp [go_sem, *] at q7c1_2
                    have q7c1_3 := hb.cell (p := ⟨w.heap.size + 1, 3, none⟩) (by first | omega | (simp <;> omega))
                    simp [go_sem, *] at q7c1_3
                    have q7c1_4 := hb.cell (p := ⟨w.heap.size + 1, 4, none⟩) (by first | omega | (simp <;> omega))
                    simp [go_sem, *] at q7c1_4
                    have q7c1_5 := hb.cell (p := ⟨w.heap.size + 1, 5, none⟩) (by first | omega | (simp <;> omega))
                    simp [go_sem, *] at q7c1_5
                    have q7c1_6 := hb.cell (p := ⟨w.heap.size + 1, 6, none⟩) (by first | omega | (simp <;> omega))
                    simp [go_sem, *] at q7c1_6
                    have q7f1 := fun o => hb.frozen (p := ⟨w.heap.size + 1, o, none⟩) (by first | omega | (simp <;> omega))
                    simp [go_sem, *] at q7f1
                    have q7s2 : w1.heap.size + 1 < w6.heap.size := (by omega)
                    have q7n2_0 : ¬ w6.heap.size = w1.heap.size + 1 := (by omega)
                    have q7n2_1 : ¬ w6.heap.size + 1 = w1.heap.size + 1 := (by omega)
                    have q7n2_2 : ¬ w6.heap.size + 2 = w1.heap.size + 1 := (by omega)
                    have q7c2_0 := hb.cell (p := ⟨w1.heap.size + 1, 0, none⟩) (by first | omega | (simp <;> omega))
                    simp [go_sem, *] at q7c2_0
                    have q7c2_1 := hb.cell (p := ⟨w1.heap.size + 1, 1, none⟩) (by first | omega | (simp <;> omega))
                    simp [go_sem, *] at q7c2_1
                    have q7c2_2 := hb.cell (p := ⟨w1.heap.size + 1, 2, none⟩) (by first | omega | (simp <;> omega))
                    simp [go_sem, *] at q7c2_2
                    have q7c2_3 := hb.cell (p := ⟨w1.heap.size + 1, 3, none⟩) (by first | omega | (simp <;> omega))
                    simp [go_sem, *] at q7c2_3
                    have q7c2_4 := hb.cell (p := ⟨w1.heap.size + 1, 4, none⟩) (by first | omega | (simp <;> omega))
                    simp [go_sem, *] at q7c2_4
                    have q7c2_5 := hb.cell (p := ⟨w1.heap.size + 1, 5, none⟩) (by first | omega | (simp <;> omega))
                    simp [go_sem, *] at q7c2_5
                    have q7c2_6 := hb.cell (p := ⟨w1.heap.size + 1, 6, none⟩) (by first | omega | (simp <;> omega))
                    simp [go_sem, *] at q7c2_6
                    have q7f2 := fun o => hb.frozen (p := ⟨w1.heap.size + 1, o, none⟩) (by first | omega | (simp <;> omega))
                    simp [go_sem, *] at q7f2
                    have q7s3 : wr.heap.size < w6.heap.size := (by omega)
                    have q7n3_0 : ¬ w6.heap.size = wr.heap.size := (by omega)
                    have q7n3_1 : ¬ w6.heap.size + 1 = wr.heap.size := (by omega)
                    have q7n3_2 : ¬ w6.heap.size + 2 = wr.heap.size := (by omega)
                    have q7c3_0 := hb.cell (p := ⟨wr.heap.size, 0, none⟩) (by first | omega | (simp <;> omega))
                    simp [go_sem, *] at q7c3_0
                    have q7c3_1 := hb.cell (p := ⟨wr.heap.size, 1, none⟩) (by first | omega | (simp <;> omega))
                    simp [go_sem, *] at q7c3_1
                    have q7c3_2 := hb.cell (p := ⟨wr.heap.size, 2, none⟩) (by first | omega | (simp <;> omega))
                    simp [go_sem, *] at q7c3_2
                    have q7c3_3 := hb.cell (p := ⟨wr.heap.size, 3, none⟩) (by first | omega | (simp <;> omega))
                    simp [go_sem, *] at q7c3_3
                    have q7c3_4 := hb.cell (p := ⟨wr.heap.size, 4, none⟩) (by first | omega | (simp <;> omega))
                    simp [go_sem, *] at q7c3_4
                    have q7c3_5 := hb.cell (p := ⟨wr.heap.size, 5, none⟩) (by first | omega | (simp <;> omega))
                    simp [go_sem, *] at q7c3_5
                    have q7c3_6 := hb.cell (p := ⟨wr.heap.size, 6, none⟩) (by first | omega | (simp <;> omega))
                    simp [go_sem, *] at q7c3_6
                    have q7c3_7 := hb.cell (p := ⟨wr.heap.size, 7, none⟩) (by first | omega | (simp <;> omega))
                    simp [go_sem, *] at q7c3_7
                    have q7c3_8 := hb.cell (p := ⟨wr.heap.size, 8, none⟩) (by first | omega | (simp <;> omega))
                    simp [go_sem, *] at q7c3_8
                    have q7c3_9 := hb.cell (p := ⟨wr.heap.size, 9, none⟩) (by first | omega | (simp <;> omega))
                    simp [go_sem, *] at q7c3_9
                    have q7f3 := fun o => hb.frozen (p := ⟨wr.heap.size, o, none⟩) (by first | omega | (simp <;> omega))
                    simp [go_sem, *] at q7f3
                    have q7o : ∀ b o, b < wr.heap.size → w6.cell? ⟨b, o, none⟩ = wr.cell? ⟨b, o, none⟩ := fun b o h => q7B.cell (p := ⟨b, o, none⟩) h
                    clear hb q6o q6f1 q6c1_6 q6c1_5 q6c1_4 q6c1_3 q6c1_2 q6c1_1 q6c1_0 q6s1 q6f0 q6c0_19 q6s0 q6z q6B
                    cases g3 : mvb (E k).legs id (E k).ln with
                    | false =>
                      have HL := hide (lnL_un (f := f) (t := t) (show tchE (E k) id = false from g3))
                      clear g3
                      go_wp2_with fail
                      go_roundw
                      case rel => exact ⟨k + 1, A9, c9, HK.out, by go_num, H0.out.trans (q7B.mono (by omega)), by omega, fun o => q7f2 o, q7c2_0, q7c2_1, q7c2_2, q7c2_3, q7c2_4, q7c2_5, by rw [HL.out]; exact q7c2_6, by rw [HL.out]; exact owns_below HOW.out q7B⟩
                      case measure => have := HK.out; simp [intOf]; omega
                    | true =>
                      have HL := hide (lnL_yes g1' g2' (show tchE (E k) id = true from g3))
                      clear g3
                      have HN := hide (show (lnL E id f t k).length ≤ 1000000 from by have := lnL_len E id f t k; have := HK.out; omega)
                      obtain ⟨gb, hgb, hgl, hgs⟩ := own_gb HOW.out (w1.heap.size + 1) hg (by omega)
                      have HGB := hide hgb
                      clear hgb
                      have n1 : ¬ w.heap.size = gb := by omega
                      have n2 : ¬ wr.heap.size = gb := by omega
                      have n3 : ¬ w.heap.size = w1.heap.size + 1 := by omega
                      have n4 : ¬ wr.heap.size = w1.heap.size + 1 := by omega
                      have n5 : (k : Int) + 1 ≤ jc := by have := HK.out; omega
                      have n6 : ¬ jc = k := by have := HK.out; omega
                      have n8 : (0 : Int) ≤ (k : Int) + 1 := by omega
                      have n7 : IntKind.i64.wrap ((k : Int) + 1) = (k : Int) + 1 := by rw [i64w]; unfold wrap64; omega
                      have hj6 := hide (((HJ.out.below H1.out).below (H6.out.trans (q7B.mono (by omega)))).one HK.out)
                      have BX := hide (BoxN.mk (by omega) (fun o => q7f2 o) q7c2_0 q7c2_1 q7c2_2 q7c2_3 q7c2_4 q7c2_5)
                      clear q1n0_0 q1n0_1 q1n0_2 q1n1_0 q1n1_1 q1n1_2 q2n0_0 q2n0_1 q2n0_2 q2n1_0 q2n1_1 q2n1_2 q2n2_0 q2n2_1 q2n2_2 q3n0_0 q3n0_1 q3n0_2 q3n1_0 q3n1_1 q3n1_2 q3n2_0 q3n2_1 q3n2_2 q4n0_0 q4n0_1 q4n0_2 q4n1_0 q4n1_1 q4n1_2 q4n2_0 q4n2_1 q4n2_2 q5n0_0 q5n0_1 q5n0_2 q5n1_0 q5n1_1 q5n1_2 q5n2_0 q5n2_1 q5n2_2 q6n0_0 q6n0_1 q6n0_2 q6n1_0 q6n1_1 q6n1_2
                      clear q7c1_0 q7c1_1 q7c1_2 q7c1_3 q7c1_4 q7c1_5 q7c1_6 q7f1 q7c2_0 q7c2_1 q7c2_2 q7c2_3 q7c2_4 q7c2_5 q7c3_2 q7c3_3 q7c3_4 q7c3_5 q7c3_6 q7c3_8 q7c3_9 q7f3 q7f0 q7o b0 b1 b2 b3 b4 b5 b6 bf c0 c1 c2 c3 c4 c5 c6 c7 c8 d9
                      go_wp2_with fail
                      have H7 := hide q7B
                      have hz6 := q7B.size
                      refine ord_start (SB (w6.heap.size) [w1.heap.size + 1, gb] _) 21 #[false, false, false, false, false, false, false, false, false, false, false, false, false, false, false, false, false, false, false, false, false] (by kernel_rfl) (by kernel_rfl) (by kernel_rfl) SB.refl.drew (fun hHeld => ?_)
                      refine ord_take (i := 0) #[true, false, false, false, false, false, false, false, false, false, false, false, false, false, false, false, false, false, false, false, false] ?_ rfl (by kernel_rfl) (by kernel_rfl) (by kernel_rfl) (by kernel_rfl) (fun _ _ _ h => h) hHeld (by rfl) (fun wx hSx => ?_) ?_
                      rotate_left
                      · (unfold SB at hSx; go_simp; (try with_reducible rfl))
                      (try simp only [Act.put, List.setIfInBounds_toArray, List.set_cons_zero, List.set_cons_succ])
                      refine ord_take (i := 2) #[true, false, true, false, false, false, false, false, false, false, false, false, false, false, false, false, false, false, false, false, false] ?_ rfl (by kernel_rfl) (by kernel_rfl) (by kernel_rfl) (by kernel_rfl) (fun _ _ _ h => h) hHeld (by rfl) (fun wx hSx => ?_) ?_
                      rotate_left
                      · (unfold SB at hSx; go_simp; (try with_reducible rfl))
                      (try simp only [Act.put, List.setIfInBounds_toArray, List.set_cons_zero, List.set_cons_succ])
                      refine ord_take (i := 3) #[true, false, true, true, false, false, false, false, false, false, false, false, false, false, false, false, false, false, false, false, false] ?_ rfl (by kernel_rfl) (by kernel_rfl) (by kernel_rfl) (by kernel_rfl) (fun _ _ _ h => h) hHeld (by rfl) (fun wx hSx => ?_) ?_
                      rotate_left
                      · (unfold SB at hSx; go_simp; (try with_reducible rfl))
                      (try simp only [Act.put, List.setIfInBounds_toArray, List.set_cons_zero, List.set_cons_succ])
                      refine ord_take (i := 4) #[true, false, true, true, true, false, false, false, false, false, false, false, false, false, false, false, false, false, false, false, false] ?_ rfl (by kernel_rfl) (by kernel_rfl) (by kernel_rfl) (by kernel_rfl) (fun _ _ _ h => h) hHeld (by rfl) (fun wx hSx => ?_) ?_
                      rotate_left
                      · (unfold SB at hSx; go_simp; (try with_reducible rfl))
                      (try simp only [Act.put, List.setIfInBounds_toArray, List.set_cons_zero, List.set_cons_succ])
                      refine ord_take (i := 5) #[true, false, true, true, true, true, false, false, false, false, false, false, false, false, false, false, false, false, false, false, false] ?_ rfl (by kernel_rfl) (by kernel_rfl) (by kernel_rfl) (by kernel_rfl) (fun _ _ _ h => h) hHeld (by rfl) (fun wx hSx => ?_) ?_
                      rotate_left
                      · (unfold SB at hSx; go_simp; (try with_reducible rfl))
                      (try simp only [Act.put, List.setIfInBounds_toArray, List.set_cons_zero, List.set_cons_succ])
                      refine ord_take (i := 6) #[true, false, true, true, true, true, true, false, false, false, false, false, false, false, false, false, false, false, false, false, false] ?_ rfl (by kernel_rfl) (by kernel_rfl) (by kernel_rfl) (by kernel_rfl) (fun _ _ _ h => h) hHeld (by rfl) (fun wx hSx => ?_) ?_
                      rotate_left
                      · (unfold SB at hSx; go_simp; (try with_reducible rfl))
                      (try simp only [Act.put, List.setIfInBounds_toArray, List.set_cons_zero, List.set_cons_succ])
                      refine ord_take (i := 7) #[true, false, true, true, true, true, true, true, false, false, false, false, false, false, false, false, false, false, false, false, false] ?_ rfl (by kernel_rfl) (by kernel_rfl) (by kernel_rfl) (by kernel_rfl) (fun _ _ _ h => h) hHeld (by rfl) (fun wx hSx => ?_) ?_
                      rotate_left
                      · (unfold SB at hSx; go_simp; (try with_reducible rfl))
                      (try simp only [Act.put, List.setIfInBounds_toArray, List.set_cons_zero, List.set_cons_succ])
                      refine ord_take (i := 8) #[true, false, true, true, true, true, true, true, true, false, false, false, false, false, false, false, false, false, false, false, false] ?_ rfl (by kernel_rfl) (by kernel_rfl) (by kernel_rfl) (by kernel_rfl) (fun _ _ _ h => h) hHeld (by rfl) (fun wx hSx => ?_) ?_
                      rotate_left
                      · (unfold SB at hSx; go_simp; (try with_reducible rfl))
                      (try simp only [Act.put, List.setIfInBounds_toArray, List.set_cons_zero, List.set_cons_succ])
                      refine ord_take (i := 9) #[true, false, true, true, true, true, true, true, true, true, false, false, false, false, false, false, false, false, false, false, false] ?_ rfl (by kernel_rfl) (by kernel_rfl) (by kernel_rfl) (by kernel_rfl) (fun _ _ _ h => h) hHeld (by rfl) (fun wx hSx => ?_) ?_
                      rotate_left
                      · (unfold SB at hSx; go_simp; (try with_reducible rfl))
                      (try simp only [Act.put, List.setIfInBounds_toArray, List.set_cons_zero, List.set_cons_succ])
                      refine ord_take (i := 10) #[true, false, true, true, true, true, true, true, true, true, true, false, false, false, false, false, false, false, false, false, false] ?_ rfl (by kernel_rfl) (by kernel_rfl) (by kernel_rfl) (by kernel_rfl) (fun _ _ _ h => h) hHeld (by rfl) (fun wx hSx => ?_) ?_
                      rotate_left
                      · (unfold SB at hSx; go_simp; (try with_reducible rfl))
                      (try simp only [Act.put, List.setIfInBounds_toArray, List.set_cons_zero, List.set_cons_succ])
                      refine ord_take (i := 11) #[true, false, true, true, true, true, true, true, true, true, true, true, false, false, false, false, false, false, false, false, false] ?_ rfl (by kernel_rfl) (by kernel_rfl) (by kernel_rfl) (by kernel_rfl) (fun _ _ _ h => h) hHeld (by rfl) (fun wx hSx => ?_) ?_
                      rotate_left
                      · (unfold SB at hSx; go_simp; (try with_reducible rfl))
                      (try simp only [Act.put, List.setIfInBounds_toArray, List.set_cons_zero, List.set_cons_succ])
                      refine ord_take (i := 12) #[true, false, true, true, true, true, true, true, true, true, true, true, true, false, false, false, false, false, false, false, false] ?_ rfl (by kernel_rfl) (by kernel_rfl) (by kernel_rfl) (by kernel_rfl) (fun _ _ _ h => h) hHeld (by rfl) (fun wx hSx => ?_) ?_
                      rotate_left
                      · (unfold SB at hSx; go_simp; (try with_reducible rfl))
                      (try simp only [Act.put, List.setIfInBounds_toArray, List.set_cons_zero, List.set_cons_succ])
                      refine ord_take (i := 14) #[true, false, true, true, true, true, true, true, true, true, true, true, true, false, true, false, false, false, false, false, false] ?_ rfl (by kernel_rfl) (by kernel_rfl) (by kernel_rfl) (by kernel_rfl) (fun _ _ _ h => h) hHeld (by rfl) (fun wx hSx => ?_) ?_
                      rotate_left
                      · (unfold SB at hSx; go_simp; (try with_reducible rfl))
                      (try simp only [Act.put, List.setIfInBounds_toArray, List.set_cons_zero, List.set_cons_succ])
                      refine ord_take (i := 15) #[true, false, true, true, true, true, true, true, true, true, true, true, true, false, true, true, false, false, false, false, false] ?_ rfl (by kernel_rfl) (by kernel_rfl) (by kernel_rfl) (by kernel_rfl) (fun _ _ _ h => h) hHeld (by rfl) (fun wx hSx => ?_) ?_
                      rotate_left
                      · (unfold SB at hSx; go_simp; (try with_reducible rfl))
                      (try simp only [Act.put, List.setIfInBounds_toArray, List.set_cons_zero, List.set_cons_succ])
                      refine wpAnyH_ready (rs := [1, 13]) (by kernel_rfl) (by simp) ?_
                      refine ord_run (i := 1) #[true, true, true, true, true, true, true, true, true, true, true, true, true, false, true, true, false, false, false, false, false] rfl (by kernel_rfl) (by rfl) (fun K hK => ?_) ?_
                      · go_simp
                        refine hK.out _ _ ?_ (fun hHeld => ?_)
                        · (repeat (first | (with_reducible exact SB.refl) | (with_reducible exact hHeld) | (with_reducible refine SB.drew ?_) | (with_reducible refine SB.drewN ?_ _) | ((with_reducible refine SB.alloc ?_ ?_ _); (rotate_left); (first | omega | (simp <;> omega))) | ((with_reducible refine SB.setCell ?_ ?_ _); (rotate_left); (focus (first | (simp; done) | (right; first | omega | (simp <;> omega))))) | ((with_reducible refine SB.below ?_ hbS ?_); (rotate_left); (first | omega | (simp <;> omega))) | ((with_reducible refine SB.below ?_ hbS1 ?_); (rotate_left); (first | omega | (simp <;> omega))) | ((with_reducible refine SB.below ?_ hbS2 ?_); (rotate_left); (first | omega | (simp <;> omega))) | ((with_reducible refine SB.below ?_ hbS3 ?_); (rotate_left); (first | omega | (simp <;> omega))) | ((with_reducible refine SB.below ?_ hbS4 ?_); (rotate_left); (first | omega | (simp <;> omega))) | (with_reducible refine SB.undrew ?_) | ((with_reducible refine SB.congr ?_ ?_); (rotate_left); (focus (simp; done))) | ((with_reducible refine SB.realloc ?_ ?_ ?_); (rotate_left); (focus (simp; done)); (focus (simp; done)))))
                        clear hK K
                        (try simp only [Act.put, List.setIfInBounds_toArray, List.set_cons_zero, List.set_cons_succ])
                        refine wpAnyH_ready (rs := [13]) (by kernel_rfl) (by simp) ?_
                        refine ord_run (i := 13) #[true, true, true, true, true, true, true, true, true, true, true, true, true, true, true, true, false, false, false, false, false] rfl (by kernel_rfl) (by rfl) (fun K hK => ?_) AllReadyH.nil
                        go_simp
                        go_wp2_with (go_at_call 27; refine (rof_any (some ⟨b, off + k * 10, none⟩) 1 _ (fun _ => E k) id (by omega) _ (hj6.out.below (by (repeat (first | (with_reducible exact Below.refl _ _) | (with_reducible assumption) | ((with_reducible refine Below.alloc ?_ ?_ _); (rotate_left); (first | omega | (simp <;> omega))) | ((with_reducible refine Below.setCell ?_ ?_ _); (rotate_left); (first | omega | (simp <;> omega))) | (with_reducible refine Below.drew ?_) | (with_reducible refine below_drewN ?_ _)))))).mono ?_; rintro e w7 ⟨rfl, hb⟩; rw [sum_one]; have hB7 : Below w6.heap.size w6 w7 := (by refine Below.trans ?_ (hb.mono (by first | omega | (simp <;> omega))); (repeat (first | (with_reducible exact Below.refl _ _) | (with_reducible assumption) | ((with_reducible refine Below.alloc ?_ ?_ _); (rotate_left); (first | omega | (simp <;> omega))) | ((with_reducible refine Below.setCell ?_ ?_ _); (rotate_left); (first | omega | (simp <;> omega))) | (with_reducible refine Below.drew ?_) | (with_reducible refine below_drewN ?_ _)))); have hbS := hb; have z7 := hb.size; (try simp at z7); have HB7 := hide hB7; have d6 := (hB7.cell (p := ⟨w1.heap.size + 1, 6, none⟩) (by show w1.heap.size + 1 < w6.heap.size; omega)).trans q7c2_6; have n9 : ¬ w1.heap.size + 1 = w7.heap.size := (by omega); have n10 : ¬ w7.heap.size = w1.heap.size + 1 := (by omega); have n11 : w1.heap.size + 1 < w7.heap.size := (by omega); clear hb hB7)
                        refine hK.out _ _ ?_ (fun hHeld => ?_)
                        · (repeat (first | (with_reducible exact SB.refl) | (with_reducible exact hHeld) | (with_reducible refine SB.drew ?_) | (with_reducible refine SB.drewN ?_ _) | ((with_reducible refine SB.alloc ?_ ?_ _); (rotate_left); (first | omega | (simp <;> omega))) | ((with_reducible refine SB.setCell ?_ ?_ _); (rotate_left); (focus (first | (simp; done) | (right; first | omega | (simp <;> omega))))) | ((with_reducible refine SB.below ?_ hbS ?_); (rotate_left); (first | omega | (simp <;> omega))) | ((with_reducible refine SB.below ?_ hbS1 ?_); (rotate_left); (first | omega | (simp <;> omega))) | ((with_reducible refine SB.below ?_ hbS2 ?_); (rotate_left); (first | omega | (simp <;> omega))) | ((with_reducible refine SB.below ?_ hbS3 ?_); (rotate_left); (first | omega | (simp <;> omega))) | ((with_reducible refine SB.below ?_ hbS4 ?_); (rotate_left); (first | omega | (simp <;> omega))) | (with_reducible refine SB.undrew ?_) | ((with_reducible refine SB.congr ?_ ?_); (rotate_left); (focus (simp; done))) | ((with_reducible refine SB.realloc ?_ ?_ ?_); (rotate_left); (focus (simp; done)); (focus (simp; done)))))
                        clear hK K
                        (try simp only [Act.put, List.setIfInBounds_toArray, List.set_cons_zero, List.set_cons_succ])
                        refine ord_take (i := 16) #[true, true, true, true, true, true, true, true, true, true, true, true, true, true, true, true, true, false, false, false, false] ?_ rfl (by kernel_rfl) (by kernel_rfl) (by kernel_rfl) (by kernel_rfl) (fun _ _ _ h => h) hHeld (by rfl) (fun wx hSx => ?_) ?_
                        rotate_left
                        · (unfold SB at hSx; go_simp; (try with_reducible rfl))
                        (try simp only [Act.put, List.setIfInBounds_toArray, List.set_cons_zero, List.set_cons_succ])
                        refine wpAnyH_ready (rs := [17]) (by kernel_rfl) (by simp) ?_
                        refine ord_run (i := 17) #[true, true, true, true, true, true, true, true, true, true, true, true, true, true, true, true, true, true, false, false, false] rfl (by kernel_rfl) (by rfl) (fun K hK => ?_) AllReadyH.nil
                        go_simp
                        refine hK.out _ _ ?_ (fun hHeld => ?_)
                        · (repeat (first | (with_reducible exact SB.refl) | (with_reducible exact hHeld) | (with_reducible refine SB.drew ?_) | (with_reducible refine SB.drewN ?_ _) | ((with_reducible refine SB.alloc ?_ ?_ _); (rotate_left); (first | omega | (simp <;> omega))) | ((with_reducible refine SB.setCell ?_ ?_ _); (rotate_left); (focus (first | (simp; done) | (right; first | omega | (simp <;> omega))))) | ((with_reducible refine SB.below ?_ hbS ?_); (rotate_left); (first | omega | (simp <;> omega))) | ((with_reducible refine SB.below ?_ hbS1 ?_); (rotate_left); (first | omega | (simp <;> omega))) | ((with_reducible refine SB.below ?_ hbS2 ?_); (rotate_left); (first | omega | (simp <;> omega))) | ((with_reducible refine SB.below ?_ hbS3 ?_); (rotate_left); (first | omega | (simp <;> omega))) | ((with_reducible refine SB.below ?_ hbS4 ?_); (rotate_left); (first | omega | (simp <;> omega))) | (with_reducible refine SB.undrew ?_) | ((with_reducible refine SB.congr ?_ ?_); (rotate_left); (focus (simp; done))) | ((with_reducible refine SB.realloc ?_ ?_ ?_); (rotate_left); (focus (simp; done)); (focus (simp; done)))))
                        clear hK K
                        (try simp only [Act.put, List.setIfInBounds_toArray, List.set_cons_zero, List.set_cons_succ])
                        refine wpAnyH_ready (rs := [18]) (by kernel_rfl) (by simp) ?_
                        refine ord_run (i := 18) #[true, true, true, true, true, true, true, true, true, true, true, true, true, true, true, true, true, true, true, false, false] rfl (by kernel_rfl) (by rfl) (fun K hK => ?_) AllReadyH.nil
                        (refine wp_append_own2 (.tmp 92) (.tmp 108) 38 rfl (w1.heap.size + 1 + 1) 66 i0 (.agg #[.int .i64 0, .int .i64 0, .int .i64 0, .string ⟨#[]⟩]) 4 40 Tryd.underlying38 I0.out I1.out I2.out I3.out rfl (by decide) _ _ _ rfl ((owns_below (owns_below HOW.out H7.out) HB7.out).alloc _) ⟨w7.heap.size, 0, none⟩ 1 1 (posL ⟨(E k).id, (E k).bk, mvE (E k) id, (E k).tx⟩) rfl rfl (news_new (cs := ⟨posL ⟨(E k).id, (E k).bk, mvE (E k) id, (E k).tx⟩⟩) (by simp) ) (ones_all rfl) (by have := HN.out; simp only [maxLen]; omega) (by have := HN.out; omega) (by simp; omega) ?_; intro A1 c1 w8 ho hg3; have hHeld := hHeld.grown hg3 (by simp; omega) (fun kk hk => by simp [HGB.out kk hk]); have hb := below_grown (B := w1.heap.size + 1 + 1) hg3 (by simp; omega) (own_ge HOW.out); have BX8 := hide ((((BX.out.below HB7.out (by omega)).below ((Below.refl w7.heap.size w7).alloc (Nat.le_refl _) _) (by omega)).below hb (by omega))); have df := BX8.out.fr 6; have d8 := (hb.cell (p := ⟨w1.heap.size + 1, 6, none⟩) (by show w1.heap.size + 1 < w1.heap.size + 1 + 1; omega)).trans ((((Below.refl w7.heap.size w7).alloc (Nat.le_refl _) _).cell (p := ⟨w1.heap.size + 1, 6, none⟩) (by show w1.heap.size + 1 < w7.heap.size; omega)).trans d6); have hz4 := hb.size; (try simp at hz4); have HBg := hide (below_grown (B := w1.heap.size) hg3 (by simp; omega) (fun k hk => by have := own_ge HOW.out k hk; omega)); clear hb)
                        refine hK.out _ _ ?_ (fun hHeld => ?_)
                        · (repeat (first | (with_reducible exact SB.refl) | (with_reducible exact hHeld) | (with_reducible refine SB.drew ?_) | (with_reducible refine SB.drewN ?_ _) | ((with_reducible refine SB.alloc ?_ ?_ _); (rotate_left); (first | omega | (simp <;> omega))) | ((with_reducible refine SB.setCell ?_ ?_ _); (rotate_left); (focus (first | (simp; done) | (right; first | omega | (simp <;> omega))))) | ((with_reducible refine SB.below ?_ hbS ?_); (rotate_left); (first | omega | (simp <;> omega))) | ((with_reducible refine SB.below ?_ hbS1 ?_); (rotate_left); (first | omega | (simp <;> omega))) | ((with_reducible refine SB.below ?_ hbS2 ?_); (rotate_left); (first | omega | (simp <;> omega))) | ((with_reducible refine SB.below ?_ hbS3 ?_); (rotate_left); (first | omega | (simp <;> omega))) | ((with_reducible refine SB.below ?_ hbS4 ?_); (rotate_left); (first | omega | (simp <;> omega))) | (with_reducible refine SB.undrew ?_) | ((with_reducible refine SB.congr ?_ ?_); (rotate_left); (focus (simp; done))) | ((with_reducible refine SB.realloc ?_ ?_ ?_); (rotate_left); (focus (simp; done)); (focus (simp; done)))))
                        clear hK K
                        (try simp only [Act.put, List.setIfInBounds_toArray, List.set_cons_zero, List.set_cons_succ])
                        refine ord_take (i := 19) #[true, true, true, true, true, true, true, true, true, true, true, true, true, true, true, true, true, true, true, true, false] ?_ rfl (by kernel_rfl) (by kernel_rfl) (by kernel_rfl) (by kernel_rfl) (fun _ _ _ h => h) hHeld (by rfl) (fun wx hSx => ?_) ?_
                        rotate_left
                        · (unfold SB at hSx; go_simp; (try with_reducible rfl))
                        (try simp only [Act.put, List.setIfInBounds_toArray, List.set_cons_zero, List.set_cons_succ])
                        refine wpAnyH_ready (rs := [20]) (by kernel_rfl) (by simp) ?_
                        refine ord_run (i := 20) #[true, true, true, true, true, true, true, true, true, true, true, true, true, true, true, true, true, true, true, true, true] rfl (by kernel_rfl) (by rfl) (fun K hK => ?_) AllReadyH.nil
                        go_simp
                        refine hK.out _ _ ?_ (fun hHeld => ?_)
                        · (repeat (first | (with_reducible exact SB.refl) | (with_reducible exact hHeld) | (with_reducible refine SB.drew ?_) | (with_reducible refine SB.drewN ?_ _) | ((with_reducible refine SB.alloc ?_ ?_ _); (rotate_left); (first | omega | (simp <;> omega))) | ((with_reducible refine SB.setCell ?_ ?_ _); (rotate_left); (focus (first | (simp; done) | (right; first | omega | (simp <;> omega))))) | ((with_reducible refine SB.below ?_ hbS ?_); (rotate_left); (first | omega | (simp <;> omega))) | ((with_reducible refine SB.below ?_ hbS1 ?_); (rotate_left); (first | omega | (simp <;> omega))) | ((with_reducible refine SB.below ?_ hbS2 ?_); (rotate_left); (first | omega | (simp <;> omega))) | ((with_reducible refine SB.below ?_ hbS3 ?_); (rotate_left); (first | omega | (simp <;> omega))) | ((with_reducible refine SB.below ?_ hbS4 ?_); (rotate_left); (first | omega | (simp <;> omega))) | (with_reducible refine SB.undrew ?_) | ((with_reducible refine SB.congr ?_ ?_); (rotate_left); (focus (simp; done))) | ((with_reducible refine SB.realloc ?_ ?_ ?_); (rotate_left); (focus (simp; done)); (focus (simp; done)))))
                        clear hK K
                        (try simp only [Act.put, List.setIfInBounds_toArray, List.set_cons_zero, List.set_cons_succ])
                        refine wpAnyH_done (by kernel_rfl) ?_ _
                        go_wp2_with fail; go_roundw; (case rel => exact ⟨k + 1, A1, c1, HK.out, by go_num, H0.out.trans ((H7.out.mono (by omega)).trans ((HB7.out.mono (by omega)).trans (by refine Below.setCell ?_ (by simp) _; refine Below.trans ?_ HBg.out; (repeat (first | (with_reducible exact Below.refl _ _) | (with_reducible assumption) | ((with_reducible refine Below.alloc ?_ ?_ _); (rotate_left); (first | omega | (simp <;> omega))) | ((with_reducible refine Below.setCell ?_ ?_ _); (rotate_left); (first | omega | (simp <;> omega))) | (with_reducible refine Below.drew ?_) | (with_reducible refine below_drewN ?_ _)))))), (BX8.out.set _).lt, (BX8.out.set _).fr, (BX8.out.set _).c0, (BX8.out.set _).c1, (BX8.out.set _).c2, (BX8.out.set _).c3, (BX8.out.set _).c4, (BX8.out.set _).c5, by rw [HL.out]; simp [go_sem, *], owns_else (pos_own HL.out rfl ho) (by simp) _⟩); (case measure => have := HK.out; simp [intOf]; omega)
                      refine ord_run (i := 13) #[true, false, true, true, true, true, true, true, true, true, true, true, true, true, true, true, false, false, false, false, false] rfl (by kernel_rfl) (by rfl) (fun K hK => ?_) ?_
                      · go_simp
                        go_wp2_with (go_at_call 27; refine (rof_any (some ⟨b, off + k * 10, none⟩) 1 _ (fun _ => E k) id (by omega) _ (hj6.out.below (by (repeat (first | (with_reducible exact Below.refl _ _) | (with_reducible assumption) | ((with_reducible refine Below.alloc ?_ ?_ _); (rotate_left); (first | omega | (simp <;> omega))) | ((with_reducible refine Below.setCell ?_ ?_ _); (rotate_left); (first | omega | (simp <;> omega))) | (with_reducible refine Below.drew ?_) | (with_reducible refine below_drewN ?_ _)))))).mono ?_; rintro e w7 ⟨rfl, hb⟩; rw [sum_one]; have hB7 : Below w6.heap.size w6 w7 := (by refine Below.trans ?_ (hb.mono (by first | omega | (simp <;> omega))); (repeat (first | (with_reducible exact Below.refl _ _) | (with_reducible assumption) | ((with_reducible refine Below.alloc ?_ ?_ _); (rotate_left); (first | omega | (simp <;> omega))) | ((with_reducible refine Below.setCell ?_ ?_ _); (rotate_left); (first | omega | (simp <;> omega))) | (with_reducible refine Below.drew ?_) | (with_reducible refine below_drewN ?_ _)))); have hbS := hb; have z7 := hb.size; (try simp at z7); have HB7 := hide hB7; have d6 := (hB7.cell (p := ⟨w1.heap.size + 1, 6, none⟩) (by show w1.heap.size + 1 < w6.heap.size; omega)).trans q7c2_6; have n9 : ¬ w1.heap.size + 1 = w7.heap.size := (by omega); have n10 : ¬ w7.heap.size = w1.heap.size + 1 := (by omega); have n11 : w1.heap.size + 1 < w7.heap.size := (by omega); clear hb hB7)
                        refine hK.out _ _ ?_ (fun hHeld => ?_)
                        · (repeat (first | (with_reducible exact SB.refl) | (with_reducible exact hHeld) | (with_reducible refine SB.drew ?_) | (with_reducible refine SB.drewN ?_ _) | ((with_reducible refine SB.alloc ?_ ?_ _); (rotate_left); (first | omega | (simp <;> omega))) | ((with_reducible refine SB.setCell ?_ ?_ _); (rotate_left); (focus (first | (simp; done) | (right; first | omega | (simp <;> omega))))) | ((with_reducible refine SB.below ?_ hbS ?_); (rotate_left); (first | omega | (simp <;> omega))) | ((with_reducible refine SB.below ?_ hbS1 ?_); (rotate_left); (first | omega | (simp <;> omega))) | ((with_reducible refine SB.below ?_ hbS2 ?_); (rotate_left); (first | omega | (simp <;> omega))) | ((with_reducible refine SB.below ?_ hbS3 ?_); (rotate_left); (first | omega | (simp <;> omega))) | ((with_reducible refine SB.below ?_ hbS4 ?_); (rotate_left); (first | omega | (simp <;> omega))) | (with_reducible refine SB.undrew ?_) | ((with_reducible refine SB.congr ?_ ?_); (rotate_left); (focus (simp; done))) | ((with_reducible refine SB.realloc ?_ ?_ ?_); (rotate_left); (focus (simp; done)); (focus (simp; done)))))
                        clear hK K
                        (try simp only [Act.put, List.setIfInBounds_toArray, List.set_cons_zero, List.set_cons_succ])
                        refine ord_take (i := 16) #[true, false, true, true, true, true, true, true, true, true, true, true, true, true, true, true, true, false, false, false, false] ?_ rfl (by kernel_rfl) (by kernel_rfl) (by kernel_rfl) (by kernel_rfl) (fun _ _ _ h => h) hHeld (by rfl) (fun wx hSx => ?_) ?_
                        rotate_left
                        · (unfold SB at hSx; go_simp; (try with_reducible rfl))
                        (try simp only [Act.put, List.setIfInBounds_toArray, List.set_cons_zero, List.set_cons_succ])
                        refine wpAnyH_ready (rs := [1, 17]) (by kernel_rfl) (by simp) ?_
                        refine ord_run (i := 1) #[true, true, true, true, true, true, true, true, true, true, true, true, true, true, true, true, true, false, false, false, false] rfl (by kernel_rfl) (by rfl) (fun K hK => ?_) ?_
                        · go_simp
                          refine hK.out _ _ ?_ (fun hHeld => ?_)
                          · (repeat (first | (with_reducible exact SB.refl) | (with_reducible exact hHeld) | (with_reducible refine SB.drew ?_) | (with_reducible refine SB.drewN ?_ _) | ((with_reducible refine SB.alloc ?_ ?_ _); (rotate_left); (first | omega | (simp <;> omega))) | ((with_reducible refine SB.setCell ?_ ?_ _); (rotate_left); (focus (first | (simp; done) | (right; first | omega | (simp <;> omega))))) | ((with_reducible refine SB.below ?_ hbS ?_); (rotate_left); (first | omega | (simp <;> omega))) | ((with_reducible refine SB.below ?_ hbS1 ?_); (rotate_left); (first | omega | (simp <;> omega))) | ((with_reducible refine SB.below ?_ hbS2 ?_); (rotate_left); (first | omega | (simp <;> omega))) | ((with_reducible refine SB.below ?_ hbS3 ?_); (rotate_left); (first | omega | (simp <;> omega))) | ((with_reducible refine SB.below ?_ hbS4 ?_); (rotate_left); (first | omega | (simp <;> omega))) | (with_reducible refine SB.undrew ?_) | ((with_reducible refine SB.congr ?_ ?_); (rotate_left); (focus (simp; done))) | ((with_reducible refine SB.realloc ?_ ?_ ?_); (rotate_left); (focus (simp; done)); (focus (simp; done)))))
                          clear hK K
                          (try simp only [Act.put, List.setIfInBounds_toArray, List.set_cons_zero, List.set_cons_succ])
                          refine wpAnyH_ready (rs := [17]) (by kernel_rfl) (by simp) ?_
                          refine ord_run (i := 17) #[true, true, true, true, true, true, true, true, true, true, true, true, true, true, true, true, true, true, false, false, false] rfl (by kernel_rfl) (by rfl) (fun K hK => ?_) AllReadyH.nil
                          go_simp
                          refine hK.out _ _ ?_ (fun hHeld => ?_)
                          · (repeat (first | (with_reducible exact SB.refl) | (with_reducible exact hHeld) | (with_reducible refine SB.drew ?_) | (with_reducible refine SB.drewN ?_ _) | ((with_reducible refine SB.alloc ?_ ?_ _); (rotate_left); (first | omega | (simp <;> omega))) | ((with_reducible refine SB.setCell ?_ ?_ _); (rotate_left); (focus (first | (simp; done) | (right; first | omega | (simp <;> omega))))) | ((with_reducible refine SB.below ?_ hbS ?_); (rotate_left); (first | omega | (simp <;> omega))) | ((with_reducible refine SB.below ?_ hbS1 ?_); (rotate_left); (first | omega | (simp <;> omega))) | ((with_reducible refine SB.below ?_ hbS2 ?_); (rotate_left); (first | omega | (simp <;> omega))) | ((with_reducible refine SB.below ?_ hbS3 ?_); (rotate_left); (first | omega | (simp <;> omega))) | ((with_reducible refine SB.below ?_ hbS4 ?_); (rotate_left); (first | omega | (simp <;> omega))) | (with_reducible refine SB.undrew ?_) | ((with_reducible refine SB.congr ?_ ?_); (rotate_left); (focus (simp; done))) | ((with_reducible refine SB.realloc ?_ ?_ ?_); (rotate_left); (focus (simp; done)); (focus (simp; done)))))
                          clear hK K
                          (try simp only [Act.put, List.setIfInBounds_toArray, List.set_cons_zero, List.set_cons_succ])
                          refine wpAnyH_ready (rs := [18]) (by kernel_rfl) (by simp) ?_
                          refine ord_run (i := 18) #[true, true, true, true, true, true, true, true, true, true, true, true, true, true, true, true, true, true, true, false, false] rfl (by kernel_rfl) (by rfl) (fun K hK => ?_) AllReadyH.nil
                          (refine wp_append_own2 (.tmp 92) (.tmp 108) 38 rfl (w1.heap.size + 1 + 1) 66 i0 (.agg #[.int .i64 0, .int .i64 0, .int .i64 0, .string ⟨#[]⟩]) 4 40 Tryd.underlying38 I0.out I1.out I2.out I3.out rfl (by decide) _ _ _ rfl ((owns_below (owns_below HOW.out H7.out) HB7.out).alloc _) ⟨w7.heap.size, 0, none⟩ 1 1 (posL ⟨(E k).id, (E k).bk, mvE (E k) id, (E k).tx⟩) rfl rfl (news_new (cs := ⟨posL ⟨(E k).id, (E k).bk, mvE (E k) id, (E k).tx⟩⟩) (by simp) ) (ones_all rfl) (by have := HN.out; simp only [maxLen]; omega) (by have := HN.out; omega) (by simp; omega) ?_; intro A1 c1 w8 ho hg3; have hHeld := hHeld.grown hg3 (by simp; omega) (fun kk hk => by simp [HGB.out kk hk]); have hb := below_grown (B := w1.heap.size + 1 + 1) hg3 (by simp; omega) (own_ge HOW.out); have BX8 := hide ((((BX.out.below HB7.out (by omega)).below ((Below.refl w7.heap.size w7).alloc (Nat.le_refl _) _) (by omega)).below hb (by omega))); have df := BX8.out.fr 6; have d8 := (hb.cell (p := ⟨w1.heap.size + 1, 6, none⟩) (by show w1.heap.size + 1 < w1.heap.size + 1 + 1; omega)).trans ((((Below.refl w7.heap.size w7).alloc (Nat.le_refl _) _).cell (p := ⟨w1.heap.size + 1, 6, none⟩) (by show w1.heap.size + 1 < w7.heap.size; omega)).trans d6); have hz4 := hb.size; (try simp at hz4); have HBg := hide (below_grown (B := w1.heap.size) hg3 (by simp; omega) (fun k hk => by have := own_ge HOW.out k hk; omega)); clear hb)
                          refine hK.out _ _ ?_ (fun hHeld => ?_)
                          · (repeat (first | (with_reducible exact SB.refl) | (with_reducible exact hHeld) | (with_reducible refine SB.drew ?_) | (with_reducible refine SB.drewN ?_ _) | ((with_reducible refine SB.alloc ?_ ?_ _); (rotate_left); (first | omega | (simp <;> omega))) | ((with_reducible refine SB.setCell ?_ ?_ _); (rotate_left); (focus (first | (simp; done) | (right; first | omega | (simp <;> omega))))) | ((with_reducible refine SB.below ?_ hbS ?_); (rotate_left); (first | omega | (simp <;> omega))) | ((with_reducible refine SB.below ?_ hbS1 ?_); (rotate_left); (first | omega | (simp <;> omega))) | ((with_reducible refine SB.below ?_ hbS2 ?_); (rotate_left); (first | omega | (simp <;> omega))) | ((with_reducible refine SB.below ?_ hbS3 ?_); (rotate_left); (first | omega | (simp <;> omega))) | ((with_reducible refine SB.below ?_ hbS4 ?_); (rotate_left); (first | omega | (simp <;> omega))) | (with_reducible refine SB.undrew ?_) | ((with_reducible refine SB.congr ?_ ?_); (rotate_left); (focus (simp; done))) | ((with_reducible refine SB.realloc ?_ ?_ ?_); (rotate_left); (focus (simp; done)); (focus (simp; done)))))
                          clear hK K
                          (try simp only [Act.put, List.setIfInBounds_toArray, List.set_cons_zero, List.set_cons_succ])
                          refine ord_take (i := 19) #[true, true, true, true, true, true, true, true, true, true, true, true, true, true, true, true, true, true, true, true, false] ?_ rfl (by kernel_rfl) (by kernel_rfl) (by kernel_rfl) (by kernel_rfl) (fun _ _ _ h => h) hHeld (by rfl) (fun wx hSx => ?_) ?_
                          rotate_left
                          · (unfold SB at hSx; go_simp; (try with_reducible rfl))
                          (try simp only [Act.put, List.setIfInBounds_toArray, List.set_cons_zero, List.set_cons_succ])
                          refine wpAnyH_ready (rs := [20]) (by kernel_rfl) (by simp) ?_
                          refine ord_run (i := 20) #[true, true, true, true, true, true, true, true, true, true, true, true, true, true, true, true, true, true, true, true, true] rfl (by kernel_rfl) (by rfl) (fun K hK => ?_) AllReadyH.nil
                          go_simp
                          refine hK.out _ _ ?_ (fun hHeld => ?_)
                          · (repeat (first | (with_reducible exact SB.refl) | (with_reducible exact hHeld) | (with_reducible refine SB.drew ?_) | (with_reducible refine SB.drewN ?_ _) | ((with_reducible refine SB.alloc ?_ ?_ _); (rotate_left); (first | omega | (simp <;> omega))) | ((with_reducible refine SB.setCell ?_ ?_ _); (rotate_left); (focus (first | (simp; done) | (right; first | omega | (simp <;> omega))))) | ((with_reducible refine SB.below ?_ hbS ?_); (rotate_left); (first | omega | (simp <;> omega))) | ((with_reducible refine SB.below ?_ hbS1 ?_); (rotate_left); (first | omega | (simp <;> omega))) | ((with_reducible refine SB.below ?_ hbS2 ?_); (rotate_left); (first | omega | (simp <;> omega))) | ((with_reducible refine SB.below ?_ hbS3 ?_); (rotate_left); (first | omega | (simp <;> omega))) | ((with_reducible refine SB.below ?_ hbS4 ?_); (rotate_left); (first | omega | (simp <;> omega))) | (with_reducible refine SB.undrew ?_) | ((with_reducible refine SB.congr ?_ ?_); (rotate_left); (focus (simp; done))) | ((with_reducible refine SB.realloc ?_ ?_ ?_); (rotate_left); (focus (simp; done)); (focus (simp; done)))))
                          clear hK K
                          (try simp only [Act.put, List.setIfInBounds_toArray, List.set_cons_zero, List.set_cons_succ])
                          refine wpAnyH_done (by kernel_rfl) ?_ _
                          go_wp2_with fail; go_roundw; (case rel => exact ⟨k + 1, A1, c1, HK.out, by go_num, H0.out.trans ((H7.out.mono (by omega)).trans ((HB7.out.mono (by omega)).trans (by refine Below.setCell ?_ (by simp) _; refine Below.trans ?_ HBg.out; (repeat (first | (with_reducible exact Below.refl _ _) | (with_reducible assumption) | ((with_reducible refine Below.alloc ?_ ?_ _); (rotate_left); (first | omega | (simp <;> omega))) | ((with_reducible refine Below.setCell ?_ ?_ _); (rotate_left); (first | omega | (simp <;> omega))) | (with_reducible refine Below.drew ?_) | (with_reducible refine below_drewN ?_ _)))))), (BX8.out.set _).lt, (BX8.out.set _).fr, (BX8.out.set _).c0, (BX8.out.set _).c1, (BX8.out.set _).c2, (BX8.out.set _).c3, (BX8.out.set _).c4, (BX8.out.set _).c5, by rw [HL.out]; simp [go_sem, *], owns_else (pos_own HL.out rfl ho) (by simp) _⟩); (case measure => have := HK.out; simp [intOf]; omega)
                        refine ord_run (i := 17) #[true, false, true, true, true, true, true, true, true, true, true, true, true, true, true, true, true, true, false, false, false] rfl (by kernel_rfl) (by rfl) (fun K hK => ?_) ?_
                        · go_simp
                          refine hK.out _ _ ?_ (fun hHeld => ?_)
                          · (repeat (first | (with_reducible exact SB.refl) | (with_reducible exact hHeld) | (with_reducible refine SB.drew ?_) | (with_reducible refine SB.drewN ?_ _) | ((with_reducible refine SB.alloc ?_ ?_ _); (rotate_left); (first | omega | (simp <;> omega))) | ((with_reducible refine SB.setCell ?_ ?_ _); (rotate_left); (focus (first | (simp; done) | (right; first | omega | (simp <;> omega))))) | ((with_reducible refine SB.below ?_ hbS ?_); (rotate_left); (first | omega | (simp <;> omega))) | ((with_reducible refine SB.below ?_ hbS1 ?_); (rotate_left); (first | omega | (simp <;> omega))) | ((with_reducible refine SB.below ?_ hbS2 ?_); (rotate_left); (first | omega | (simp <;> omega))) | ((with_reducible refine SB.below ?_ hbS3 ?_); (rotate_left); (first | omega | (simp <;> omega))) | ((with_reducible refine SB.below ?_ hbS4 ?_); (rotate_left); (first | omega | (simp <;> omega))) | (with_reducible refine SB.undrew ?_) | ((with_reducible refine SB.congr ?_ ?_); (rotate_left); (focus (simp; done))) | ((with_reducible refine SB.realloc ?_ ?_ ?_); (rotate_left); (focus (simp; done)); (focus (simp; done)))))
                          clear hK K
                          (try simp only [Act.put, List.setIfInBounds_toArray, List.set_cons_zero, List.set_cons_succ])
                          refine wpAnyH_ready (rs := [1]) (by kernel_rfl) (by simp) ?_
                          refine ord_run (i := 1) #[true, true, true, true, true, true, true, true, true, true, true, true, true, true, true, true, true, true, false, false, false] rfl (by kernel_rfl) (by rfl) (fun K hK => ?_) AllReadyH.nil
                          go_simp
                          refine hK.out _ _ ?_ (fun hHeld => ?_)
                          · (repeat (first | (with_reducible exact SB.refl) | (with_reducible exact hHeld) | (with_reducible refine SB.drew ?_) | (with_reducible refine SB.drewN ?_ _) | ((with_reducible refine SB.alloc ?_ ?_ _); (rotate_left); (first | omega | (simp <;> omega))) | ((with_reducible refine SB.setCell ?_ ?_ _); (rotate_left); (focus (first | (simp; done) | (right; first | omega | (simp <;> omega))))) | ((with_reducible refine SB.below ?_ hbS ?_); (rotate_left); (first | omega | (simp <;> omega))) | ((with_reducible refine SB.below ?_ hbS1 ?_); (rotate_left); (first | omega | (simp <;> omega))) | ((with_reducible refine SB.below ?_ hbS2 ?_); (rotate_left); (first | omega | (simp <;> omega))) | ((with_reducible refine SB.below ?_ hbS3 ?_); (rotate_left); (first | omega | (simp <;> omega))) | ((with_reducible refine SB.below ?_ hbS4 ?_); (rotate_left); (first | omega | (simp <;> omega))) | (with_reducible refine SB.undrew ?_) | ((with_reducible refine SB.congr ?_ ?_); (rotate_left); (focus (simp; done))) | ((with_reducible refine SB.realloc ?_ ?_ ?_); (rotate_left); (focus (simp; done)); (focus (simp; done)))))
                          clear hK K
                          (try simp only [Act.put, List.setIfInBounds_toArray, List.set_cons_zero, List.set_cons_succ])
                          refine wpAnyH_ready (rs := [18]) (by kernel_rfl) (by simp) ?_
                          refine ord_run (i := 18) #[true, true, true, true, true, true, true, true, true, true, true, true, true, true, true, true, true, true, true, false, false] rfl (by kernel_rfl) (by rfl) (fun K hK => ?_) AllReadyH.nil
                          (refine wp_append_own2 (.tmp 92) (.tmp 108) 38 rfl (w1.heap.size + 1 + 1) 66 i0 (.agg #[.int .i64 0, .int .i64 0, .int .i64 0, .string ⟨#[]⟩]) 4 40 Tryd.underlying38 I0.out I1.out I2.out I3.out rfl (by decide) _ _ _ rfl ((owns_below (owns_below HOW.out H7.out) HB7.out).alloc _) ⟨w7.heap.size, 0, none⟩ 1 1 (posL ⟨(E k).id, (E k).bk, mvE (E k) id, (E k).tx⟩) rfl rfl (news_new (cs := ⟨posL ⟨(E k).id, (E k).bk, mvE (E k) id, (E k).tx⟩⟩) (by simp) ) (ones_all rfl) (by have := HN.out; simp only [maxLen]; omega) (by have := HN.out; omega) (by simp; omega) ?_; intro A1 c1 w8 ho hg3; have hHeld := hHeld.grown hg3 (by simp; omega) (fun kk hk => by simp [HGB.out kk hk]); have hb := below_grown (B := w1.heap.size + 1 + 1) hg3 (by simp; omega) (own_ge HOW.out); have BX8 := hide ((((BX.out.below HB7.out (by omega)).below ((Below.refl w7.heap.size w7).alloc (Nat.le_refl _) _) (by omega)).below hb (by omega))); have df := BX8.out.fr 6; have d8 := (hb.cell (p := ⟨w1.heap.size + 1, 6, none⟩) (by show w1.heap.size + 1 < w1.heap.size + 1 + 1; omega)).trans ((((Below.refl w7.heap.size w7).alloc (Nat.le_refl _) _).cell (p := ⟨w1.heap.size + 1, 6, none⟩) (by show w1.heap.size + 1 < w7.heap.size; omega)).trans d6); have hz4 := hb.size; (try simp at hz4); have HBg := hide (below_grown (B := w1.heap.size) hg3 (by simp; omega) (fun k hk => by have := own_ge HOW.out k hk; omega)); clear hb)
                          refine hK.out _ _ ?_ (fun hHeld => ?_)
                          · (repeat (first | (with_reducible exact SB.refl) | (with_reducible exact hHeld) | (with_reducible refine SB.drew ?_) | (with_reducible refine SB.drewN ?_ _) | ((with_reducible refine SB.alloc ?_ ?_ _); (rotate_left); (first | omega | (simp <;> omega))) | ((with_reducible refine SB.setCell ?_ ?_ _); (rotate_left); (focus (first | (simp; done) | (right; first | omega | (simp <;> omega))))) | ((with_reducible refine SB.below ?_ hbS ?_); (rotate_left); (first | omega | (simp <;> omega))) | ((with_reducible refine SB.below ?_ hbS1 ?_); (rotate_left); (first | omega | (simp <;> omega))) | ((with_reducible refine SB.below ?_ hbS2 ?_); (rotate_left); (first | omega | (simp <;> omega))) | ((with_reducible refine SB.below ?_ hbS3 ?_); (rotate_left); (first | omega | (simp <;> omega))) | ((with_reducible refine SB.below ?_ hbS4 ?_); (rotate_left); (first | omega | (simp <;> omega))) | (with_reducible refine SB.undrew ?_) | ((with_reducible refine SB.congr ?_ ?_); (rotate_left); (focus (simp; done))) | ((with_reducible refine SB.realloc ?_ ?_ ?_); (rotate_left); (focus (simp; done)); (focus (simp; done)))))
                          clear hK K
                          (try simp only [Act.put, List.setIfInBounds_toArray, List.set_cons_zero, List.set_cons_succ])
                          refine ord_take (i := 19) #[true, true, true, true, true, true, true, true, true, true, true, true, true, true, true, true, true, true, true, true, false] ?_ rfl (by kernel_rfl) (by kernel_rfl) (by kernel_rfl) (by kernel_rfl) (fun _ _ _ h => h) hHeld (by rfl) (fun wx hSx => ?_) ?_
                          rotate_left
                          · (unfold SB at hSx; go_simp; (try with_reducible rfl))
                          (try simp only [Act.put, List.setIfInBounds_toArray, List.set_cons_zero, List.set_cons_succ])
                          refine wpAnyH_ready (rs := [20]) (by kernel_rfl) (by simp) ?_
                          refine ord_run (i := 20) #[true, true, true, true, true, true, true, true, true, true, true, true, true, true, true, true, true, true, true, true, true] rfl (by kernel_rfl) (by rfl) (fun K hK => ?_) AllReadyH.nil
                          go_simp
                          refine hK.out _ _ ?_ (fun hHeld => ?_)
                          · (repeat (first | (with_reducible exact SB.refl) | (with_reducible exact hHeld) | (with_reducible refine SB.drew ?_) | (with_reducible refine SB.drewN ?_ _) | ((with_reducible refine SB.alloc ?_ ?_ _); (rotate_left); (first | omega | (simp <;> omega))) | ((with_reducible refine SB.setCell ?_ ?_ _); (rotate_left); (focus (first | (simp; done) | (right; first | omega | (simp <;> omega))))) | ((with_reducible refine SB.below ?_ hbS ?_); (rotate_left); (first | omega | (simp <;> omega))) | ((with_reducible refine SB.below ?_ hbS1 ?_); (rotate_left); (first | omega | (simp <;> omega))) | ((with_reducible refine SB.below ?_ hbS2 ?_); (rotate_left); (first | omega | (simp <;> omega))) | ((with_reducible refine SB.below ?_ hbS3 ?_); (rotate_left); (first | omega | (simp <;> omega))) | ((with_reducible refine SB.below ?_ hbS4 ?_); (rotate_left); (first | omega | (simp <;> omega))) | (with_reducible refine SB.undrew ?_) | ((with_reducible refine SB.congr ?_ ?_); (rotate_left); (focus (simp; done))) | ((with_reducible refine SB.realloc ?_ ?_ ?_); (rotate_left); (focus (simp; done)); (focus (simp; done)))))
                          clear hK K
                          (try simp only [Act.put, List.setIfInBounds_toArray, List.set_cons_zero, List.set_cons_succ])
                          refine wpAnyH_done (by kernel_rfl) ?_ _
                          go_wp2_with fail; go_roundw; (case rel => exact ⟨k + 1, A1, c1, HK.out, by go_num, H0.out.trans ((H7.out.mono (by omega)).trans ((HB7.out.mono (by omega)).trans (by refine Below.setCell ?_ (by simp) _; refine Below.trans ?_ HBg.out; (repeat (first | (with_reducible exact Below.refl _ _) | (with_reducible assumption) | ((with_reducible refine Below.alloc ?_ ?_ _); (rotate_left); (first | omega | (simp <;> omega))) | ((with_reducible refine Below.setCell ?_ ?_ _); (rotate_left); (first | omega | (simp <;> omega))) | (with_reducible refine Below.drew ?_) | (with_reducible refine below_drewN ?_ _)))))), (BX8.out.set _).lt, (BX8.out.set _).fr, (BX8.out.set _).c0, (BX8.out.set _).c1, (BX8.out.set _).c2, (BX8.out.set _).c3, (BX8.out.set _).c4, (BX8.out.set _).c5, by rw [HL.out]; simp [go_sem, *], owns_else (pos_own HL.out rfl ho) (by simp) _⟩); (case measure => have := HK.out; simp [intOf]; omega)
                        exact AllReadyH.nil
                      exact AllReadyH.nil
              · obtain rfl : k = jn := by omega
                clear hlt hk
                go_wp2_with fail
                refine bodyPost_ret (by simp [results, Tryd.results11, go_sem, *] <;> rfl) rfl ?_
                rw [HM.out, HS.out]
                obtain ⟨A', c', hv', hrow⟩ := own_rowPos (owns_else (owns_else (owns_else (owns_else (owns_else (owns_else (owns_else hown (p := ⟨w.heap.size + 1, 0, none⟩) (by simp; omega) (.int .i64 id)) (p := ⟨w.heap.size + 1, 1, none⟩) (by simp; omega) (.int .i64 no)) (p := ⟨w.heap.size + 1, 2, none⟩) (by simp; omega) (.int .i64 f)) (p := ⟨w.heap.size + 1, 3, none⟩) (by simp; omega) (.int .i64 t)) (p := ⟨w.heap.size + 1, 4, none⟩) (by simp; omega) (.int .i64 (opS E id f k))) (p := ⟨w.heap.size + 1, 5, none⟩) (by simp; omega) (.int .i64 (clS E id t k))) (p := ⟨w.heap.size + 1, 6, none⟩) (by simp; omega) (.slice A9 (lnL E id f t k).length c9))
                injection hv' with e1 e2 e3
                subst e1 e3
                exact ⟨A9, c9, rfl, hrow, by refine Below.trans (H1.out.trans (q6B.mono (by omega))) ?_; (repeat (first | (with_reducible exact Below.refl _ _) | (with_reducible assumption) | ((with_reducible refine Below.alloc ?_ ?_ _); (rotate_left); (first | omega | (simp <;> omega))) | ((with_reducible refine Below.setCell ?_ ?_ _); (rotate_left); (first | omega | (simp <;> omega))) | (with_reducible refine Below.drew ?_) | (with_reducible refine below_drewN ?_ _)))⟩
end Go.Proofs.YtodfpfbcjiganaaDoor
