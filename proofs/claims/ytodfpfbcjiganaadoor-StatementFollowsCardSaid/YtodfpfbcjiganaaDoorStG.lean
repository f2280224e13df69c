/- statement.Make. -/
import Derived.Test.YtodfpfbcjiganaaDoorStF
namespace Go.Proofs.YtodfpfbcjiganaaDoor
set_option linter.unusedSimpArgs false
set_option linter.unusedVariables false
open Go.RowKit

theorem posL_snoc (l : List LPos) (e : LPos) : (l ++ [e]).flatMap posL = l.flatMap posL ++ posL e := by simp
theorem owns_else {w : World} {base : Nat} {e : TypeId} {size n : Nat} {v : Value} {xs : List Value} (h : w.ownsRow base e size v n xs) {p : Addr} (hp : p.block < base) (u : Value) : (w.setCell p u).ownsRow base e size v n xs := by
  refine ⟨h.1, h.2.imp id fun ⟨g, cap, cur, hv, hg, hh, r⟩ => ⟨g, cap, cur, hv, hg, ?_, r⟩⟩
  rw [Go.Deep.blk_setCell_other _ _ _ _ (by omega)]
  exact hh
theorem lnL_gt {E : Nat → LEnt} {id f t : Int} {k : Nat} (h : (E k).bk > t) : lnL E id f t (k + 1) = lnL E id f t k := lnL_no (by omega)
theorem lnL_lt {E : Nat → LEnt} {id f t : Int} {k : Nat} (h : (E k).bk < f) : lnL E id f t (k + 1) = lnL E id f t k := lnL_no (by omega)
theorem lnL_un {E : Nat → LEnt} {id f t : Int} {k : Nat} (h : tchE (E k) id = false) : lnL E id f t (k + 1) = lnL E id f t k := lnL_no (by rw [h]; simp)
theorem pos_own {w : World} {base : Nat} {e : TypeId} {A : Option Addr} {c : Nat} {l m : List LPos} {a : LPos} {xs : List Value} (hm : m = l ++ [a]) (hx : xs = posL a) (h : w.ownsRow base e 4 (.slice A (l.length + 1) c) (l.length + 1) (l.flatMap posL ++ xs)) :
    w.ownsRow base e 4 (.slice A m.length c) m.length (m.flatMap posL) := by
  rw [hm, List.length_append, List.length_singleton, posL_snoc, ← hx]; exact h
theorem news_new {w : World} {g : Nat} {cs : Array Value} {e : TypeId} (hg : g = w.heap.size) (j : Nat) (u : Value) (hu : cs.toList[j]? = some u) : (w.alloc (.cells cs e)).cell? ((⟨g, 0, none⟩ : Addr).add j) = some u := by
  subst hg
  exact news_cells (Go.Deep.blk_alloc_new _ _) j u hu
theorem mkE_0 {h : Bool} (hh : h = false) (no f t : Int) : mkE h no f t = 11 := by rw [hh]; rfl
theorem mkE_1 {hs : Bool} (hh : hs = true) {no : Int} (f t : Int) (h : no < 1) : mkE hs no f t = 1 := by rw [hh]; unfold mkE; simp [h]
theorem mkE_2 {hs : Bool} (hh : hs = true) {no f : Int} (t : Int) (h : ¬ no < 1) (hf : vday f = false) : mkE hs no f t = 1 := by rw [hh]; unfold mkE; simp [h, hf]
theorem mkE_3 {hs : Bool} (hh : hs = true) {no f t : Int} (h : ¬ no < 1) (hf : vday f = true) (ht : vday t = false) : mkE hs no f t = 1 := by rw [hh]; unfold mkE; simp [h, hf, ht]
theorem mkE_4 {hs : Bool} (hh : hs = true) {no f t : Int} (h : ¬ no < 1) (hf : vday f = true) (ht : vday t = true) (h2 : f > t) : mkE hs no f t = 1 := by rw [hh]; unfold mkE; simp [h, hf, ht]; omega
theorem mkE_5 {hs : Bool} (hh : hs = true) {no f t : Int} (h : ¬ no < 1) (hf : vday f = true) (ht : vday t = true) (h2 : ¬ f > t) : mkE hs no f t = 0 := by rw [hh]; unfold mkE; simp [h, hf, ht]; omega
theorem mkS_err {E : Nat → LEnt} {n : Nat} {has : Bool} {id no f t e : Int} (h : mkE has no f t = e) (he : e ≠ 0) : mkS E n has id no f t = zStm := mkS_no (by rw [h]; exact he)
def MkI (E : Nat → LEnt) (id no f t : Int) (n g : Nat) (tP : TypeId) (W : World) (v : Value) (wr : World) : Prop :=
  ∃ (k : Nat) (A : Option Addr) (c : Nat), k ≤ n ∧ v = .int .i64 k ∧ Below W.heap.size W wr ∧ g < wr.heap.size ∧ (∀ o, wr.frozen? ⟨g, o, none⟩ = false) ∧
    wr.cell? ⟨g, 0, none⟩ = some (.int .i64 id) ∧ wr.cell? ⟨g, 1, none⟩ = some (.int .i64 no) ∧ wr.cell? ⟨g, 2, none⟩ = some (.int .i64 f) ∧ wr.cell? ⟨g, 3, none⟩ = some (.int .i64 t) ∧
    wr.cell? ⟨g, 4, none⟩ = some (.int .i64 (opS E id f k)) ∧ wr.cell? ⟨g, 5, none⟩ = some (.int .i64 (clS E id t k)) ∧ wr.cell? ⟨g, 6, none⟩ = some (.slice A (lnL E id f t k).length c) ∧
    wr.ownsRow (g + 1) tP 4 (.slice A (lnL E id f t k).length c) (lnL E id f t k).length ((lnL E id f t k).flatMap posL)
set_option maxRecDepth 4000 in
set_option maxHeartbeats 2000000 in
theorem make_any (C : Array Value) (aA : Option Addr) (an ac : Nat) (jA : Option Addr) (jn jc : Nat) (hC : Bks C aA an ac jA jn jc) (a : Nat → LAcc) (E : Nat → LEnt) (id no f t : Int) (hn : an ≤ 1000000) (hjn : jn ≤ 1000000) (w : World) (hr : RowAcc w aA an a) (hj : Jrn w jA jn E) :
    Calls Tryd.prog 10 #[.agg C, .int .i64 id, .int .i64 no, .int .i64 f, .int .i64 t] w (StRet (mkS E jn (hasA a id an) id no f t) (mkE (hasA a id an) no f t) w) := by
  obtain ⟨i0, hi0, hz0, hz1, hz2⟩ := info3 pos_info
  have I0 := hide hi0
  have I1 := hide hz0
  have I2 := hide hz1
  have I3 := hide hz2
  clear hi0 hz0 hz1 hz2
  have HR := hide hr
  have HJ := hide hj
  have HCC := hide hC
  have h19 := hC.jou
  have hrow : (Tryd.prog.info? 33).map (·.size) = some C.size := by rw [hC.size]; kernel_rfl
  have HW := hide hrow
  clear hr hrow hj hC
  go_enter Tryd.func10, Tryd.ntmps10
  go_wp2_with (with_reducible refine wpList_load_row rfl 33 (.tmp 5) rfl w.heap.size rfl 33 C (0, 0) _ (two_boxes _ _ _) Tryd.underlying33 rfl HW.out ?_)
  refine (find_any C aA an ac jA jn jc HCC.out a id hn _ (HR.out.below (by (repeat (first | (with_reducible exact Below.refl _ _) | (with_reducible assumption) | ((with_reducible refine Below.alloc ?_ ?_ _); (rotate_left); (first | omega | (simp <;> omega))) | ((with_reducible refine Below.setCell ?_ ?_ _); (rotate_left); (first | omega | (simp <;> omega))) | (with_reducible refine Below.drew ?_) | (with_reducible refine below_drewN ?_ _)))))).mono ?_
  rintro e w1 ⟨rfl, hb⟩
  have q1B : Below w.heap.size w w1 := (by refine Below.trans ?_ (hb.mono (by first | omega | (simp <;> omega))); (repeat (first | (with_reducible exact Below.refl _ _) | (with_reducible assumption) | ((with_reducible refine Below.alloc ?_ ?_ _); (rotate_left); (first | omega | (simp <;> omega))) | ((with_reducible refine Below.setCell ?_ ?_ _); (rotate_left); (first | omega | (simp <;> omega))) | (with_reducible refine Below.drew ?_) | (with_reducible refine below_drewN ?_ _))))
  have q1z := hb.size
  try simp at q1z
  have q1t : w.heap.size ≤ w1.heap.size := (by omega)
  have q1s0 : w.heap.size < w1.heap.size := (by omega)
  have q1n0_0 : ¬ w1.heap.size = w.heap.size := (by omega)
  have q1n0_1 : ¬ w1.heap.size + 1 = w.heap.size := (by omega)
  have q1n0_2 : ¬ w1.heap.size + 2 = w.heap.size := (by omega)
  have q1c0_19 := hb.cell (p := ⟨w.heap.size, 19, none⟩) (by first | omega | (simp <;> omega))
  simp [go_sem, *] at q1c0_19
  have q1f0 := fun o => hb.frozen (p := ⟨w.heap.size, o, none⟩) (by first | omega | (simp <;> omega))
  simp [go_sem, *] at q1f0
  have q1s1 : w.heap.size + 1 < w1.heap.size := (by omega)
  have q1n1_0 : ¬ w1.heap.size = w.heap.size + 1 := (by omega)
  have q1n1_1 : ¬ w1.heap.size + 1 = w.heap.size + 1 := (by omega)
  have q1n1_2 : ¬ w1.heap.size + 2 = w.heap.size + 1 := (by omega)
  have q1c1_0 := hb.cell (p := ⟨w.heap.size + 1, 0, none⟩) (by first | omega | (simp <;> omega))
  simp [go_sem, *] at q1c1_0
  have q1c1_1 := hb.cell (p := ⟨w.heap.size + 1, 1, none⟩) (by first | omega | (simp <;> omega))
  simp [go_sem, *] at q1c1_1
  have q1c1_2 := hb.cell (p := ⟨w.heap.size + 1, 2, none⟩) (by first | omega | (simp <;> omega))
  simp [go_sem, *] at q1c1_2
  have q1c1_3 := hb.cell (p := ⟨w.heap.size + 1, 3, none⟩) (by first | omega | (simp <;> omega))
  simp [go_sem, *] at q1c1_3
  have q1c1_4 := hb.cell (p := ⟨w.heap.size + 1, 4, none⟩) (by first | omega | (simp <;> omega))
  simp [go_sem, *] at q1c1_4
  have q1c1_5 := hb.cell (p := ⟨w.heap.size + 1, 5, none⟩) (by first | omega | (simp <;> omega))
  simp [go_sem, *] at q1c1_5
  have q1c1_6 := hb.cell (p := ⟨w.heap.size + 1, 6, none⟩) (by first | omega | (simp <;> omega))
  simp [go_sem, *] at q1c1_6
  have q1f1 := fun o => hb.frozen (p := ⟨w.heap.size + 1, o, none⟩) (by first | omega | (simp <;> omega))
  simp [go_sem, *] at q1f1
  have q1o : ∀ b o, b < w.heap.size → w1.cell? ⟨b, o, none⟩ = w.cell? ⟨b, o, none⟩ := fun b o h => q1B.cell (p := ⟨b, o, none⟩) h
  clear hb
  clear h19
  cases hh : hasA a id an with
  | false =>
    have HM := hide (mkE_0 hh no f t)
    have HS := hide (mkS_err (E := E) (n := jn) (id := id) HM.out (by decide))
    clear hh
    go_wp2_with fail
    refine bodyPost_ret (by simp [results, Tryd.results10, go_sem, *] <;> rfl) rfl ?_
    rw [HM.out, HS.out]
    exact stRet_no 11 (by (repeat (first | (with_reducible exact Below.refl _ _) | (with_reducible assumption) | ((with_reducible refine Below.alloc ?_ ?_ _); (rotate_left); (first | omega | (simp <;> omega))) | ((with_reducible refine Below.setCell ?_ ?_ _); (rotate_left); (first | omega | (simp <;> omega))) | (with_reducible refine Below.drew ?_) | (with_reducible refine below_drewN ?_ _))))
  | true =>
    have HH := hide hh
    clear hh
    by_cases hno : no < 1
    · have HM := hide (mkE_1 HH.out f t hno)
      have HS := hide (mkS_err (E := E) (n := jn) (id := id) HM.out (by decide))
      go_wp2_with fail
      refine bodyPost_ret (by simp [results, Tryd.results10, go_sem, *] <;> rfl) rfl ?_
      rw [HM.out, HS.out]
      exact stRet_no 1 (by (repeat (first | (with_reducible exact Below.refl _ _) | (with_reducible assumption) | ((with_reducible refine Below.alloc ?_ ?_ _); (rotate_left); (first | omega | (simp <;> omega))) | ((with_reducible refine Below.setCell ?_ ?_ _); (rotate_left); (first | omega | (simp <;> omega))) | (with_reducible refine Below.drew ?_) | (with_reducible refine below_drewN ?_ _))))
    · have HNO := hide hno
      have hno2 := Int.not_lt.1 hno
      clear hno
      cases hf : vday f with
      | false =>
        have HM := hide (mkE_2 HH.out t HNO.out hf)
        have HS := hide (mkS_err (E := E) (n := jn) (id := id) HM.out (by decide))
        have HF := hide hf
        clear hf
        go_wp2_with fail
        refine (valid_any f _).mono ?_
        rintro e w2 ⟨rfl, rfl⟩
        rw [HF.out]
        go_wp2_with fail
        refine bodyPost_ret (by simp [results, Tryd.results10, go_sem, *] <;> rfl) rfl ?_
        rw [HM.out, HS.out]
        exact stRet_no 1 (by (repeat (first | (with_reducible exact Below.refl _ _) | (with_reducible assumption) | ((with_reducible refine Below.alloc ?_ ?_ _); (rotate_left); (first | omega | (simp <;> omega))) | ((with_reducible refine Below.setCell ?_ ?_ _); (rotate_left); (first | omega | (simp <;> omega))) | (with_reducible refine Below.drew ?_) | (with_reducible refine below_drewN ?_ _))))
      | true =>
        have HF := hide hf
        clear hf
        cases ht : vday t with
        | false =>
          have HM := hide (mkE_3 HH.out HNO.out HF.out ht)
          have HS := hide (mkS_err (E := E) (n := jn) (id := id) HM.out (by decide))
          have HT := hide ht
          clear ht
          go_wp2_with fail
          refine (valid_any f _).mono ?_
          rintro e w2 ⟨rfl, rfl⟩
          rw [HF.out]
          go_wp2_with fail
          refine (valid_any t _).mono ?_
          rintro e w2 ⟨rfl, rfl⟩
          rw [HT.out]
          go_wp2_with fail
          refine bodyPost_ret (by simp [results, Tryd.results10, go_sem, *] <;> rfl) rfl ?_
          rw [HM.out, HS.out]
          exact stRet_no 1 (by (repeat (first | (with_reducible exact Below.refl _ _) | (with_reducible assumption) | ((with_reducible refine Below.alloc ?_ ?_ _); (rotate_left); (first | omega | (simp <;> omega))) | ((with_reducible refine Below.setCell ?_ ?_ _); (rotate_left); (first | omega | (simp <;> omega))) | (with_reducible refine Below.drew ?_) | (with_reducible refine below_drewN ?_ _))))
        | true =>
          have HT := hide ht
          clear ht
          by_cases hft : f > t
          · have HM := hide (mkE_4 HH.out HNO.out HF.out HT.out hft)
            have HS := hide (mkS_err (E := E) (n := jn) (id := id) HM.out (by decide))
            have hft2 : t < f := hft
            clear hft
            go_wp2_with fail
            refine (valid_any f _).mono ?_
            rintro e w2 ⟨rfl, rfl⟩
            rw [HF.out]
            go_wp2_with fail
            refine (valid_any t _).mono ?_
            rintro e w2 ⟨rfl, rfl⟩
            rw [HT.out]
            go_wp2_with fail
            refine bodyPost_ret (by simp [results, Tryd.results10, go_sem, *] <;> rfl) rfl ?_
            rw [HM.out, HS.out]
            exact stRet_no 1 (by (repeat (first | (with_reducible exact Below.refl _ _) | (with_reducible assumption) | ((with_reducible refine Below.alloc ?_ ?_ _); (rotate_left); (first | omega | (simp <;> omega))) | ((with_reducible refine Below.setCell ?_ ?_ _); (rotate_left); (first | omega | (simp <;> omega))) | (with_reducible refine Below.drew ?_) | (with_reducible refine below_drewN ?_ _))))
          · have HM := hide (mkE_5 HH.out HNO.out HF.out HT.out hft)
            have HS := hide (mkS_yes (E := E) (n := jn) (id := id) HM.out)
            have hft2 : f ≤ t := by omega
            have HFT := hide hft2
            clear hft
            go_wp2_with fail
            refine (valid_any f _).mono ?_
            rintro e w2 ⟨rfl, rfl⟩
            rw [HF.out]
            go_wp2_with fail
            refine (valid_any t _).mono ?_
            rintro e w2 ⟨rfl, rfl⟩
            rw [HT.out]
            go_wp2_with fail
            go_loopw [54] (fun v wr => MkI E id no f t jn (w1.heap.size + 1) 66 w1 v wr) (fun v _ => jn - (intOf v).toNat)
            case atStart => exact ⟨0, none, 0, by omega, rfl, by (repeat (first | (with_reducible exact Below.refl _ _) | (with_reducible assumption) | ((with_reducible refine Below.alloc ?_ ?_ _); (rotate_left); (first | omega | (simp <;> omega))) | ((with_reducible refine Below.setCell ?_ ?_ _); (rotate_left); (first | omega | (simp <;> omega))) | (with_reducible refine Below.drew ?_) | (with_reducible refine below_drewN ?_ _))), by simp, by simp [go_sem], by simp [go_sem], by simp [go_sem], by simp [go_sem], by simp [go_sem], by simp [go_sem]; rfl, by simp [go_sem]; rfl, by simp [go_sem]; rfl, ⟨rfl, .inl ⟨rfl, rfl⟩⟩⟩
            case round =>
              obtain ⟨k, A9, c9, hk, rfl, hb, hg, bf, b0, b1, b2, b3, b4, b5, b6, hown⟩ := hrel
              have H0 := hide hb
              have H1 := hide q1B
              have q2B : Below w1.heap.size w1 wr := (by refine Below.trans ?_ (hb.mono (by first | omega | (simp <;> omega))); (repeat (first | (with_reducible exact Below.refl _ _) | (with_reducible assumption) | ((with_reducible refine Below.alloc ?_ ?_ _); (rotate_left); (first | omega | (simp <;> omega))) | ((with_reducible refine Below.setCell ?_ ?_ _); (rotate_left); (first | omega | (simp <;> omega))) | (with_reducible refine Below.drew ?_) | (with_reducible refine below_drewN ?_ _))))
              have q2z := hb.size
              try simp at q2z
              have q2t : w1.heap.size ≤ wr.heap.size := (by omega)
              have q2s0 : w.heap.size < wr.heap.size := (by omega)
              have q2n0_0 : ¬ wr.heap.size = w.heap.size := (by omega)
              have q2n0_1 : ¬ wr.heap.size + 1 = w.heap.size := (by omega)
              have q2n0_2 : ¬ wr.heap.size + 2 = w.heap.size := (by omega)
              have q2c0_19 := hb.cell (p := ⟨w.heap.size, 19, none⟩) (by first | omega | (simp <;> omega))
              simp [go_sem, *] at q2c0_19
              have q2f0 := fun o => hb.frozen (p := ⟨w.heap.size, o, none⟩) (by first | omega | (simp <;> omega))
              simp [go_sem, *] at q2f0
              have q2s1 : w.heap.size + 1 < wr.heap.size := (by omega)
              have q2n1_0 : ¬ wr.heap.size = w.heap.size + 1 := (by omega)
              have q2n1_1 : ¬ wr.heap.size + 1 = w.heap.size + 1 := (by omega)
              have q2n1_2 : ¬ wr.heap.size + 2 = w.heap.size + 1 := (by omega)
              have q2c1_0 := hb.cell (p := ⟨w.heap.size + 1, 0, none⟩) (by first | omega | (simp <;> omega))
              simp [go_sem, *] at q2c1_0
              have q2c1_1 := hb.cell (p := ⟨w.heap.size + 1, 1, none⟩) (by first | omega | (simp <;> omega))
              simp [go_sem, *] at q2c1_1
              have q2c1_2 := hb.cell (p := ⟨w.heap.size + 1, 2, none⟩) (by first | omega | (simp <;> omega))
              simp [go_sem, *] at q2c1_2
              have q2c1_3 := hb.cell (p := ⟨w.heap.size + 1, 3, none⟩) (by first | omega | (simp <;> omega))
              simp [go_sem, *] at q2c1_3
              have q2c1_4 := hb.cell (p := ⟨w.heap.size + 1, 4, none⟩) (by first | omega | (simp <;> omega))
              simp [go_sem, *] at q2c1_4
              have q2c1_5 := hb.cell (p := ⟨w.heap.size + 1, 5, none⟩) (by first | omega | (simp <;> omega))
              simp [go_sem, *] at q2c1_5
              have q2c1_6 := hb.cell (p := ⟨w.heap.size + 1, 6, none⟩) (by first | omega | (simp <;> omega))
              simp [go_sem, *] at q2c1_6
              have q2f1 := fun o => hb.frozen (p := ⟨w.heap.size + 1, o, none⟩) (by first | omega | (simp <;> omega))
              simp [go_sem, *] at q2f1
              have q2o : ∀ b o, b < w1.heap.size → wr.cell? ⟨b, o, none⟩ = w1.cell? ⟨b, o, none⟩ := fun b o h => q2B.cell (p := ⟨b, o, none⟩) h
              clear hb q1o q1f1 q1c1_6 q1c1_5 q1c1_4 q1c1_3 q1c1_2 q1c1_1 q1c1_0 q1s1 q1f0 q1c0_19 q1s0 q1z q1B
              by_cases hlt : k < jn
              · have hm : (k : Int) < jn := by omega
                have HK := hide hlt
                have hk0 : (0 : Int) ≤ k := by omega
                obtain ⟨b, off, rfl, hbl, c0, c1, c2, c3, c4, c5, c6, c7, c8, d9⟩ := ((HJ.out.below H1.out).below q2B).row.at hlt
                clear hlt hk
                go_wp2_with fail
                refine (moved_any _ (E k).lA (E k).ln (E k).lc rfl (E k).legs id (HJ.out.legs k HK.out) _ (((HJ.out.row.2 k HK.out).below (H1.out.trans (q2B.mono (by omega)))).below (by (repeat (first | (with_reducible exact Below.refl _ _) | (with_reducible assumption) | ((with_reducible refine Below.alloc ?_ ?_ _); (rotate_left); (first | omega | (simp <;> omega))) | ((with_reducible refine Below.setCell ?_ ?_ _); (rotate_left); (first | omega | (simp <;> omega))) | (with_reducible refine Below.drew ?_) | (with_reducible refine below_drewN ?_ _)))))).mono ?_
                rintro e w2 ⟨rfl, hb⟩
                have H2 := hide q2B
                have HOW := hide hown
                clear hown
                have q3B : Below wr.heap.size wr w2 := (by refine Below.trans ?_ (hb.mono (by first | omega | (simp <;> omega))); (repeat (first | (with_reducible exact Below.refl _ _) | (with_reducible assumption) | ((with_reducible refine Below.alloc ?_ ?_ _); (rotate_left); (first | omega | (simp <;> omega))) | ((with_reducible refine Below.setCell ?_ ?_ _); (rotate_left); (first | omega | (simp <;> omega))) | (with_reducible refine Below.drew ?_) | (with_reducible refine below_drewN ?_ _))))
                have q3z := hb.size
                try simp at q3z
                have q3t : wr.heap.size ≤ w2.heap.size := (by omega)
                have q3s0 : w.heap.size < w2.heap.size := (by omega)
                have q3n0_0 : ¬ w2.heap.size = w.heap.size := (by omega)
                have q3n0_1 : ¬ w2.heap.size + 1 = w.heap.size := (by omega)
                have q3n0_2 : ¬ w2.heap.size + 2 = w.heap.size := (by omega)
                have q3c0_19 := hb.cell (p := ⟨w.heap.size, 19, none⟩) (by first | omega | (simp <;> omega))
                simp [go_sem, *] at q3c0_19
                have q3f0 := fun o => hb.frozen (p := ⟨w.heap.size, o, none⟩) (by first | omega | (simp <;> omega))
                simp [go_sem, *] at q3f0
                have q3s1 : w.heap.size + 1 < w2.heap.size := (by omega)
                have q3n1_0 : ¬ w2.heap.size = w.heap.size + 1 := (by omega)
                have q3n1_1 : ¬ w2.heap.size + 1 = w.heap.size + 1 := (by omega)
                have q3n1_2 : ¬ w2.heap.size + 2 = w.heap.size + 1 := (by omega)
                have q3c1_0 := hb.cell (p := ⟨w.heap.size + 1, 0, none⟩) (by first | omega | (simp <;> omega))
                simp [go_sem, *] at q3c1_0
                have q3c1_1 := hb.cell (p := ⟨w.heap.size + 1, 1, none⟩) (by first | omega | (simp <;> omega))
                simp [go_sem, *] at q3c1_1
                have q3c1_2 := hb.cell (p := ⟨w.heap.size + 1, 2, none⟩) (by first | omega | (simp <;> omega))
                simp [go_sem, *] at q3c1_2
                have q3c1_3 := hb.cell (p := ⟨w.heap.size + 1, 3, none⟩) (by first | omega | (simp <;> omega))
                simp [go_sem, *] at q3c1_3
                have q3c1_4 := hb.cell (p := ⟨w.heap.size + 1, 4, none⟩) (by first | omega | (simp <;> omega))
                simp [go_sem, *] at q3c1_4
                have q3c1_5 := hb.cell (p := ⟨w.heap.size + 1, 5, none⟩) (by first | omega | (simp <;> omega))
                simp [go_sem, *] at q3c1_5
                have q3c1_6 := hb.cell (p := ⟨w.heap.size + 1, 6, none⟩) (by first | omega | (simp <;> omega))
                simp [go_sem, *] at q3c1_6
                have q3f1 := fun o => hb.frozen (p := ⟨w.heap.size + 1, o, none⟩) (by first | omega | (simp <;> omega))
                simp [go_sem, *] at q3f1
                have q3s2 : w1.heap.size + 1 < w2.heap.size := (by omega)
                have q3n2_0 : ¬ w2.heap.size = w1.heap.size + 1 := (by omega)
                have q3n2_1 : ¬ w2.heap.size + 1 = w1.heap.size + 1 := (by omega)
                have q3n2_2 : ¬ w2.heap.size + 2 = w1.heap.size + 1 := (by omega)
                have q3c2_0 := hb.cell (p := ⟨w1.heap.size + 1, 0, none⟩) (by first | omega | (simp <;> omega))
                simp [go_sem, *] at q3c2_0
                have q3c2_1 := hb.cell (p := ⟨w1.heap.size + 1, 1, none⟩) (by first | omega | (simp <;> omega))
                simp [go_sem, *] at q3c2_1
                have q3c2_2 := hb.cell (p := ⟨w1.heap.size + 1, 2, none⟩) (by first | omega | (simp <;> omega))
                simp [go_sem, *] at q3c2_2
                have q3c2_3 := hb.cell (p := ⟨w1.heap.size + 1, 3, none⟩) (by first | omega | (simp <;> omega))
                simp [go_sem, *] at q3c2_3
                have q3c2_4 := hb.cell (p := ⟨w1.heap.size + 1, 4, none⟩) (by first | omega | (simp <;> omega))
                simp [go_sem, *] at q3c2_4
                have q3c2_5 := hb.cell (p := ⟨w1.heap.size + 1, 5, none⟩) (by first | omega | (simp <;> omega))
                simp [go_sem, *] at q3c2_5
                have q3c2_6 := hb.cell (p := ⟨w1.heap.size + 1, 6, none⟩) (by first | omega | (simp <;> omega))
                simp [go_sem, *] at q3c2_6
                have q3f2 := fun o => hb.frozen (p := ⟨w1.heap.size + 1, o, none⟩) (by first | omega | (simp <;> omega))
                simp [go_sem, *] at q3f2
                have q3s3 : wr.heap.size < w2.heap.size := (by omega)
                have q3n3_0 : ¬ w2.heap.size = wr.heap.size := (by omega)
                have q3n3_1 : ¬ w2.heap.size + 1 = wr.heap.size := (by omega)
                have q3n3_2 : ¬ w2.heap.size + 2 = wr.heap.size := (by omega)
                have q3c3_0 := hb.cell (p := ⟨wr.heap.size, 0, none⟩) (by first | omega | (simp <;> omega))
                simp [go_sem, *] at q3c3_0
                have q3c3_1 := hb.cell (p := ⟨wr.heap.size, 1, none⟩) (by first | omega | (simp <;> omega))
                simp [go_sem, *] at q3c3_1
                have q3c3_2 := hb.cell (p := ⟨wr.heap.size, 2, none⟩) (by first | omega | (simp <;> omega))
                simp [go_sem, *] at q3c3_2
                have q3c3_3 := hb.cell (p := ⟨wr.heap.size, 3, none⟩) (by first | omega | (simp <;> omega))
                simp [go_sem, *] at q3c3_3
                have q3c3_4 := hb.cell (p := ⟨wr.heap.size, 4, none⟩) (by first | omega | (simp <;> omega))
                simp [go_sem, *] at q3c3_4
                have q3c3_5 := hb.cell (p := ⟨wr.heap.size, 5, none⟩) (by first | omega | (simp <;> omega))
                simp [go_sem, *] at q3c3_5
                have q3c3_6 := hb.cell (p := ⟨wr.heap.size, 6, none⟩) (by first | omega | (simp <;> omega))
                simp [go_sem, *] at q3c3_6
                have q3c3_7 := hb.cell (p := ⟨wr.heap.size, 7, none⟩) (by first | omega | (simp <;> omega))
                simp [go_sem, *] at q3c3_7
                have q3c3_8 := hb.cell (p := ⟨wr.heap.size, 8, none⟩) (by first | omega | (simp <;> omega))
                simp [go_sem, *] at q3c3_8
                have q3c3_9 := hb.cell (p := ⟨wr.heap.size, 9, none⟩) (by first | omega | (simp <;> omega))
                simp [go_sem, *] at q3c3_9
                have q3f3 := fun o => hb.frozen (p := ⟨wr.heap.size, o, none⟩) (by first | omega | (simp <;> omega))
                simp [go_sem, *] at q3f3
                have q3o : ∀ b o, b < wr.heap.size → w2.cell? ⟨b, o, none⟩ = wr.cell? ⟨b, o, none⟩ := fun b o h => q3B.cell (p := ⟨b, o, none⟩) h
                clear hb q2o q2f1 q2c1_6 q2c1_5 q2c1_4 q2c1_3 q2c1_2 q2c1_1 q2c1_0 q2s1 q2f0 q2c0_19 q2s0 q2z q2B
                by_cases g1 : (E k).bk > t
                · have HO := hide (opS_no (E := E) (id := id) (show ¬ (E k).bk < f from by omega))
                  have HC := hide (clS_no (E := E) (id := id) (show ¬ (E k).bk ≤ t from by omega))
                  have HL := hide (lnL_gt (id := id) (f := f) g1)
                  have g1' : t < (E k).bk := g1
                  clear g1
                  go_wp2_with fail
                  go_roundw
                  case rel => exact ⟨k + 1, A9, c9, HK.out, by go_num, H0.out.trans (q3B.mono (by omega)), by omega, fun o => q3f2 o, q3c2_0, q3c2_1, q3c2_2, q3c2_3, by rw [HO.out]; exact q3c2_4, by rw [HC.out]; exact q3c2_5, by rw [HL.out]; exact q3c2_6, by rw [HL.out]; exact owns_below HOW.out q3B⟩
                  case measure => have := HK.out; simp [intOf]; omega
                · have g1' := Int.not_lt.1 g1
                  have HC := hide (clS_yes (id := id) g1')
                  clear g1
                  by_cases g2 : (E k).bk < f
                  · have HO := hide (opS_yes (id := id) g2)
                    have HL := hide (lnL_lt (id := id) (t := t) g2)
                    go_wp2_with fail
                    go_roundw
                    case rel => exact ⟨k + 1, A9, c9, HK.out, by go_num, H0.out.trans (by refine Below.trans (q3B.mono (by omega)) ?_; (repeat (first | (with_reducible exact Below.refl _ _) | (with_reducible assumption) | ((with_reducible refine Below.alloc ?_ ?_ _); (rotate_left); (first | omega | (simp <;> omega))) | ((with_reducible refine Below.setCell ?_ ?_ _); (rotate_left); (first | omega | (simp <;> omega))) | (with_reducible refine Below.drew ?_) | (with_reducible refine below_drewN ?_ _)))), by simp; omega, fun o => by simp [go_sem, *], by simp [go_sem, *], by simp [go_sem, *], by simp [go_sem, *], by simp [go_sem, *], by rw [HO.out]; simp [go_sem, *]; rfl, by rw [HC.out]; simp [go_sem, *]; rfl, by rw [HL.out]; simp [go_sem, *], by rw [HL.out]; exact owns_else (owns_else (owns_below HOW.out q3B) (by simp) _) (by simp) _⟩
                    case measure => have := HK.out; simp [intOf]; omega
                  · have HO := hide (opS_no (E := E) (id := id) g2)
                    have g2' := Int.not_lt.1 g2
                    clear g2
                    cases g3 : mvb (E k).legs id (E k).ln with
                    | false =>
                      have HL := hide (lnL_un (f := f) (t := t) (show tchE (E k) id = false from g3))
                      clear g3
                      go_wp2_with fail
                      go_roundw
                      case rel => exact ⟨k + 1, A9, c9, HK.out, by go_num, H0.out.trans (by refine Below.trans (q3B.mono (by omega)) ?_; (repeat (first | (with_reducible exact Below.refl _ _) | (with_reducible assumption) | ((with_reducible refine Below.alloc ?_ ?_ _); (rotate_left); (first | omega | (simp <;> omega))) | ((with_reducible refine Below.setCell ?_ ?_ _); (rotate_left); (first | omega | (simp <;> omega))) | (with_reducible refine Below.drew ?_) | (with_reducible refine below_drewN ?_ _)))), by simp; omega, fun o => by simp [go_sem, *], by simp [go_sem, *], by simp [go_sem, *], by simp [go_sem, *], by simp [go_sem, *], by rw [HO.out]; simp [go_sem, *], by rw [HC.out]; simp [go_sem, *]; rfl, by rw [HL.out]; simp [go_sem, *], by rw [HL.out]; exact owns_else (owns_below HOW.out q3B) (by simp) _⟩
                      case measure => have := HK.out; simp [intOf]; omega
                    | true =>
                      have HL := hide (lnL_yes g2' g1' (show tchE (E k) id = true from g3))
                      clear g3
                      have HN := hide (show (lnL E id f t k).length ≤ 1000000 from by have := lnL_len E id f t k; have := HK.out; omega)
                      have hz3 := q3B.size
                      go_wp2_with (at_builtin; go_loud (refine wpList_append_own2 _ rfl (.tmp 71) (.tmp 80) 38 rfl (w1.heap.size + 1 + 1) 66 i0 (.agg #[.int .i64 0, .int .i64 0, .int .i64 0, .string ⟨#[]⟩]) 4 40 Tryd.underlying38 I0.out I1.out I2.out I3.out rfl (by decide) _ _ _ rfl ((owns_else (owns_below HOW.out q3B) (p := ⟨w1.heap.size + 1, 5, none⟩) (by simp) _).alloc _) ⟨w2.heap.size, 0, none⟩ 1 1 (posL ⟨(E k).id, (E k).bk, mvE (E k) id, (E k).tx⟩) rfl rfl (news_new (cs := ⟨posL ⟨(E k).id, (E k).bk, mvE (E k) id, (E k).tx⟩⟩) (by simp)) (ones_all rfl) (by have := HN.out; simp only [maxLen]; omega) (by have := HN.out; omega) (by simp; omega) ?_); intro A1 c1 w3 ho hg3 hv; have hb := below_grown (B := w1.heap.size + 1 + 1) hg3 (by simp; omega) (own_ge HOW.out); have d0 := hb.cell (p := ⟨w1.heap.size + 1, 0, none⟩) (by simp); (simp [go_sem, *] at d0); have d1 := hb.cell (p := ⟨w1.heap.size + 1, 1, none⟩) (by simp); (simp [go_sem, *] at d1); have d2 := hb.cell (p := ⟨w1.heap.size + 1, 2, none⟩) (by simp); (simp [go_sem, *] at d2); have d3 := hb.cell (p := ⟨w1.heap.size + 1, 3, none⟩) (by simp); (simp [go_sem, *] at d3); have d4 := hb.cell (p := ⟨w1.heap.size + 1, 4, none⟩) (by simp); (simp [go_sem, *] at d4); have d5 := hb.cell (p := ⟨w1.heap.size + 1, 5, none⟩) (by simp); (simp [go_sem, *] at d5); have d6 := hb.cell (p := ⟨w1.heap.size + 1, 6, none⟩) (by simp); (simp [go_sem, *] at d6); have df := fun o => hb.frozen (p := ⟨w1.heap.size + 1, o, none⟩) (by simp); (simp [go_sem, *] at df); have hz4 := hb.size; (try simp at hz4))
                      go_roundw
                      case rel => exact ⟨k + 1, A1, c1, HK.out, by go_num, H0.out.trans ((q3B.mono (by omega)).trans (by refine Below.setCell ?_ (by simp) _; refine Below.trans ?_ (below_grown (B := w1.heap.size) hg3 (by simp; omega) (fun k hk => by have := own_ge HOW.out k hk; omega)); (repeat (first | (with_reducible exact Below.refl _ _) | (with_reducible assumption) | ((with_reducible refine Below.alloc ?_ ?_ _); (rotate_left); (first | omega | (simp <;> omega))) | ((with_reducible refine Below.setCell ?_ ?_ _); (rotate_left); (first | omega | (simp <;> omega))) | (with_reducible refine Below.drew ?_) | (with_reducible refine below_drewN ?_ _))))), by simp; omega, fun o => by simp [go_sem, *], by simp [go_sem, *], by simp [go_sem, *], by simp [go_sem, *], by simp [go_sem, *], by rw [HO.out]; simp [go_sem, *], by rw [HC.out]; simp [go_sem, *]; rfl, by rw [HL.out]; simp [go_sem, *], owns_else (pos_own HL.out rfl ho) (by simp) _⟩
                      case measure => have := HK.out; simp [intOf]; omega
              · obtain rfl : k = jn := by omega
                clear hlt hk
                go_wp2_with fail
                refine bodyPost_ret (by simp [results, Tryd.results10, go_sem, *] <;> rfl) rfl ?_
                rw [HM.out, HS.out]
                obtain ⟨A', c', hv', hrow⟩ := own_rowPos (owns_else (owns_else (owns_else (owns_else (owns_else (owns_else (owns_else hown (p := ⟨w.heap.size + 1, 0, none⟩) (by simp; omega) (.int .i64 id)) (p := ⟨w.heap.size + 1, 1, none⟩) (by simp; omega) (.int .i64 no)) (p := ⟨w.heap.size + 1, 2, none⟩) (by simp; omega) (.int .i64 f)) (p := ⟨w.heap.size + 1, 3, none⟩) (by simp; omega) (.int .i64 t)) (p := ⟨w.heap.size + 1, 4, none⟩) (by simp; omega) (.int .i64 (opS E id f k))) (p := ⟨w.heap.size + 1, 5, none⟩) (by simp; omega) (.int .i64 (clS E id t k))) (p := ⟨w.heap.size + 1, 6, none⟩) (by simp; omega) (.slice A9 (lnL E id f t k).length c9))
                injection hv' with e1 e2 e3
                subst e1 e3
                exact ⟨A9, c9, rfl, hrow, by refine Below.trans (H1.out.trans (q2B.mono (by omega))) ?_; (repeat (first | (with_reducible exact Below.refl _ _) | (with_reducible assumption) | ((with_reducible refine Below.alloc ?_ ?_ _); (rotate_left); (first | omega | (simp <;> omega))) | ((with_reducible refine Below.setCell ?_ ?_ _); (rotate_left); (first | omega | (simp <;> omega))) | (with_reducible refine Below.drew ?_) | (with_reducible refine below_drewN ?_ _)))⟩
end Go.Proofs.YtodfpfbcjiganaaDoor
