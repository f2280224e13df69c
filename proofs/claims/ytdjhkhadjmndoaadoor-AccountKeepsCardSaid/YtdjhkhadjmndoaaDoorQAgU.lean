/- Texts laid together: AgU. -/
import Derived.Test.YtdjhkhadjmndoaaDoorQAgT
import Derived.Test.YtdjhkhadjmndoaaDoorQAgJ
namespace Go.Proofs.YtdjhkhadjmndoaaDoor
set_option maxRecDepth 4000
set_option linter.unusedSimpArgs false
set_option linter.unusedVariables false
open Go.RowKit
/-- What Close answers. -/
def clsE (a : Nat → LAcc) (an : Nat) (E : Nat → LEnt) (jn : Nat) (h : Nat → LHl) (hn : Nat) (id day : Int) : Int :=
  if hasA a id an = false then 11 else if (getA a id an).cl ≠ 0 then 16 else if day < 1 ∨ vday day = false ∨ day < (getA a id an).op then 1 else if sumE E id (fun _ => true) jn ≠ 0 ∨ hsm h id day hn ≠ 0 then 17 else 0
/-- Books in which the account with an Id is closed. -/
def clT (ck : Nat → Tr) (k : Nat) (day : Int) (j : Nat) : Tr := if j = 18 then .row (ck 18).n 7 (fun i m => if i = k ∧ m = 2 then .lf (.int .i64 day) else (ck 18).c i m) else ck j
theorem rowA_get {R : Nat → Array Value} {n k j : Nat} (hR : ∀ i, i < n → (R i).size = 7) (hk : k < n) (hj : j < 7) : (rowA R n)[k * 7 + j]? = some ((R k).getD j undef) := rowA_at hR k j hk hj
/-- The copy in which one cell is written reads as the books with the account closed. -/
theorem close_fin {w2 w9 : World} {N : Nat} {D : Array Value} {n cap g k : Nat} {c : Nat → Nat → Tr} {R : Nat → Array Value} {ck : Nat → Tr} {t : TypeId} {day : Int} {cur : Array Value} (hs : D.size = 22) (h1 : D.all (·.oneCell') = true) (hc : ck 18 = .row n 7 c) (hk : RowK 9 n c)
    (hD : D[18]? = some (.slice (some ⟨g, 0, none⟩) n cap)) (hcap : n ≤ cap) (hR : ∀ k, k < n → ElT (New N w2) w2 9 (c k) (R k)) (hA : ∀ j, j < 22 → j ≠ 18 → (ck j).rd (Av N (.slice (some ⟨g, 0, none⟩) n cap) w2) w2 (D.getD j undef)) (hz : w2.heap.size ≤ w9.heap.size)
    (hb : ∀ b, N ≤ b → b < w2.heap.size → b ≠ g → w9.heap[b]? = w2.heap[b]?) (hkn : k < n) (hcur : (cur.toList.take (n * 7)) = rowA R n) (hg : N ≤ g ∧ g < w2.heap.size) (hx : w9.heap[g]? = some (.cells (cur.setIfInBounds (k * 7 + 2) (.int .i64 day)) t (0, 0))) : ElT (New N w9) w9 15 (clT ck k day) D := by
  have hR7 : ∀ i, i < n → (R i).size = 7 := fun i hi => (hR i hi).size
  refine el_big hs (fun j hj => ?_)
  have hj2 : j < 22 := hj
  by_cases h18 : j = 18
  · subst h18
    refine ⟨_, hD, rfl, ?_⟩
    unfold clT
    rw [if_pos rfl, hc]
    have cell : ∀ i m, i < n → m < 7 → w9.cell? ⟨g, 0 + (i * 7 + m), none⟩ = some (if i = k ∧ m = 2 then .int .i64 day else (R i).getD m undef) := fun i m hi hm => by
      rw [Nat.zero_add, cell_of_cells hx]
      have f1 := rowA_get hR7 hi hm
      have hlt : i * 7 + m < n * 7 := by omega
      rw [← hcur, List.getElem?_take, if_pos hlt] at f1
      by_cases he : i = k ∧ m = 2
      · rw [if_pos he, he.1, he.2, Array.getElem?_setIfInBounds_self_of_lt]
        have := (List.getElem?_eq_some_iff.1 f1).1
        rw [he.1, he.2] at this
        simpa using this
      · rw [if_neg he, Array.getElem?_setIfInBounds_ne (by intro h; apply he; omega)]
        simpa using f1
    refine row_mk (e := 9) (w := w9) (S := New N w9) (C := fun i m => if i = k ∧ m = 2 then .int .i64 day else (R i).getD m undef) hcap ⟨fun _ => ⟨g, 0, rfl, ⟨hg.1, by omega⟩, fun i m hi hm => cell i m hi hm⟩, fun i m hi hm => ?_⟩
    have hm2 : m < 7 := hm
    show (if i = k ∧ m = 2 then Tr.lf (.int .i64 day) else c i m).rd _ _ (if i = k ∧ m = 2 then .int .i64 day else (R i).getD m undef)
    by_cases he : i = k ∧ m = 2
    · rw [if_pos he, if_pos he]; exact rfl
    · rw [if_neg he, if_neg he]
      have hlk : leafK ((tbl 9).getD m .i) = true := by
        match m, hm2 with
        | 0, _ | 1, _ | 2, _ | 3, _ | 4, _ | 5, _ | 6, _ => rfl
      exact rd_any hlk ((hR i hi).rd m hm) (hk.wt i m hi hm)
  · refine ⟨D.getD j undef, getD_at (by omega), one_at hs hj2 h1, ?_⟩
    unfold clT
    rw [if_neg h18]
    exact (hA j hj2 h18).mono (fun b h => ⟨h.1.1, Nat.lt_of_lt_of_le h.1.2 hz⟩) (fun b h => hb b h.1.1 h.1.2 (fun e => h.2 (by rw [e]; rfl)))
/-- What Close hands back. -/
def ClRet (ck : Nat → Tr) (k : Nat) (day e : Int) (w : World) (r : Ending) (w' : World) : Prop := ∃ D, r = .returned (.tuple #[.agg D, .int .i64 e]) ∧ ElT (New w.heap.size w') w' 15 (if e = 0 then clT ck k day else zbT) D ∧ Below w.heap.size w w'
def idxN (a : Nat → LAcc) (id : Int) (n : Nat) : Nat := match fndA a id n with | some k => k | none => 0
set_option maxRecDepth 20000 in
set_option maxHeartbeats 16000000 in
theorem close_any (ck : Nat → Tr) (hw : KnOK 15 ck) (B : LBk) (hB : BkOK B) (E : Nat → LEnt) (hj : B.jn ≤ 1000000) (hA : Option Addr) (hn hc : Nat) (h20 : B.C[20]? = some (.slice hA hn hc)) (h : Nat → LHl) (hhn : hn ≤ 1000000) (id day : Int) (w : World) (hX : ElT (Old w) w 15 ck B.C) (hi : BkIn w B) (hJ : Jrn w B.jA B.jn E) (hH : RowHld w hA hn h) :
    Calls Tryd.prog 26 #[.agg B.C, .int .i64 id, .int .i64 day] w (ClRet ck (idxN B.a id B.an) day (clsE B.a B.an E B.jn h hn id day) w) := by
  obtain ⟨X, aA, an, ac, a, jA, jn, jc, pA, pn, pc, P⟩ := B
  obtain ⟨i0, Z, hi0, hi1, hi2, hi3, hi4⟩ := zb_zero
  obtain ⟨ZB, hz0, hz1, hz2, hz3⟩ := zb_built
  have HI := hide (And.intro hi0 hi1)
  have HZS := hide hi2
  have HZB := hide hz0
  have HZBS := hide hz1
  have HZBO := hide hz2
  have HZBE := hide hz3
  have HXS := hide (zb_size (C := X) hX.size)
  have HX := hide hX
  have HW := hide hw
  have HR := hide (show RowAcc w aA an a from hi.acc)
  have HJ := hide (show Jrn w jA jn E from hJ)
  have HH := hide hH
  have h18 : X[18]? = some (.slice aA an ac) := hB.bks.acc
  have h19 : X[19]? = some (.slice jA jn jc) := hB.bks.jou
  have h20 : X[20]? = some (.slice hA hn hc) := h20
  have H18 := hide h18
  have H19 := hide h19
  have H20 := hide h20
  have HIX := hide (fun (W : World) (h : RowAcc W aA an a) => index_any X aA an ac jA jn jc hB.bks a id hB.an W h)
  have HAN := hide (show an ≤ 1000000 from hB.an)
  obtain ⟨sj, hsj⟩ : ∃ s, s = sumE E id (fun _ => true) jn := ⟨_, rfl⟩
  obtain ⟨sh, hsh⟩ : ∃ s, s = hsm h id day hn := ⟨_, rfl⟩
  have HOF := hide (fun (W : World) (h : Jrn W jA jn E) => by have t := of_any jA jn jc E id hj W h; rw [← hsj] at t; exact t)
  have HTO := hide (fun (W : World) (hh : RowHld W hA hn h) => by have t := total_any hA hn hc h id day hhn W hh; rw [← hsh] at t; exact t)
  dsimp only
  cases hf : fndA a id an with
  | none =>
    have HF := hide (getA_no hf)
    have HE := hide (show clsE a an E jn h hn id day = 11 from if_pos HF.out.2.1)
    have HIY := hide (fun (W : World) (h : RowAcc W aA an a) => by have t := HIX.out W h; rw [HF.out.2.2] at t; exact t)
    clear hi0 hi1 hi2 hi3 hi4 hz0 hz1 hz2 hz3 hB hi hX hw hJ hH h18 h19 h20 hsj hsh hj hhn hf
    go_enter Tryd.func26, Tryd.ntmps26
    go_wp2_with (first
      | (with_reducible refine wpList_alloc_row rfl 41 rfl (some 6) rfl i0 HI.out.1 Z HI.out.2 (w.heap.size + 1) (by simp) ?_)
      | (with_reducible refine wpList_load_row rfl 41 (.tmp 3) rfl w.heap.size rfl 41 X (0, 0) _ (two_boxes _ _ _) Tryd.underlying41 rfl HXS.out ?_))
    refine (HIY.out _ (HR.out.below (by (repeat (first | (with_reducible first | exact Below.refl _ _ | assumption | refine Below.drew ?_) | ((with_reducible first | refine Below.alloc ?_ ?_ _ | refine Below.setCell ?_ ?_ _); rotate_left; (first | omega | (simp <;> omega)))))))).mono ?_
    rintro e w1 ⟨rfl, hb⟩
    have HR1 := hide (blk_below hb (by simp) (blk_new (k := w.heap.size + 1) (by simp)))
    have HB1 := hide (show Below w.heap.size w w1 from Below.trans (by (repeat (first | (with_reducible first | exact Below.refl _ _ | assumption | refine Below.drew ?_) | ((with_reducible first | refine Below.alloc ?_ ?_ _ | refine Below.setCell ?_ ?_ _); rotate_left; (first | omega | (simp <;> omega)))))) (hb.mono (by simp; omega)))
    clear hb
    go_wp2_with (first
      | ((with_reducible refine Go.wpList_buildTo rfl 41 #[] rfl (some 16) rfl ZB ?_ ?_); (focus (refine Eq.trans (congrArg _ ?_) HZB.out; simp [Act.eval])))
      | ((with_reducible refine wpList_store_newrow2 rfl 41 (.tmp 6) (.tmp 16) rfl rfl (w.heap.size + 1) ZB rfl rfl 41 Z HR1.out (zb_size HZBS.out) (by rw [HZS.out, HZBS.out]) HZBO.out ?_); intro w9 hb9 hs9 hx9 hk9))
    refine bodyPost_ret (v := .tuple #[.agg ZB, .int .i64 11]) (results_row_tmp (fn := Tryd.f26) rfl _ _ (w.heap.size + 1) 41 ZB (0, 0) _ rfl hx9 _ rfl Tryd.underlying41 rfl (zb_size HZBS.out)) rfl ?_
    exact ⟨ZB, by rw [HE.out], by rw [HE.out, if_neg (by decide), HZBE.out]; exact zb_rd, HB1.out.trans (Below.trans (by (repeat (first | (with_reducible first | exact Below.refl _ _ | assumption | refine Below.drew ?_) | ((with_reducible first | refine Below.alloc ?_ ?_ _ | refine Below.setCell ?_ ?_ _); rotate_left; (first | omega | (simp <;> omega)))))) (hb9.mono (by omega)))⟩
  | some k =>
    obtain ⟨hk, hid, hfst⟩ := fndA_some hf
    have HF := hide (getA_yes hf)
    have HIY := hide (fun (W : World) (h : RowAcc W aA an a) => by have t := HIX.out W h; rw [HF.out.2.2] at t; exact t)
    have HIN := hide (show idxN a id an = k from by unfold idxN; rw [hf])
    obtain ⟨x, hx⟩ : ∃ x, x = a k := ⟨_, rfl⟩
    have HCE := hide (show clsE a an E jn h hn id day = if x.cl ≠ 0 then 16 else if day < 1 ∨ vday day = false ∨ day < x.op then 1 else if sj ≠ 0 ∨ sh ≠ 0 then 17 else 0 from by
      unfold clsE; rw [if_neg (by rw [HF.out.2.1]; decide), HF.out.1, ← hx, ← hsj, ← hsh])
    have HK := hide hk
    have HXK := hide hx
    have hk0 : (0 : Int) ≤ k := by omega
    have hkI : (k : Int) < an := by omega
    have hkd : decide ((k : Int) < 0) = false := decide_eq_false (by omega)
    have hkn : ¬ (k : Int) < 0 := by omega
    obtain ⟨vd, hvd⟩ : ∃ v, v = vday day := ⟨_, rfl⟩
    have HVD := hide (fun (W : World) => by have t := valid_any day W; rw [← hvd] at t; exact t)
    rw [← hvd] at HCE
    clear hi0 hi1 hi2 hi3 hi4 hz0 hz1 hz2 hz3 hB hi hX hw hJ hH h18 h19 h20 hsj hsh hj hhn hf hid hfst hk hx hvd
    rw [HIN.out]
    have h18 := H18.out
    have h19 := H19.out
    have h20 := H20.out
    go_enter Tryd.func26, Tryd.ntmps26
    go_wp2_with (first
      | (with_reducible refine wpList_alloc_row rfl 41 rfl (some 6) rfl i0 HI.out.1 Z HI.out.2 (w.heap.size + 1) (by simp) ?_)
      | (with_reducible refine wpList_load_row rfl 41 (.tmp 3) rfl w.heap.size rfl 41 X (0, 0) _ (two_boxes _ _ _) Tryd.underlying41 rfl HXS.out ?_))
    refine (HIY.out _ (HR.out.below (by (repeat (first | (with_reducible first | exact Below.refl _ _ | assumption | refine Below.drew ?_) | ((with_reducible first | refine Below.alloc ?_ ?_ _ | refine Below.setCell ?_ ?_ _); rotate_left; (first | omega | (simp <;> omega)))))))).mono ?_
    rintro e w1 ⟨rfl, hb⟩
    have HR1 := hide (blk_below hb (by simp) (blk_new (k := w.heap.size + 1) (by simp)))
    have HX1 := hide (blk_below hb (by simp; omega) (two_boxes _ _ _))
    have HB1 := hide (show Below w.heap.size w w1 from Below.trans (by (repeat (first | (with_reducible first | exact Below.refl _ _ | assumption | refine Below.drew ?_) | ((with_reducible first | refine Below.alloc ?_ ?_ _ | refine Below.setCell ?_ ?_ _); rotate_left; (first | omega | (simp <;> omega)))))) (hb.mono (by simp; omega)))
    obtain ⟨b, off, rfl, hbl, c0, c1, c2, c3, c4, c5, c6⟩ := (HR.out.below HB1.out).at HK.out
    rw [← HXK.out] at c0 c1 c2 c3 c4 c5 c6
    have q1B : Below w.heap.size w w1 := (by refine Below.trans ?_ (hb.mono (by first | omega | (simp <;> omega))); (repeat (first | (with_reducible first | exact Below.refl _ _ | assumption | refine Below.drew ?_) | ((with_reducible first | refine Below.alloc ?_ ?_ _ | refine Below.setCell ?_ ?_ _); rotate_left; (first | omega | (simp <;> omega))))))
    have q1z := hb.size
    try simp at q1z
    have q1t : w.heap.size ≤ w1.heap.size := (by omega)
    have q1s0 : w.heap.size < w1.heap.size := (by omega)
    have q1n0_0 : ¬ w1.heap.size = w.heap.size := (by omega)
    have q1n0_1 : ¬ w1.heap.size + 1 = w.heap.size := (by omega)
    have q1n0_2 : ¬ w1.heap.size + 2 = w.heap.size := (by omega)
    have q1c0_18 := hb.cell (p := ⟨w.heap.size, 18, none⟩) (by first | omega | (simp <;> omega))
    simp [go_sem, *] at q1c0_18
    have q1c0_19 := hb.cell (p := ⟨w.heap.size, 19, none⟩) (by first | omega | (simp <;> omega))
    simp [go_sem, *] at q1c0_19
    have q1c0_20 := hb.cell (p := ⟨w.heap.size, 20, none⟩) (by first | omega | (simp <;> omega))
    simp [go_sem, *] at q1c0_20
    have q1f0 := fun o => hb.frozen (p := ⟨w.heap.size, o, none⟩) (by first | omega | (simp <;> omega))
    simp [go_sem, *] at q1f0
    have q1o : ∀ b o, b < w.heap.size → w1.cell? ⟨b, o, none⟩ = w.cell? ⟨b, o, none⟩ := fun b o h => q1B.cell (p := ⟨b, o, none⟩) h
    clear hb
    have hz1 : w.heap.size + 1 < w1.heap.size := by have := heap_lt HR1.out; exact this
    clear h18 h19 h20
    have HR1a := hide (blk_under (o := .cells #[.int .i64 x.id, .int .i64 x.op, .int .i64 x.cl, .int .i64 x.ex, .string x.ow, .string x.pr, .string x.nu] 44) HR1.out)
    cases g1 : (x.cl == 0) with
    | false =>
      have hn1 : (x.cl != 0) = true := by unfold bne; rw [g1]; rfl
      have HE := hide (show clsE a an E jn h hn id day = 16 from by rw [HCE.out, if_pos (by simpa using g1)])
      clear g1
      go_wp2_with (first
        | ((with_reducible refine Go.wpList_buildTo rfl 41 #[] rfl (some 26) rfl ZB ?_ ?_); (focus (refine Eq.trans (congrArg _ ?_) HZB.out; simp [Act.eval])))
        | ((with_reducible refine wpList_store_newrow2 rfl 41 (.tmp 6) (.tmp 26) rfl rfl (w.heap.size + 1) ZB rfl rfl 41 Z HR1a.out (zb_size HZBS.out) (by rw [HZS.out, HZBS.out]) HZBO.out ?_); intro w9 hb9 hs9 hx9 hk9))
      refine bodyPost_ret (v := .tuple #[.agg ZB, .int .i64 16]) (results_row_tmp (fn := Tryd.f26) rfl _ _ (w.heap.size + 1) 41 ZB (0, 0) _ rfl hx9 _ rfl Tryd.underlying41 rfl (zb_size HZBS.out)) rfl ?_
      exact ⟨ZB, by rw [HE.out], by rw [HE.out, if_neg (by decide), HZBE.out]; exact zb_rd, HB1.out.trans (Below.trans (by (repeat (first | (with_reducible first | exact Below.refl _ _ | assumption | refine Below.drew ?_) | ((with_reducible first | refine Below.alloc ?_ ?_ _ | refine Below.setCell ?_ ?_ _); rotate_left; (first | omega | (simp <;> omega)))))) (hb9.mono (by omega)))⟩
    | true =>
      have hn1 : (x.cl != 0) = false := by unfold bne; rw [g1]; rfl
      have HC2 := hide (show clsE a an E jn h hn id day = if day < 1 ∨ vd = false ∨ day < x.op then 1 else if sj ≠ 0 ∨ sh ≠ 0 then 17 else 0 from by rw [HCE.out, if_neg (by simpa using g1)])
      clear g1 HCE
      by_cases g2 : day < 1
      · have d2 : decide (day < 1) = true := decide_eq_true g2
        have HE := hide (show clsE a an E jn h hn id day = 1 from by rw [HC2.out, if_pos (.inl g2)])
        clear g2
        go_wp2_with (first
          | ((with_reducible refine Go.wpList_buildTo rfl 41 #[] rfl (some 41) rfl ZB ?_ ?_); (focus (refine Eq.trans (congrArg _ ?_) HZB.out; simp [Act.eval])))
          | ((with_reducible refine wpList_store_newrow2 rfl 41 (.tmp 6) (.tmp 41) rfl rfl (w.heap.size + 1) ZB rfl rfl 41 Z HR1a.out (zb_size HZBS.out) (by rw [HZS.out, HZBS.out]) HZBO.out ?_); intro w9 hb9 hs9 hx9 hk9))
        refine bodyPost_ret (v := .tuple #[.agg ZB, .int .i64 1]) (results_row_tmp (fn := Tryd.f26) rfl _ _ (w.heap.size + 1) 41 ZB (0, 0) _ rfl hx9 _ rfl Tryd.underlying41 rfl (zb_size HZBS.out)) rfl ?_
        exact ⟨ZB, by rw [HE.out], by rw [HE.out, if_neg (by decide), HZBE.out]; exact zb_rd, HB1.out.trans (Below.trans (by (repeat (first | (with_reducible first | exact Below.refl _ _ | assumption | refine Below.drew ?_) | ((with_reducible first | refine Below.alloc ?_ ?_ _ | refine Below.setCell ?_ ?_ _); rotate_left; (first | omega | (simp <;> omega)))))) (hb9.mono (by omega)))⟩
      have d2 : decide (day < 1) = false := decide_eq_false g2
      cases vd with
      | false =>
        have HE := hide (show clsE a an E jn h hn id day = 1 from by rw [HC2.out, if_pos (.inr (.inl rfl))])
        have g2n := Int.not_lt.1 g2
        clear g2 g2n
        go_wp2_with fail
        refine (HVD.out _).mono ?_
        rintro e w2 ⟨rfl, rfl⟩
        go_wp2_with (first
          | ((with_reducible refine Go.wpList_buildTo rfl 41 #[] rfl (some 41) rfl ZB ?_ ?_); (focus (refine Eq.trans (congrArg _ ?_) HZB.out; simp [Act.eval])))
          | ((with_reducible refine wpList_store_newrow2 rfl 41 (.tmp 6) (.tmp 41) rfl rfl (w.heap.size + 1) ZB rfl rfl 41 Z HR1a.out (zb_size HZBS.out) (by rw [HZS.out, HZBS.out]) HZBO.out ?_); intro w9 hb9 hs9 hx9 hk9))
        refine bodyPost_ret (v := .tuple #[.agg ZB, .int .i64 1]) (results_row_tmp (fn := Tryd.f26) rfl _ _ (w.heap.size + 1) 41 ZB (0, 0) _ rfl hx9 _ rfl Tryd.underlying41 rfl (zb_size HZBS.out)) rfl ?_
        exact ⟨ZB, by rw [HE.out], by rw [HE.out, if_neg (by decide), HZBE.out]; exact zb_rd, HB1.out.trans (Below.trans (by (repeat (first | (with_reducible first | exact Below.refl _ _ | assumption | refine Below.drew ?_) | ((with_reducible first | refine Below.alloc ?_ ?_ _ | refine Below.setCell ?_ ?_ _); rotate_left; (first | omega | (simp <;> omega)))))) (hb9.mono (by omega)))⟩
      | true =>
        by_cases g3 : day < x.op
        · have d3 : decide (day < x.op) = true := decide_eq_true g3
          have HE := hide (show clsE a an E jn h hn id day = 1 from by rw [HC2.out, if_pos (.inr (.inr g3))])
          clear g2 g3
          go_wp2_with fail
          refine (HVD.out _).mono ?_
          rintro e w2 ⟨rfl, rfl⟩
          go_wp2_with (first
            | ((with_reducible refine Go.wpList_buildTo rfl 41 #[] rfl (some 41) rfl ZB ?_ ?_); (focus (refine Eq.trans (congrArg _ ?_) HZB.out; simp [Act.eval])))
            | ((with_reducible refine wpList_store_newrow2 rfl 41 (.tmp 6) (.tmp 41) rfl rfl (w.heap.size + 1) ZB rfl rfl 41 Z HR1a.out (zb_size HZBS.out) (by rw [HZS.out, HZBS.out]) HZBO.out ?_); intro w9 hb9 hs9 hx9 hk9))
          refine bodyPost_ret (v := .tuple #[.agg ZB, .int .i64 1]) (results_row_tmp (fn := Tryd.f26) rfl _ _ (w.heap.size + 1) 41 ZB (0, 0) _ rfl hx9 _ rfl Tryd.underlying41 rfl (zb_size HZBS.out)) rfl ?_
          exact ⟨ZB, by rw [HE.out], by rw [HE.out, if_neg (by decide), HZBE.out]; exact zb_rd, HB1.out.trans (Below.trans (by (repeat (first | (with_reducible first | exact Below.refl _ _ | assumption | refine Below.drew ?_) | ((with_reducible first | refine Below.alloc ?_ ?_ _ | refine Below.setCell ?_ ?_ _); rotate_left; (first | omega | (simp <;> omega)))))) (hb9.mono (by omega)))⟩
        have d3 : decide (day < x.op) = false := decide_eq_false g3
        have HC3 := hide (show clsE a an E jn h hn id day = if sj ≠ 0 ∨ sh ≠ 0 then 17 else 0 from by rw [HC2.out, if_neg (by intro h; rcases h with h | h | h; exact g2 h; cases h; exact g3 h)])
        clear g2 g3 HC2
        go_wp2_with fail
        refine (HVD.out _).mono ?_
        rintro e w2 ⟨rfl, rfl⟩
        go_wp2_with fail
        refine (HOF.out _ (HJ.out.below (HB1.out.trans (by (repeat (first | (with_reducible first | exact Below.refl _ _ | assumption | refine Below.drew ?_) | ((with_reducible first | refine Below.alloc ?_ ?_ _ | refine Below.setCell ?_ ?_ _); rotate_left; (first | omega | (simp <;> omega))))))))).mono ?_
        rintro e w2 ⟨rfl, hb⟩
        have HR2 := hide (blk_below hb (by simp; omega) HR1a.out)
        have HX2 := hide (blk_below hb (by simp; omega) (blk_under HX1.out))
        have q2B : Below w1.heap.size w1 w2 := (by refine Below.trans ?_ (hb.mono (by first | omega | (simp <;> omega))); (repeat (first | (with_reducible first | exact Below.refl _ _ | assumption | refine Below.drew ?_) | ((with_reducible first | refine Below.alloc ?_ ?_ _ | refine Below.setCell ?_ ?_ _); rotate_left; (first | omega | (simp <;> omega))))))
        have q2z := hb.size
        try simp at q2z
        have q2t : w1.heap.size ≤ w2.heap.size := (by omega)
        have q2s0 : w.heap.size < w2.heap.size := (by omega)
        have q2n0_0 : ¬ w2.heap.size = w.heap.size := (by omega)
        have q2n0_1 : ¬ w2.heap.size + 1 = w.heap.size := (by omega)
        have q2n0_2 : ¬ w2.heap.size + 2 = w.heap.size := (by omega)
        have q2c0_18 := hb.cell (p := ⟨w.heap.size, 18, none⟩) (by first | omega | (simp <;> omega))
        simp [go_sem, *] at q2c0_18
        have q2c0_19 := hb.cell (p := ⟨w.heap.size, 19, none⟩) (by first | omega | (simp <;> omega))
        simp [go_sem, *] at q2c0_19
        have q2c0_20 := hb.cell (p := ⟨w.heap.size, 20, none⟩) (by first | omega | (simp <;> omega))
        simp [go_sem, *] at q2c0_20
        have q2f0 := fun o => hb.frozen (p := ⟨w.heap.size, o, none⟩) (by first | omega | (simp <;> omega))
        simp [go_sem, *] at q2f0
        have q2o : ∀ b o, b < w1.heap.size → w2.cell? ⟨b, o, none⟩ = w1.cell? ⟨b, o, none⟩ := fun b o h => q2B.cell (p := ⟨b, o, none⟩) h
        clear hb q1o q1f0 q1c0_20 q1c0_19 q1c0_18 q1s0 q1z q1B
        have HB2 := hide (HB1.out.trans (q2B.mono (by omega)))
        have zB2 := HB2.out.size
        have hz2 : w.heap.size + 1 < w2.heap.size := heap_lt HR2.out
        cases g4 : (sj == 0) with
        | false =>
          have hn4 : (sj != 0) = true := by unfold bne; rw [g4]; rfl
          have HE := hide (show clsE a an E jn h hn id day = 17 from by rw [HC3.out, if_pos (.inl (by simpa using g4))])
          clear g4
          go_wp2_with (first
            | ((with_reducible refine Go.wpList_buildTo rfl 41 #[] rfl (some 56) rfl ZB ?_ ?_); (focus (refine Eq.trans (congrArg _ ?_) HZB.out; simp [Act.eval])))
            | ((with_reducible refine wpList_store_newrow2 rfl 41 (.tmp 6) (.tmp 56) rfl rfl (w.heap.size + 1) ZB rfl rfl 41 Z HR2.out (zb_size HZBS.out) (by rw [HZS.out, HZBS.out]) HZBO.out ?_); intro w9 hb9 hs9 hx9 hk9))
          refine bodyPost_ret (v := .tuple #[.agg ZB, .int .i64 17]) (results_row_tmp (fn := Tryd.f26) rfl _ _ (w.heap.size + 1) 41 ZB (0, 0) _ rfl hx9 _ rfl Tryd.underlying41 rfl (zb_size HZBS.out)) rfl ?_
          exact ⟨ZB, by rw [HE.out], by rw [HE.out, if_neg (by decide), HZBE.out]; exact zb_rd, HB2.out.trans (Below.trans (by (repeat (first | (with_reducible first | exact Below.refl _ _ | assumption | refine Below.drew ?_) | ((with_reducible first | refine Below.alloc ?_ ?_ _ | refine Below.setCell ?_ ?_ _); rotate_left; (first | omega | (simp <;> omega)))))) (hb9.mono (by omega)))⟩
        | true =>
          have hn4 : (sj != 0) = false := by unfold bne; rw [g4]; rfl
          have HG4 := hide g4
          clear g4
          go_wp2_with fail
          refine (HTO.out _ (HH.out.below (HB2.out.trans (by (repeat (first | (with_reducible first | exact Below.refl _ _ | assumption | refine Below.drew ?_) | ((with_reducible first | refine Below.alloc ?_ ?_ _ | refine Below.setCell ?_ ?_ _); rotate_left; (first | omega | (simp <;> omega))))))))).mono ?_
          rintro e w3 ⟨rfl, hb⟩
          have HR3 := hide (blk_below hb (by first | omega | (simp <;> omega)) HR2.out)
          have HX3 := hide (blk_below hb (by first | omega | (simp <;> omega)) HX2.out)
          have q3B : Below w2.heap.size w2 w3 := (by refine Below.trans ?_ (hb.mono (by first | omega | (simp <;> omega))); (repeat (first | (with_reducible first | exact Below.refl _ _ | assumption | refine Below.drew ?_) | ((with_reducible first | refine Below.alloc ?_ ?_ _ | refine Below.setCell ?_ ?_ _); rotate_left; (first | omega | (simp <;> omega))))))
          have q3z := hb.size
          try simp at q3z
          have q3t : w2.heap.size ≤ w3.heap.size := (by omega)
          have q3s0 : w.heap.size < w3.heap.size := (by omega)
          have q3n0_0 : ¬ w3.heap.size = w.heap.size := (by omega)
          have q3n0_1 : ¬ w3.heap.size + 1 = w.heap.size := (by omega)
          have q3n0_2 : ¬ w3.heap.size + 2 = w.heap.size := (by omega)
          have q3c0_18 := hb.cell (p := ⟨w.heap.size, 18, none⟩) (by first | omega | (simp <;> omega))
          simp [go_sem, *] at q3c0_18
          have q3f0 := fun o => hb.frozen (p := ⟨w.heap.size, o, none⟩) (by first | omega | (simp <;> omega))
          simp [go_sem, *] at q3f0
          have q3o : ∀ b o, b < w2.heap.size → w3.cell? ⟨b, o, none⟩ = w2.cell? ⟨b, o, none⟩ := fun b o h => q3B.cell (p := ⟨b, o, none⟩) h
          clear hb q2o q2f0 q2c0_20 q2c0_19 q2c0_18 q2s0 q2z q2B
          have HB3 := hide (HB2.out.trans (q3B.mono (by omega)))
          have zB3 := HB3.out.size
          have hz3 : w.heap.size + 1 < w3.heap.size := heap_lt HR3.out
          cases g5 : (sh == 0) with
          | false =>
            have hn5 : (sh != 0) = true := by unfold bne; rw [g5]; rfl
            have HE := hide (show clsE a an E jn h hn id day = 17 from by rw [HC3.out, if_pos (.inr (by simpa using g5))])
            clear g5
            go_wp2_with (first
              | ((with_reducible refine Go.wpList_buildTo rfl 41 #[] rfl (some 56) rfl ZB ?_ ?_); (focus (refine Eq.trans (congrArg _ ?_) HZB.out; simp [Act.eval])))
              | ((with_reducible refine wpList_store_newrow2 rfl 41 (.tmp 6) (.tmp 56) rfl rfl (w.heap.size + 1) ZB rfl rfl 41 Z HR3.out (zb_size HZBS.out) (by rw [HZS.out, HZBS.out]) HZBO.out ?_); intro w9 hb9 hs9 hx9 hk9))
            refine bodyPost_ret (v := .tuple #[.agg ZB, .int .i64 17]) (results_row_tmp (fn := Tryd.f26) rfl _ _ (w.heap.size + 1) 41 ZB (0, 0) _ rfl hx9 _ rfl Tryd.underlying41 rfl (zb_size HZBS.out)) rfl ?_
            exact ⟨ZB, by rw [HE.out], by rw [HE.out, if_neg (by decide), HZBE.out]; exact zb_rd, HB3.out.trans (Below.trans (by (repeat (first | (with_reducible first | exact Below.refl _ _ | assumption | refine Below.drew ?_) | ((with_reducible first | refine Below.alloc ?_ ?_ _ | refine Below.setCell ?_ ?_ _); rotate_left; (first | omega | (simp <;> omega)))))) (hb9.mono (by omega)))⟩
          | true =>
            have hn5 : (sh != 0) = false := by unfold bne; rw [g5]; rfl
            have HE := hide (show clsE a an E jn h hn id day = 0 from by rw [HC3.out, if_neg (by have h4 := HG4.out; simp at h4 g5; simp [h4, g5])])
            clear g5
            go_wp2_with (with_reducible refine wpList_load_row rfl 41 (.tmp 3) rfl w.heap.size rfl 41 X (0, 0) _ HX3.out Tryd.underlying41 rfl HXS.out ?_)
            refine (books_any ck HW.out w3 X (HX.out.below HB3.out)).mono ?_
            rintro r w4 ⟨D, A, n, cap, c, R, rfl, hD, hD18, hc18, hcap, hk18, hown, hR, hAv, hb⟩
            have HNN := hide (show n = an from by
              have t := H18.out
              have u := (HX.out.rd 18 (by decide))
              rw [hc18, getD_of t] at u
              obtain ⟨_, _, _, e1, _⟩ := u
              injection e1 with _ e2 _
              exact e2.symm)
            rcases hown.2 with ⟨_, h0⟩ | ⟨g, cap', cur, hv, hg, hh, hnc, hnc2, hsz, htk⟩
            · exfalso
              have := HNN.out
              have := HK.out
              omega
            injection hv with e1 _ e3
            subst e1 e3
            have HD := hide hD
            have HDS := hide (show D.size = 22 from hD.size)
            have HDI := hide (zb_size (C := D) hD.size)
            have HD18 := hide hD18
            have HC18 := hide hc18
            have HK18 := hide hk18
            have HCAP := hide hcap
            have HRK := hide hR
            have HAV := hide hAv
            have HB4 := hide hb
            have HG := hide hh
            have HGG := hide (show w3.heap.size ≤ g ∧ g < w4.heap.size from ⟨hg, heap_lt hh⟩)
            have HTK := hide htk
            have hz4 := hb.size
            have HR4 := hide (blk_below hb (by omega) HR3.out)
            have hlen : k * 7 + 2 < cur.size := by
              have f1 := congrArg List.length htk
              rw [rowA_len (fun i hi => (hR i hi).size)] at f1
              rw [List.length_take] at f1
              have := HNN.out
              have := HK.out
              simp at f1
              have : n * (tbl 9).length = n * 7 := rfl
              omega
            have HLEN := hide hlen
            have hn7 : (n : Int) = an := by rw [HNN.out]
            clear hD hD18 hc18 hcap hk18 hown hR hAv hb hh hg hnc hnc2 hsz htk hlen
            have hkn2 : (k : Int) < n := by rw [hn7]; exact hkI
            obtain ⟨v0, hv0⟩ : ∃ v0, cur[k * 7 + 2]? = some v0 := ⟨_, Array.getElem?_eq_getElem HLEN.out⟩
            have HV0 := hide hv0
            have hgw : g < w4.heap.size := HGG.out.2
            have hgne : ¬ g = w4.heap.size := by omega
            clear hv0
            go_wp2_with (first
              | (with_reducible refine wpList_alloc_row rfl 41 rfl (some 10) rfl i0 HI.out.1 Z HI.out.2 w4.heap.size rfl ?_)
              | ((with_reducible refine wpList_store_newrow2 rfl 41 (.tmp 10) (.tmp 58) rfl rfl w4.heap.size D rfl rfl 41 Z (blk_new rfl) HDI.out (by rw [HZS.out, HDS.out]) HD.out.ones ?_); intro w5 hb5 hs5 hx5 hk5; have HX5 := hide hx5; have HB5 := hide (show Below w4.heap.size w4 w5 from Below.trans (by (repeat (first | (with_reducible first | exact Below.refl _ _ | assumption | refine Below.drew ?_) | ((with_reducible first | refine Below.alloc ?_ ?_ _ | refine Below.setCell ?_ ?_ _); rotate_left; (first | omega | (simp <;> omega)))))) hb5); have HR5 := hide (blk_below HB5.out (by omega) HR4.out); have HG5 := hide (blk_below HB5.out hgw HG.out); have hz5 : w5.heap.size = w4.heap.size + 1 := (by rw [hs5]; simp); have g18 := (cell_of_cells hx5 18).trans HD18.out; have gv := (cell_of_cells HG5.out (k * 7 + 2)).trans HV0.out; have gf := free_of_cells HG5.out; clear hb5 hs5 hx5 hk5)
              | (with_reducible refine wpList_load_row rfl 41 (.tmp 10) rfl w4.heap.size rfl 41 D (0, 0) _ (blk_setOther (by simp; omega) HX5.out) Tryd.underlying41 rfl HDI.out ?_)
              | ((with_reducible refine wpList_store_newrow2 rfl 41 (.tmp 6) (.tmp 65) rfl rfl (w.heap.size + 1) D rfl rfl 41 Z (blk_setOther (by have := HGG.out.1; simp; omega) HR5.out) HDI.out (by rw [HZS.out, HDS.out]) HD.out.ones ?_); intro w9 hb9 hs9 hx9 hk9))
            refine bodyPost_ret (v := .tuple #[.agg D, .int .i64 0]) (results_row_tmp (fn := Tryd.f26) rfl _ _ (w.heap.size + 1) 41 D (0, 0) _ rfl hx9 _ rfl Tryd.underlying41 rfl HDI.out) rfl ?_
            have hs9' : w9.heap.size = w5.heap.size := by rw [hs9]; simp
            have hxg : w9.heap[g]? = some (.cells (cur.setIfInBounds (k * 7 + 2) (.int .i64 day)) 44 (0, 0)) := (hk9 g (by have := HGG.out.1; omega)).trans (blk_setCell HG5.out)
            have EL := close_fin (k := k) (day := day) HDS.out HD.out.ones HC18.out HK18.out HD18.out HCAP.out HRK.out HAV.out (by omega) (fun b h1 h2 h3 => by
              refine (hk9 b (by omega)).trans ?_
              refine (Go.Deep.blk_setCell_other _ _ _ _ (by simpa using h3)).trans ?_
              exact HB5.out.block b h2) (by rw [HNN.out]; exact HK.out) HTK.out HGG.out hxg
            refine ⟨D, by rw [HE.out], by rw [HE.out, if_pos rfl]; exact EL.mono (fun b h => ⟨by have := h.1; omega, h.2⟩) (fun _ _ => rfl), ?_⟩
            refine HB3.out.trans (((HB4.out.mono zB3).trans ((HB5.out.mono (by omega)).trans ?_)))
            refine Below.trans ?_ (hb9.mono (by omega))
            have := HGG.out.1
            (repeat (first | (with_reducible first | exact Below.refl _ _ | assumption | refine Below.drew ?_) | ((with_reducible first | refine Below.alloc ?_ ?_ _ | refine Below.setCell ?_ ?_ _); rotate_left; (first | omega | (simp <;> omega)))))
end Go.Proofs.YtdjhkhadjmndoaaDoor
