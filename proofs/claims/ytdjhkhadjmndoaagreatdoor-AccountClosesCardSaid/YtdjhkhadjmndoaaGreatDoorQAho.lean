/- Texts laid together: Aho. -/
import Derived.Test.YtdjhkhadjmndoaaGreatDoorQAhr
import Derived.Test.YtdjhkhadjmndoaaGreatDoorQAhm
import Derived.Test.YtdjhkhadjmndoaaGreatDoorQAgN
namespace Go.Proofs.YtdjhkhadjmndoaaGreatDoor
set_option maxRecDepth 4000
set_option linter.unusedSimpArgs false
set_option linter.unusedVariables false
open Go.RowKit
theorem acc_cells {S : Nat → Prop} {w : World} {A : Option Addr} {n : Nat} {a : Nat → LAcc} {c : Nat → Nat → Tr} {C : Nat → Nat → Value} (h1 : RowAcc w A n a) (h2 : RowT S w 9 A n c C) {k j : Nat} (hk : k < n) (hj : j < 7) : C k j = accC (a k) j := by
  obtain ⟨b, off, e, _, hc⟩ := RowS.at h1 hk
  obtain ⟨b2, off2, e2, _, hc2⟩ := h2.row (by omega)
  rw [e] at e2
  injection e2 with e2
  injection e2 with e3 e4
  subst e3 e4
  have t := hc j hj
  rw [Nat.add_assoc] at t
  exact Option.some.inj ((hc2 k j hk hj).symm.trans t)
/-- Books whose accounts are a row of the call's own, one cell of which is written. -/
theorem rclose_fin {w w9 : World} {N g k n cap : Nat} {X cur : Array Value} {A : Option Addr} {c : Nat → Nat → Tr} {C18 : Nat → Nat → Value} {ck : Nat → Tr} {t : TypeId} {day : Int} (hX : ElT (Old w) w 15 ck X) (hb : Below w.heap.size w w9) (hc : ck 18 = .row n 7 c) (hk : RowK 9 n c)
    (hr : RowT (Old w) w 9 A n c C18) (hN : w.heap.size ≤ N) (hcap : n ≤ cap) (hkn : k < n) (hcur : cur.toList.take (n * 7) = rowA (elA 9 C18) n) (hg : N ≤ g ∧ g < w9.heap.size) (hx : w9.heap[g]? = some (.cells (cur.setIfInBounds (k * 7 + 2) (.int .i64 day)) t (0, 0))) :
    ElT (Old w9) w9 15 (clT ck k day) (X.setIfInBounds 18 (.slice (some ⟨g, 0, none⟩) n cap)) := by
  have h := close_fin (w2 := w9) (w9 := w9) (N := 0) (D := X.setIfInBounds 18 (.slice (some ⟨g, 0, none⟩) n cap)) (R := elA 9 C18) (ck := ck) (by rw [Array.size_setIfInBounds]; exact hX.size) (all_setZ hX.ones rfl) hc hk (set_eq hX.size (by decide)) hcap (fun k hkn => ?_) (fun j hj h18 => ?_) (Nat.le_refl _) (fun _ _ _ _ => rfl) hkn hcur ⟨Nat.zero_le _, hg.2⟩ hx
  · exact h.mono (fun b hb => hb.2) (fun _ _ => rfl)
  · exact ⟨elA_size 9 C18 k, (hr.el hk hkn).ones, fun j hj => by rw [elA_getD _ _ _ _ hj]; exact leaf_any (by decide) hr hk hkn hj⟩
  · have e : (X.setIfInBounds 18 (.slice (some ⟨g, 0, none⟩) n cap)).getD j undef = X.getD j undef := getD_of (set_ne (fun h => h18 h.symm) (getD_at (by rw [show X.size = 22 from hX.size]; exact hj)))
    rw [e]
    exact (hX.rd j hj).mono (fun b hb2 => ⟨⟨Nat.zero_le _, Nat.lt_of_lt_of_le hb2 hb.size⟩, fun e => by
      injection e with e
      have h1 : b < w.heap.size := hb2
      have h2 : g = b := e
      omega⟩) (fun b hb2 => hb.block b hb2)
def RcRet (ck : Nat → Tr) (k : Nat) (day e : Int) (w : World) (r : Ending) (w' : World) : Prop := ∃ D, r = .returned (.tuple #[.agg D, .int .i64 e]) ∧ ElT (Old w') w' 15 (if e = 0 then clT ck k day else zbT) D ∧ Below w.heap.size w w'
def RcI (k0 : Nat) (W : World) (v : Value) (wr : World) : Prop := ∃ k : Nat, k ≤ k0 ∧ v = .int .i64 k ∧ wr = W
set_option maxRecDepth 20000 in
set_option maxHeartbeats 16000000 in
theorem rclose_any (ck : Nat → Tr) (hw : KnOK 15 ck) (B : LBk) (hB : BkOK B) (E : Nat → LEnt) (hj : B.jn ≤ 1000000) (hA : Option Addr) (hn hc : Nat) (h20 : B.C[20]? = some (.slice hA hn hc)) (h : Nat → LHl) (hhn : hn ≤ 1000000) (id day : Int) (w : World) (hX : ElT (Old w) w 15 ck B.C) (hi : BkIn w B) (hJ : Jrn w B.jA B.jn E) (hH : RowHld w hA hn h) :
    Calls Tryz.prog 11 #[.agg B.C, .int .i64 id, .int .i64 day] w (RcRet ck (idxN B.a id B.an) day (clsE B.a B.an E B.jn h hn id day) w) := by
  obtain ⟨X, aA, an, ac, a, jA, jn, jc, pA, pn, pc, P⟩ := B
  have hX : ElT (Old w) w 15 ck X := hX
  obtain ⟨n0, c18, hq18, hk18, A0, cap0, C18, e18, _, hr18⟩ := rd_row (e := 9) (hX.rd 18 (by decide)) (hw 18 (by decide))
  have h18 : X[18]? = some (.slice aA an ac) := hB.bks.acc
  have e18 : X[18]? = some (.slice A0 n0 cap0) := at_eq hX.size (by decide) e18
  rw [h18] at e18
  injection e18 with e18
  injection e18 with e1 e2 e3
  subst e1 e2 e3
  obtain ⟨i0, Z, hi0, hi1, hi2, hi3, hi4⟩ := zb_zero
  obtain ⟨ZB, hz0, hz1, hz2, hz3⟩ := zb_built
  obtain ⟨i9, hf0, hf1, hf2, hf3⟩ := info_parts inf_Acc
  have I0 := hide hf0
  have I1 := hide hf1
  have I2 := hide hf2
  have I3 := hide hf3
  have HI := hide (And.intro hi0 hi1)
  have HZS := hide hi2
  have HZB := hide hz0
  have HZBS := hide hz1
  have HZBO := hide hz2
  have HZBE := hide hz3
  have HXS := hide (zb_size (C := X) hX.size)
  have HX := hide hX
  have HR := hide (show RowAcc w aA an a from hi.acc)
  have HJ := hide (show Jrn w jA jn E from hJ)
  have HH := hide hH
  have h19 : X[19]? = some (.slice jA jn jc) := hB.bks.jou
  have h20 : X[20]? = some (.slice hA hn hc) := h20
  have H18 := hide h18
  have H19 := hide h19
  have H20 := hide h20
  have HQ18 := hide hq18
  have HK18 := hide hk18
  have HR18 := hide hr18
  have HAN := hide (show an ≤ 1000000 from hB.an)
  have HL := hide (rowE_len 9 C18 an)
  have HA := hide (rowE_at 9 C18 an)
  have HO := hide (rowE_one (fun k hk => (hr18.el hk18 hk).ones))
  have HACC := hide (fun (k : Nat) (hk : k < an) => show C18 k 0 = .int .i64 (a k).id from acc_cells hi.acc hr18 hk (show 0 < 7 by decide))
  obtain ⟨sj, hsj⟩ : ∃ s, s = sumE E id (fun _ => true) jn := ⟨_, rfl⟩
  obtain ⟨sh, hsh⟩ : ∃ s, s = hsm h id day hn := ⟨_, rfl⟩
  have HOF := hide (fun (W : World) (h : Jrn W jA jn E) => by have t := rof_any jA jn jc E id hj W h; rw [← hsj] at t; exact t)
  have HTO := hide (fun (W : World) (hh : RowHld W hA hn h) => by have t := rtotal_any hA hn hc h id day hhn W hh; rw [← hsh] at t; exact t)
  obtain ⟨x, hx⟩ : ∃ x, x = getA a id an := ⟨_, rfl⟩
  obtain ⟨fb, hfb⟩ : ∃ b, b = hasA a id an := ⟨_, rfl⟩
  have HFI := hide (fun (W : World) (h : RowAcc W aA an a) => by have t := rfind_any X aA an ac jA jn jc hB.bks a id hB.an W h; rw [← hx, ← hfb] at t; exact t)
  have HFX := hide hx
  have HFB := hide hfb
  have HSJ := hide hsj
  have HSH := hide hsh
  have HPS := hide (fun (A : Option Addr) (n c : Nat) => zb_size (C := X.setIfInBounds 18 (.slice A n c)) (by rw [Array.size_setIfInBounds]; exact hX.size))
  have HPZ := hide (fun (A : Option Addr) (n c : Nat) => show Z.size = (X.setIfInBounds 18 (.slice A n c)).size from by rw [hi2, Array.size_setIfInBounds]; exact hX.size.symm)
  have HPO := hide (fun (A : Option Addr) (n c : Nat) => all_setZ (i := 18) (v := .slice A n c) hX.ones rfl)
  dsimp only
  clear hi0 hi1 hi2 hi3 hi4 hz0 hz1 hz2 hz3 hf0 hf1 hf2 hf3 hi hX hw hJ hH h18 h19 h20 hsj hsh hj hhn hx hfb hB hq18 hk18 hr18
  have h18 := H18.out
  have h19 := H19.out
  have h20 := H20.out
  go_enter Tryz.func11, Tryz.ntmps11
  go_wp2_with (first
    | (with_reducible refine wpList_alloc_row rfl 33 rfl (some 6) rfl i0 HI.out.1 Z HI.out.2 (w.heap.size + 1) (by simp) ?_)
    | (with_reducible refine wpList_load_row rfl 33 (.tmp 3) rfl w.heap.size rfl 33 X (0, 0) _ (two_boxes _ _ _) Tryz.underlying33 rfl HXS.out ?_))
  refine (HFI.out _ (HR.out.below (by (repeat (first | (with_reducible first | exact Below.refl _ _ | assumption | refine Below.drew ?_) | ((with_reducible first | refine Below.alloc ?_ ?_ _ | refine Below.setCell ?_ ?_ _); rotate_left; (first | omega | (simp <;> omega)))))))).mono ?_
  rintro e w1 ⟨rfl, hb⟩
  have HR1 := hide (blk_below hb (by simp) (blk_new (k := w.heap.size + 1) (by simp)))
  have HX1 := hide (blk_below hb (by simp; omega) (two_boxes _ _ _))
  have q1B : Below w.heap.size w w1 := (by refine Below.trans ?_ (hb.mono (by first | omega | (simp <;> omega))); (repeat (first | (with_reducible first | exact Below.refl _ _ | assumption | refine Below.drew ?_) | ((with_reducible first | refine Below.alloc ?_ ?_ _ | refine Below.setCell ?_ ?_ _); rotate_left; (first | omega | (simp <;> omega))))))
  have q1z := hb.size
  try simp at q1z
  have q1t : w.heap.size ≤ w1.heap.size := (by omega)
  have q1s0 : w.heap.size < w1.heap.size := (by omega)
  have q1n0_0 : ¬ w1.heap.size = w.heap.size := (by omega)
  have q1n0_1 : ¬ w1.heap.size + 1 = w.heap.size := (by omega)
  have q1n0_2 : ¬ w1.heap.size + 2 = w.heap.size := (by omega)
  have q1c0_18 := hb.cell (p := ⟨w.heap.size, 18, none⟩) (by first | omega | (simp <;> omega))
  simp [go_sem, *] at q1c0_18
  have q1c0_19 := hb.cell (p := ⟨w.heap.size, 19, none⟩) (by first | omega | (simp <;> omega))
  simp [go_sem, *] at q1c0_19
  have q1c0_20 := hb.cell (p := ⟨w.heap.size, 20, none⟩) (by first | omega | (simp <;> omega))
  simp [go_sem, *] at q1c0_20
  have q1f0 := fun o => hb.frozen (p := ⟨w.heap.size, o, none⟩) (by first | omega | (simp <;> omega))
  simp [go_sem, *] at q1f0
  have q1o : ∀ b o, b < w.heap.size → w1.cell? ⟨b, o, none⟩ = w.cell? ⟨b, o, none⟩ := fun b o h => q1B.cell (p := ⟨b, o, none⟩) h
  clear hb
  have HB1 := hide q1B
  have hz1 : w.heap.size + 1 < w1.heap.size := heap_lt HR1.out
  have HR1a := hide (blk_under (o := .cells #[.int .i64 x.id, .int .i64 x.op, .int .i64 x.cl, .int .i64 x.ex, .string x.ow, .string x.pr, .string x.nu] 35) HR1.out)
  clear h18 h19 h20
  cases fb with
  | false =>
    have HE := hide (show clsE a an E jn h hn id day = 11 from if_pos HFB.out.symm)
    go_wp2_with (first
      | ((with_reducible refine Go.wpList_buildTo rfl 33 #[] rfl (some 20) rfl ZB ?_ ?_); (focus (refine Eq.trans (congrArg _ ?_) HZB.out; simp [Act.eval])))
      | ((with_reducible refine wpList_store_newrow2 rfl 33 (.tmp 6) (.tmp 20) rfl rfl (w.heap.size + 1) ZB rfl rfl 33 Z HR1a.out (zb_size HZBS.out) (by rw [HZS.out, HZBS.out]) HZBO.out ?_); intro w9 hb9 hs9 hx9 hk9))
    refine bodyPost_ret (v := .tuple #[.agg ZB, .int .i64 11]) (results_row_tmp (fn := Tryz.f11) rfl _ _ (w.heap.size + 1) 33 ZB (0, 0) _ rfl hx9 _ rfl Tryz.underlying33 rfl (zb_size HZBS.out)) rfl ?_
    exact ⟨ZB, by rw [HE.out], by rw [HE.out, if_neg (by decide), HZBE.out]; exact zb_rd, HB1.out.trans (Below.trans (by (repeat (first | (with_reducible first | exact Below.refl _ _ | assumption | refine Below.drew ?_) | ((with_reducible first | refine Below.alloc ?_ ?_ _ | refine Below.setCell ?_ ?_ _); rotate_left; (first | omega | (simp <;> omega)))))) (hb9.mono (by first | omega | (simp <;> omega))))⟩
  | true =>
  obtain ⟨k0, hf⟩ : ∃ k, fndA a id an = some k := by
    have t := HFB.out
    unfold hasA at t
    cases h : fndA a id an with
    | none => rw [h] at t; cases t
    | some k => exact ⟨k, rfl⟩
  obtain ⟨hk0, hid, hfst⟩ := fndA_some hf
  have HIN := hide (show idxN a id an = k0 from by unfold idxN; rw [hf])
  have HCE := hide (show clsE a an E jn h hn id day = if x.cl ≠ 0 then 16 else if day < 1 ∨ vday day = false ∨ day < x.op then 1 else if sumE E id (fun _ => true) jn ≠ 0 ∨ hsm h id day hn ≠ 0 then 17 else 0 from by
    unfold clsE; rw [if_neg (by rw [← HFB.out]; decide), ← HFX.out])
  obtain ⟨vd, hvd⟩ : ∃ v, v = vday day := ⟨_, rfl⟩
  have HVD := hide (fun (W : World) => by have t := rvalid_any day W; rw [← hvd] at t; exact t)
  rw [← hvd, ← HSJ.out, ← HSH.out] at HCE
  have HK0 := hide hk0
  have HID := hide hid
  have HFST := hide hfst
  clear hvd hf hk0 hid hfst
  rw [HIN.out]
  cases g1 : (x.cl == 0) with
  | false =>
    have hn1 : (x.cl != 0) = true := by unfold bne; rw [g1]; rfl
    have HE := hide (show clsE a an E jn h hn id day = 16 from by rw [HCE.out, if_pos (by simpa using g1)])
    clear g1
    go_wp2_with (first
      | ((with_reducible refine Go.wpList_buildTo rfl 33 #[] rfl (some 24) rfl ZB ?_ ?_); (focus (refine Eq.trans (congrArg _ ?_) HZB.out; simp [Act.eval])))
      | ((with_reducible refine wpList_store_newrow2 rfl 33 (.tmp 6) (.tmp 24) rfl rfl (w.heap.size + 1) ZB rfl rfl 33 Z HR1a.out (zb_size HZBS.out) (by rw [HZS.out, HZBS.out]) HZBO.out ?_); intro w9 hb9 hs9 hx9 hk9))
    refine bodyPost_ret (v := .tuple #[.agg ZB, .int .i64 16]) (results_row_tmp (fn := Tryz.f11) rfl _ _ (w.heap.size + 1) 33 ZB (0, 0) _ rfl hx9 _ rfl Tryz.underlying33 rfl (zb_size HZBS.out)) rfl ?_
    exact ⟨ZB, by rw [HE.out], by rw [HE.out, if_neg (by decide), HZBE.out]; exact zb_rd, HB1.out.trans (Below.trans (by (repeat (first | (with_reducible first | exact Below.refl _ _ | assumption | refine Below.drew ?_) | ((with_reducible first | refine Below.alloc ?_ ?_ _ | refine Below.setCell ?_ ?_ _); rotate_left; (first | omega | (simp <;> omega)))))) (hb9.mono (by first | omega | (simp <;> omega))))⟩
  | true =>
  have hn1 : (x.cl != 0) = false := by unfold bne; rw [g1]; rfl
  have HC2 := hide (show clsE a an E jn h hn id day = if day < 1 ∨ vd = false ∨ day < x.op then 1 else if sj ≠ 0 ∨ sh ≠ 0 then 17 else 0 from by rw [HCE.out, if_neg (by simpa using g1)])
  clear g1 HCE
  by_cases g2 : day < 1
  · have d2 : decide (day < 1) = true := decide_eq_true g2
    have HE := hide (show clsE a an E jn h hn id day = 1 from by rw [HC2.out, if_pos (.inl g2)])
    clear g2
    go_wp2_with (first
      | ((with_reducible refine Go.wpList_buildTo rfl 33 #[] rfl (some 38) rfl ZB ?_ ?_); (focus (refine Eq.trans (congrArg _ ?_) HZB.out; simp [Act.eval])))
      | ((with_reducible refine wpList_store_newrow2 rfl 33 (.tmp 6) (.tmp 38) rfl rfl (w.heap.size + 1) ZB rfl rfl 33 Z HR1a.out (zb_size HZBS.out) (by rw [HZS.out, HZBS.out]) HZBO.out ?_); intro w9 hb9 hs9 hx9 hk9))
    refine bodyPost_ret (v := .tuple #[.agg ZB, .int .i64 1]) (results_row_tmp (fn := Tryz.f11) rfl _ _ (w.heap.size + 1) 33 ZB (0, 0) _ rfl hx9 _ rfl Tryz.underlying33 rfl (zb_size HZBS.out)) rfl ?_
    exact ⟨ZB, by rw [HE.out], by rw [HE.out, if_neg (by decide), HZBE.out]; exact zb_rd, HB1.out.trans (Below.trans (by (repeat (first | (with_reducible first | exact Below.refl _ _ | assumption | refine Below.drew ?_) | ((with_reducible first | refine Below.alloc ?_ ?_ _ | refine Below.setCell ?_ ?_ _); rotate_left; (first | omega | (simp <;> omega)))))) (hb9.mono (by first | omega | (simp <;> omega))))⟩
  have d2 : decide (day < 1) = false := decide_eq_false g2
  cases vd with
  | false =>
    have HE := hide (show clsE a an E jn h hn id day = 1 from by rw [HC2.out, if_pos (.inr (.inl rfl))])
    clear g2
    go_wp2_with fail
    refine (HVD.out _).mono ?_
    rintro e w2 ⟨rfl, rfl⟩
    go_wp2_with (first
      | ((with_reducible refine Go.wpList_buildTo rfl 33 #[] rfl (some 38) rfl ZB ?_ ?_); (focus (refine Eq.trans (congrArg _ ?_) HZB.out; simp [Act.eval])))
      | ((with_reducible refine wpList_store_newrow2 rfl 33 (.tmp 6) (.tmp 38) rfl rfl (w.heap.size + 1) ZB rfl rfl 33 Z HR1a.out (zb_size HZBS.out) (by rw [HZS.out, HZBS.out]) HZBO.out ?_); intro w9 hb9 hs9 hx9 hk9))
    refine bodyPost_ret (v := .tuple #[.agg ZB, .int .i64 1]) (results_row_tmp (fn := Tryz.f11) rfl _ _ (w.heap.size + 1) 33 ZB (0, 0) _ rfl hx9 _ rfl Tryz.underlying33 rfl (zb_size HZBS.out)) rfl ?_
    exact ⟨ZB, by rw [HE.out], by rw [HE.out, if_neg (by decide), HZBE.out]; exact zb_rd, HB1.out.trans (Below.trans (by (repeat (first | (with_reducible first | exact Below.refl _ _ | assumption | refine Below.drew ?_) | ((with_reducible first | refine Below.alloc ?_ ?_ _ | refine Below.setCell ?_ ?_ _); rotate_left; (first | omega | (simp <;> omega)))))) (hb9.mono (by first | omega | (simp <;> omega))))⟩
  | true =>
  by_cases g3 : day < x.op
  · have d3 : decide (day < x.op) = true := decide_eq_true g3
    have HE := hide (show clsE a an E jn h hn id day = 1 from by rw [HC2.out, if_pos (.inr (.inr g3))])
    clear g2 g3
    go_wp2_with fail
    refine (HVD.out _).mono ?_
    rintro e w2 ⟨rfl, rfl⟩
    go_wp2_with (first
      | ((with_reducible refine Go.wpList_buildTo rfl 33 #[] rfl (some 38) rfl ZB ?_ ?_); (focus (refine Eq.trans (congrArg _ ?_) HZB.out; simp [Act.eval])))
      | ((with_reducible refine wpList_store_newrow2 rfl 33 (.tmp 6) (.tmp 38) rfl rfl (w.heap.size + 1) ZB rfl rfl 33 Z HR1a.out (zb_size HZBS.out) (by rw [HZS.out, HZBS.out]) HZBO.out ?_); intro w9 hb9 hs9 hx9 hk9))
    refine bodyPost_ret (v := .tuple #[.agg ZB, .int .i64 1]) (results_row_tmp (fn := Tryz.f11) rfl _ _ (w.heap.size + 1) 33 ZB (0, 0) _ rfl hx9 _ rfl Tryz.underlying33 rfl (zb_size HZBS.out)) rfl ?_
    exact ⟨ZB, by rw [HE.out], by rw [HE.out, if_neg (by decide), HZBE.out]; exact zb_rd, HB1.out.trans (Below.trans (by (repeat (first | (with_reducible first | exact Below.refl _ _ | assumption | refine Below.drew ?_) | ((with_reducible first | refine Below.alloc ?_ ?_ _ | refine Below.setCell ?_ ?_ _); rotate_left; (first | omega | (simp <;> omega)))))) (hb9.mono (by first | omega | (simp <;> omega))))⟩
  have d3 : decide (day < x.op) = false := decide_eq_false g3
  have HC3 := hide (show clsE a an E jn h hn id day = if sj ≠ 0 ∨ sh ≠ 0 then 17 else 0 from by rw [HC2.out, if_neg (by intro h; rcases h with h | h | h; exact g2 h; cases h; exact g3 h)])
  clear g2 g3 HC2
  go_wp2_with fail
  refine (HVD.out _).mono ?_
  rintro e w2 ⟨rfl, rfl⟩
  go_wp2_with fail
  refine (HOF.out _ (HJ.out.below (HB1.out.trans (by (repeat (first | (with_reducible first | exact Below.refl _ _ | assumption | refine Below.drew ?_) | ((with_reducible first | refine Below.alloc ?_ ?_ _ | refine Below.setCell ?_ ?_ _); rotate_left; (first | omega | (simp <;> omega))))))))).mono ?_
  rintro e w2 ⟨rfl, hb⟩
  have HR2 := hide (blk_below hb (by simp; omega) HR1a.out)
  have HX2 := hide (blk_below hb (by simp; omega) (blk_under HX1.out))
  have q2B : Below w1.heap.size w1 w2 := (by refine Below.trans ?_ (hb.mono (by first | omega | (simp <;> omega))); (repeat (first | (with_reducible first | exact Below.refl _ _ | assumption | refine Below.drew ?_) | ((with_reducible first | refine Below.alloc ?_ ?_ _ | refine Below.setCell ?_ ?_ _); rotate_left; (first | omega | (simp <;> omega))))))
  have q2z := hb.size
  try simp at q2z
  have q2t : w1.heap.size ≤ w2.heap.size := (by omega)
  have q2s0 : w.heap.size < w2.heap.size := (by omega)
  have q2n0_0 : ¬ w2.heap.size = w.heap.size := (by omega)
  have q2n0_1 : ¬ w2.heap.size + 1 = w.heap.size := (by omega)
  have q2n0_2 : ¬ w2.heap.size + 2 = w.heap.size := (by omega)
  have q2c0_18 := hb.cell (p := ⟨w.heap.size, 18, none⟩) (by first | omega | (simp <;> omega))
  simp [go_sem, *] at q2c0_18
  have q2c0_19 := hb.cell (p := ⟨w.heap.size, 19, none⟩) (by first | omega | (simp <;> omega))
  simp [go_sem, *] at q2c0_19
  have q2c0_20 := hb.cell (p := ⟨w.heap.size, 20, none⟩) (by first | omega | (simp <;> omega))
  simp [go_sem, *] at q2c0_20
  have q2f0 := fun o => hb.frozen (p := ⟨w.heap.size, o, none⟩) (by first | omega | (simp <;> omega))
  simp [go_sem, *] at q2f0
  have q2o : ∀ b o, b < w1.heap.size → w2.cell? ⟨b, o, none⟩ = w1.cell? ⟨b, o, none⟩ := fun b o h => q2B.cell (p := ⟨b, o, none⟩) h
  clear hb q1o q1f0 q1c0_20 q1c0_19 q1c0_18 q1s0 q1z q1B
  have HB2 := hide (HB1.out.trans (q2B.mono (by omega)))
  have zB2 := HB2.out.size
  have hz2 : w.heap.size + 1 < w2.heap.size := heap_lt HR2.out
  cases g4 : (sj == 0) with
  | false =>
    have hn4 : (sj != 0) = true := by unfold bne; rw [g4]; rfl
    have HE := hide (show clsE a an E jn h hn id day = 17 from by rw [HC3.out, if_pos (.inl (by simpa using g4))])
    clear g4
    go_wp2_with (first
      | ((with_reducible refine Go.wpList_buildTo rfl 33 #[] rfl (some 52) rfl ZB ?_ ?_); (focus (refine Eq.trans (congrArg _ ?_) HZB.out; simp [Act.eval])))
      | ((with_reducible refine wpList_store_newrow2 rfl 33 (.tmp 6) (.tmp 52) rfl rfl (w.heap.size + 1) ZB rfl rfl 33 Z HR2.out (zb_size HZBS.out) (by rw [HZS.out, HZBS.out]) HZBO.out ?_); intro w9 hb9 hs9 hx9 hk9))
    refine bodyPost_ret (v := .tuple #[.agg ZB, .int .i64 17]) (results_row_tmp (fn := Tryz.f11) rfl _ _ (w.heap.size + 1) 33 ZB (0, 0) _ rfl hx9 _ rfl Tryz.underlying33 rfl (zb_size HZBS.out)) rfl ?_
    exact ⟨ZB, by rw [HE.out], by rw [HE.out, if_neg (by decide), HZBE.out]; exact zb_rd, HB2.out.trans (Below.trans (by (repeat (first | (with_reducible first | exact Below.refl _ _ | assumption | refine Below.drew ?_) | ((with_reducible first | refine Below.alloc ?_ ?_ _ | refine Below.setCell ?_ ?_ _); rotate_left; (first | omega | (simp <;> omega)))))) (hb9.mono (by first | omega | (simp <;> omega))))⟩
  | true =>
  have hn4 : (sj != 0) = false := by unfold bne; rw [g4]; rfl
  have HG4 := hide g4
  clear g4
  go_wp2_with fail
  refine (HTO.out _ (HH.out.below (HB2.out.trans (by (repeat (first | (with_reducible first | exact Below.refl _ _ | assumption | refine Below.drew ?_) | ((with_reducible first | refine Below.alloc ?_ ?_ _ | refine Below.setCell ?_ ?_ _); rotate_left; (first | omega | (simp <;> omega))))))))).mono ?_
  rintro e w3 ⟨rfl, hb⟩
  have HR3 := hide (blk_below hb (by first | omega | (simp <;> omega)) HR2.out)
  have HX3 := hide (blk_below hb (by first | omega | (simp <;> omega)) HX2.out)
  have q3B : Below w2.heap.size w2 w3 := (by refine Below.trans ?_ (hb.mono (by first | omega | (simp <;> omega))); (repeat (first | (with_reducible first | exact Below.refl _ _ | assumption | refine Below.drew ?_) | ((with_reducible first | refine Below.alloc ?_ ?_ _ | refine Below.setCell ?_ ?_ _); rotate_left; (first | omega | (simp <;> omega))))))
  have q3z := hb.size
  try simp at q3z
  have q3t : w2.heap.size ≤ w3.heap.size := (by omega)
  have q3s0 : w.heap.size < w3.heap.size := (by omega)
  have q3n0_0 : ¬ w3.heap.size = w.heap.size := (by omega)
  have q3n0_1 : ¬ w3.heap.size + 1 = w.heap.size := (by omega)
  have q3n0_2 : ¬ w3.heap.size + 2 = w.heap.size := (by omega)
  have q3c0_18 := hb.cell (p := ⟨w.heap.size, 18, none⟩) (by first | omega | (simp <;> omega))
  simp [go_sem, *] at q3c0_18
  have q3f0 := fun o => hb.frozen (p := ⟨w.heap.size, o, none⟩) (by first | omega | (simp <;> omega))
  simp [go_sem, *] at q3f0
  have q3o : ∀ b o, b < w2.heap.size → w3.cell? ⟨b, o, none⟩ = w2.cell? ⟨b, o, none⟩ := fun b o h => q3B.cell (p := ⟨b, o, none⟩) h
  clear hb q2o q2f0 q2c0_20 q2c0_19 q2c0_18 q2s0 q2z q2B
  have HB3 := hide (HB2.out.trans (q3B.mono (by omega)))
  have zB3 := HB3.out.size
  have hz3 : w.heap.size + 1 < w3.heap.size := heap_lt HR3.out
  cases g5 : (sh == 0) with
  | false =>
    have hn5 : (sh != 0) = true := by unfold bne; rw [g5]; rfl
    have HE := hide (show clsE a an E jn h hn id day = 17 from by rw [HC3.out, if_pos (.inr (by simpa using g5))])
    clear g5
    go_wp2_with (first
      | ((with_reducible refine Go.wpList_buildTo rfl 33 #[] rfl (some 52) rfl ZB ?_ ?_); (focus (refine Eq.trans (congrArg _ ?_) HZB.out; simp [Act.eval])))
      | ((with_reducible refine wpList_store_newrow2 rfl 33 (.tmp 6) (.tmp 52) rfl rfl (w.heap.size + 1) ZB rfl rfl 33 Z HR3.out (zb_size HZBS.out) (by rw [HZS.out, HZBS.out]) HZBO.out ?_); intro w9 hb9 hs9 hx9 hk9))
    refine bodyPost_ret (v := .tuple #[.agg ZB, .int .i64 17]) (results_row_tmp (fn := Tryz.f11) rfl _ _ (w.heap.size + 1) 33 ZB (0, 0) _ rfl hx9 _ rfl Tryz.underlying33 rfl (zb_size HZBS.out)) rfl ?_
    exact ⟨ZB, by rw [HE.out], by rw [HE.out, if_neg (by decide), HZBE.out]; exact zb_rd, HB3.out.trans (Below.trans (by (repeat (first | (with_reducible first | exact Below.refl _ _ | assumption | refine Below.drew ?_) | ((with_reducible first | refine Below.alloc ?_ ?_ _ | refine Below.setCell ?_ ?_ _); rotate_left; (first | omega | (simp <;> omega)))))) (hb9.mono (by first | omega | (simp <;> omega))))⟩
  | true =>
  have hn5 : (sh != 0) = false := by unfold bne; rw [g5]; rfl
  have HE := hide (show clsE a an E jn h hn id day = 0 from by rw [HC3.out, if_neg (by have h4 := HG4.out; simp at h4 g5; simp [h4, g5])])
  clear g5
  go_wp2_with (at_builtin; go_loud (refine wpList_append_rowS _ rfl (.tmp 53) (.tmp 55) 28 rfl w3.heap.size 35 i9 (.agg #[.int .i64 0, .int .i64 0, .int .i64 0, .int .i64 0, .string ⟨#[]⟩, .string ⟨#[]⟩, .string ⟨#[]⟩]) 7 80 Tryz.underlying28 I0.out I1.out I2.out I3.out rfl (by decide) _ 0 [] rfl (own_emptyZ rfl (Nat.le_refl _)) aA an ac rfl C18 ((HR18.out.row.toS (by decide)).below (HB3.out.trans (by (repeat (first | (with_reducible first | exact Below.refl _ _ | assumption | refine Below.drew ?_) | ((with_reducible first | refine Below.alloc ?_ ?_ _ | refine Below.setCell ?_ ?_ _); rotate_left; (first | omega | (simp <;> omega)))))))) (rowA (elA 9 C18) an) HL.out HA.out HO.out (by have := HAN.out; simp only [maxLen]; omega) (by have := HAN.out; omega) (by simp) ?_); intro A1 c1 w5 ho5 hg5 hv5; simp only [List.nil_append, Nat.zero_add] at ho5 hv5; have HO5 := hide ho5; have K5 := hide (show Below w3.heap.size w3 w5 from Below.trans (by (repeat (first | (with_reducible first | exact Below.refl _ _ | assumption | refine Below.drew ?_) | ((with_reducible first | refine Below.alloc ?_ ?_ _ | refine Below.setCell ?_ ?_ _); rotate_left; (first | omega | (simp <;> omega)))))) (below_grown (B := w3.heap.size) hg5 (by simp) (fun q hq => Nat.le_of_eq (Option.some.inj hq)))); clear ho5 hg5 hv5)
  have HX5 := hide (blk_below K5.out (by omega) HX3.out)
  have HR5 := hide (blk_below K5.out hz3 HR3.out)
  have z5 := K5.out.size
  rcases HO5.out.2 with ⟨_, h0⟩ | ⟨g, cap', cur, hv, hg, hh, hnc, hnc2, hsz, htk⟩
  · exfalso
    have := HK0.out
    omega
  injection hv with e1 _ e3
  subst e1 e3
  have HG5 := hide hh
  have HTK := hide htk
  have HNC := hide hnc
  have hgw := heap_lt hh
  have hge := hg
  have hR7 : ∀ i, i < an → (elA 9 C18 i).size = 7 := fun i _ => elA_size 9 C18 i
  have HCUR := hide (fun (k j : Nat) (hk : k < an) (hj : j < 7) => show cur[k * 7 + j]? = some (C18 k j) from by
    have f1 := rowA_get hR7 hk hj
    rw [← HTK.out, List.getElem?_take, if_pos (by omega), elA_getD _ _ _ _ hj] at f1
    simpa using f1)
  have gf := free_of_cells hh
  have hn := HAN.out
  clear hh hnc hnc2 hsz htk hg
  go_loopw [11] (fun v wr => RcI k0 w5 v wr) (fun v _ => an - (intOf v).toNat)
  case atStart => exact ⟨0, Nat.zero_le _, rfl, rfl⟩
  case round =>
    obtain ⟨k, hk, rfl, hwr⟩ := hrel
    subst hwr
    have HKK := hide hk
    have hlt : k < an := by have := HK0.out; omega
    have HLT := hide hlt
    have hm : (k : Int) < an := by omega
    have hk0 : (0 : Int) ≤ k := by omega
    have ck0 : wr.cell? ⟨g, k * 7, none⟩ = some (.int .i64 (a k).id) := by
      have t := HCUR.out k 0 hlt (by decide)
      rw [HACC.out k hlt] at t
      exact (cell_of_cells HG5.out (k * 7)).trans t
    have ck2 := (cell_of_cells HG5.out (k * 7 + 2)).trans (HCUR.out k 2 hlt (by decide))
    clear hlt hk
    by_cases he : k = k0
    · have h1 : ((a k).id == id) = true := by rw [he]; exact beq_iff_eq.2 HID.out
      have HEK := hide he
      clear he
      have hne1 : ¬ w.heap.size = g := by omega
      go_wp2_with (with_reducible refine wpList_load_row rfl 33 (.tmp 3) rfl w.heap.size rfl 33 X (0, 0) _ (blk_setOther (by simp; omega) HX5.out) Tryz.underlying33 rfl HXS.out ?_)
      refine (put_any X HX.out.size HX.out.ones (some ⟨g, 0, none⟩) an c1 _).mono ?_
      rintro e w9 ⟨rfl, hb⟩
      have K9 := hide hb
      have HR9 := hide (blk_below hb (by simp; omega) (blk_setOther (p := ⟨g, k * 7 + 2, none⟩) (v := .int .i64 day) (by simp; omega) HR5.out))
      have HG9 := hide (blk_below hb (by simpa using hgw) (blk_setCell (i := k * 7 + 2) (v := .int .i64 day) HG5.out))
      have z9 := hb.size
      simp at z9
      clear hb
      go_wp2_with ((with_reducible refine wpList_store_newrow2 rfl 33 (.tmp 6) (.tmp 77) rfl rfl (w.heap.size + 1) (X.setIfInBounds 18 (.slice (some ⟨g, 0, none⟩) an c1)) rfl rfl 33 Z HR9.out (HPS.out _ _ _) (HPZ.out _ _ _) (HPO.out _ _ _) ?_); intro w10 hb10 hs10 hx10 hk10)
      refine bodyPost_ret (v := .tuple #[.agg (X.setIfInBounds 18 (.slice (some ⟨g, 0, none⟩) an c1)), .int .i64 0]) (results_row_tmp (fn := Tryz.f11) rfl _ _ (w.heap.size + 1) 33 (X.setIfInBounds 18 (.slice (some ⟨g, 0, none⟩) an c1)) (0, 0) _ rfl hx10 _ rfl Tryz.underlying33 rfl (HPS.out _ _ _)) rfl ?_
      have hxg : w10.heap[g]? = some (.cells (cur.setIfInBounds (k * 7 + 2) (.int .i64 day)) 35 (0, 0)) := (hk10 g (by omega)).trans HG9.out
      have HBF : Below w.heap.size w w10 := by
        refine HB3.out.trans (((K5.out.mono zB3).trans ?_).trans (hb10.mono (by omega)))
        refine Below.trans ?_ (K9.out.mono (by simp; omega))
        (repeat (first | (with_reducible first | exact Below.refl _ _ | assumption | refine Below.drew ?_) | ((with_reducible first | refine Below.alloc ?_ ?_ _ | refine Below.setCell ?_ ?_ _); rotate_left; (first | omega | (simp <;> omega)))))
      rw [HIN.out, ← HEK.out]
      exact ⟨_, by rw [HE.out], by rw [HE.out, if_pos rfl]; exact rclose_fin HX.out HBF HQ18.out HK18.out HR18.out zB3 HNC.out HLT.out HTK.out ⟨hge, by rw [hs10]; omega⟩ hxg, HBF⟩
    · have h1 : ((a k).id == id) = false := beq_eq_false_iff_ne.2 (HFST.out k (by have := HKK.out; omega))
      have HEK := hide he
      clear he
      go_wp2_with fail
      go_roundw
      case rel => exact ⟨k + 1, by have := HKK.out; have := HEK.out; omega, by go_num, rfl⟩
      case measure => have := HLT.out; simp [intOf]; omega
end Go.Proofs.YtdjhkhadjmndoaaGreatDoor
