/- Texts laid together: Ahn. -/
import Derived.Test.YtdjhkhadjmndoaaGreatDoorQAhr
import Derived.Test.YtdjhkhadjmndoaaGreatDoorQAgW
import Derived.Test.YtdjhkhadjmndoaaGreatDoorQTrM
namespace Go.Proofs.YtdjhkhadjmndoaaGreatDoor
set_option maxRecDepth 4000
set_option linter.unusedSimpArgs false
set_option linter.unusedVariables false
open Go.RowKit
/-- Books whose accounts are a row of the call's own. -/
theorem ropen_fin {w w9 : World} {N : Nat} {X : Array Value} {A A' : Option Addr} {n c' : Nat} {c : Nat → Nat → Tr} {C18 : Nat → Nat → Value} {ck : Nat → Tr} {t : TypeId} {x : LAcc} (hX : ElT (Old w) w 15 ck X) (hb : Below w.heap.size w w9) (hc : ck 18 = .row n 7 c) (hk : RowK 9 n c)
    (hr : RowT (Old w) w 9 A n c C18) (ho : w9.ownsRow N t 7 (.slice A' (n + 1) c') (n + 1) (rowA (elA 9 C18) n ++ (accA x).toList)) : ElT (Old w9) w9 15 (opT ck x) (X.setIfInBounds 18 (.slice A' (n + 1) c')) := by
  have h := open_fin (w2 := w9) (w9 := w9) (N := 0) (D := X) (A := none) (n := n) (cap := 0) (R := elA 9 C18) (x := x) hX.size hX.ones hc hk (fun k hkn => ?_) (fun j hj h18 => ?_) (Nat.le_refl _) (fun _ _ _ _ => rfl) (own_low ho (Nat.zero_le _))
  · exact h.mono (fun b hb => hb.2) (fun _ _ => rfl)
  · exact ⟨elA_size 9 C18 k, (hr.el hk hkn).ones, fun j hj => by rw [elA_getD _ _ _ _ hj]; exact leaf_any (by decide) hr hk hkn hj⟩
  · exact (hX.below hb).rd j hj |>.mono (fun b hb => ⟨⟨Nat.zero_le _, hb⟩, fun e => by cases e⟩) (fun _ _ => rfl)
theorem acc_row (x : LAcc) (k j : Nat) (hk : k < 1) (hj : j < 7) : (accA x)[k * 7 + j]? = some (accC x j) := by
  match k, hk, j, hj with
  | 0, _, 0, _ | 0, _, 1, _ | 0, _, 2, _ | 0, _, 3, _ | 0, _, 4, _ | 0, _, 5, _ | 0, _, 6, _ => rfl
theorem acc_rowL (x : LAcc) (k j : Nat) (hk : k < 1) (hj : j < 7) : (accA x).toList[k * 7 + j]? = some (accC x j) := by rw [Array.getElem?_toList]; exact acc_row x k j hk hj
/-- Behind the last region of R24.Open. -/
def RpCut (X : Array Value) (x : LAcc) (C18 : Nat → Nat → Value) (k b2 : Nat) (w4 wx : World) : Prop :=
  ∃ D, wx.heap[b2]? = some (.cells D 33 (0, 0)) ∧ ∃ A2 c2, D = X.setIfInBounds 18 (.slice A2 (k + 1) c2) ∧ wx.ownsRow w4.heap.size 35 7 (.slice A2 (k + 1) c2) (k + 1) (rowA (elA 9 C18) k ++ (accA x).toList) ∧ Below b2 w4 wx
def RoRet (ck : Nat → Tr) (x : LAcc) (e : Int) (w : World) (r : Ending) (w' : World) : Prop := ∃ D, r = .returned (.tuple #[.agg D, .int .i64 e]) ∧ ElT (Old w') w' 15 (if e = 0 then opT ck x else zbT) D ∧ Below w.heap.size w w'
def RopI (a : Nat → LAcc) (id : Int) (n : Nat) (W : World) (v : Value) (wr : World) : Prop := ∃ k : Nat, k ≤ n ∧ v = .int .i64 k ∧ (∀ j, j < k → (a j).id < id) ∧ Below W.heap.size W wr
set_option maxRecDepth 20000 in
set_option maxHeartbeats 16000000 in
theorem ropen_any (ck : Nat → Tr) (hw : KnOK 15 ck) (B : LBk) (hB : BkOK B) (x : LAcc) (w : World) (hX : ElT (Old w) w 15 ck B.C) (hi : BkIn w B) :
    Calls Tryz.prog 8 #[.agg B.C, .agg #[.int .i64 x.id, .int .i64 x.op, .int .i64 x.cl, .int .i64 x.ex, .string x.ow, .string x.pr, .string x.nu]] w (RoRet ck x (alwE B.P B.pn B.a B.an x) w) := by
  obtain ⟨X, aA, an, ac, a, jA, jn, jc, pA, pn, pc, P⟩ := B
  have hX : ElT (Old w) w 15 ck X := hX
  obtain ⟨n0, c18, hq18, hk18, A0, cap0, C18, e18, _, hr18⟩ := rd_row (e := 9) (hX.rd 18 (by decide)) (hw 18 (by decide))
  have h18 : X[18]? = some (.slice aA an ac) := hB.bks.acc
  have e18 : X[18]? = some (.slice A0 n0 cap0) := at_eq hX.size (by decide) e18
  rw [h18] at e18
  injection e18 with e18
  injection e18 with e1 e2 e3
  subst e1 e2 e3
  obtain ⟨i0, Z, hi0, hi1, hi2, hi3, hi4⟩ := zb_zero
  obtain ⟨ZB, hz0, hz1, hz2, hz3⟩ := zb_built
  obtain ⟨i9, hf0, hf1, hf2, hf3⟩ := info_parts inf_Acc
  have I0 := hide hf0
  have I1 := hide hf1
  have I2 := hide hf2
  have I3 := hide hf3
  have HI := hide (And.intro hi0 hi1)
  have HZS := hide hi2
  have HZB := hide hz0
  have HZBS := hide hz1
  have HZBO := hide hz2
  have HZBE := hide hz3
  have HXS := hide (zb_size (C := X) hX.size)
  have HX := hide hX
  have HIN := hide hi
  have HR := hide (show RowAcc w aA an a from hi.acc)
  have HQ18 := hide hq18
  have HK18 := hide hk18
  have HR18 := hide hr18
  have HAN := hide (show an ≤ 1000000 from hB.an)
  obtain ⟨sb, hsb⟩ : ∃ b, b = shB x := ⟨_, rfl⟩
  obtain ⟨ow, how⟩ : ∃ e, e = ownE P pn x := ⟨_, rfl⟩
  have HSH := hide (fun (W : World) => by have t := shaped_any x W; rw [← hsb] at t; exact t)
  have HOW := hide (fun (W : World) (h : BkIn W ⟨X, aA, an, ac, a, jA, jn, jc, pA, pn, pc, P⟩) => by have t := owned_any _ hB x W h; rw [show ownE P pn x = ow from how.symm] at t; exact t)
  have HOE := hide how
  have HSB := hide (show opB x = (sb && (x.cl == 0 && x.ex == 0)) from by unfold opB; rw [← hsb])
  have HL := hide (rowE_len 9 C18 an)
  have HA := hide (rowE_at 9 C18 an)
  have HO := hide (rowE_one (fun k hk => (hr18.el hk18 hk).ones))
  have hgr : ∀ k, k < an → geB a x.id an = true ∨ (a k).id < x.id := fun k hk => by
    by_cases h : x.id ≤ (a k).id
    · exact .inl (geB_yes hk h)
    · exact .inr (by omega)
  clear hgr how hsb hi hB hq18 hk18 hr18 hX hw hi0 hi1 hi2 hi3 hi4 hz0 hz1 hz2 hz3 hf0 hf1 hf2 hf3
  dsimp only
  go_enter Tryz.func8, Tryz.ntmps8
  go_wp2_with (with_reducible refine wpList_alloc_row rfl 33 rfl (some 4) rfl i0 HI.out.1 Z HI.out.2 (w.heap.size + 1 + 1) (by simp) ?_)
  refine (HSH.out _).mono ?_
  rintro e w1 ⟨rfl, hb⟩
  have HX1 := hide (blk_below hb (by simp; omega) (blk_under (two_boxes w (.cells X 33) (.cells #[.int .i64 x.id, .int .i64 x.op, .int .i64 x.cl, .int .i64 x.ex, .string x.ow, .string x.pr, .string x.nu] 35))))
  have HR1 := hide (blk_below hb (by simp) (blk_new (k := w.heap.size + 1 + 1) (by simp)))
  have q1B : Below w.heap.size w w1 := (by refine Below.trans ?_ (hb.mono (by first | omega | (simp <;> omega))); (repeat (first | (with_reducible first | exact Below.refl _ _ | assumption | refine Below.drew ?_) | ((with_reducible first | refine Below.alloc ?_ ?_ _ | refine Below.setCell ?_ ?_ _); rotate_left; (first | omega | (simp <;> omega))))))
  have q1z := hb.size
  try simp at q1z
  have q1t : w.heap.size ≤ w1.heap.size := (by omega)
  have q1s0 : w.heap.size < w1.heap.size := (by omega)
  have q1n0_0 : ¬ w1.heap.size = w.heap.size := (by omega)
  have q1n0_1 : ¬ w1.heap.size + 1 = w.heap.size := (by omega)
  have q1n0_2 : ¬ w1.heap.size + 2 = w.heap.size := (by omega)
  have q1c0_18 := hb.cell (p := ⟨w.heap.size, 18, none⟩) (by first | omega | (simp <;> omega))
  simp [go_sem, *] at q1c0_18
  have q1f0 := fun o => hb.frozen (p := ⟨w.heap.size, o, none⟩) (by first | omega | (simp <;> omega))
  simp [go_sem, *] at q1f0
  have q1s1 : w.heap.size + 1 < w1.heap.size := (by omega)
  have q1n1_0 : ¬ w1.heap.size = w.heap.size + 1 := (by omega)
  have q1n1_1 : ¬ w1.heap.size + 1 = w.heap.size + 1 := (by omega)
  have q1n1_2 : ¬ w1.heap.size + 2 = w.heap.size + 1 := (by omega)
  have q1c1_0 := hb.cell (p := ⟨w.heap.size + 1, 0, none⟩) (by first | omega | (simp <;> omega))
  simp [go_sem, *] at q1c1_0
  have q1c1_1 := hb.cell (p := ⟨w.heap.size + 1, 1, none⟩) (by first | omega | (simp <;> omega))
  simp [go_sem, *] at q1c1_1
  have q1c1_2 := hb.cell (p := ⟨w.heap.size + 1, 2, none⟩) (by first | omega | (simp <;> omega))
  simp [go_sem, *] at q1c1_2
  have q1c1_3 := hb.cell (p := ⟨w.heap.size + 1, 3, none⟩) (by first | omega | (simp <;> omega))
  simp [go_sem, *] at q1c1_3
  have q1c1_4 := hb.cell (p := ⟨w.heap.size + 1, 4, none⟩) (by first | omega | (simp <;> omega))
  simp [go_sem, *] at q1c1_4
  have q1c1_5 := hb.cell (p := ⟨w.heap.size + 1, 5, none⟩) (by first | omega | (simp <;> omega))
  simp [go_sem, *] at q1c1_5
  have q1c1_6 := hb.cell (p := ⟨w.heap.size + 1, 6, none⟩) (by first | omega | (simp <;> omega))
  simp [go_sem, *] at q1c1_6
  have q1f1 := fun o => hb.frozen (p := ⟨w.heap.size + 1, o, none⟩) (by first | omega | (simp <;> omega))
  simp [go_sem, *] at q1f1
  have q1o : ∀ b o, b < w.heap.size → w1.cell? ⟨b, o, none⟩ = w.cell? ⟨b, o, none⟩ := fun b o h => q1B.cell (p := ⟨b, o, none⟩) h
  clear hb
  have B1 := hide q1B
  have zz1 : w.heap.size + 1 + 1 < w1.heap.size := by have := heap_lt HR1.out; exact this
  clear h18
  cases sb with
  | false =>
    have HE := hide (show alwE P pn a an x = 1 from alw_1 (by rw [HSB.out]; rfl))
    go_wp2_with (first
      | ((with_reducible refine Go.wpList_buildTo rfl 33 #[] rfl (some 22) rfl ZB ?_ ?_); (focus (refine Eq.trans (congrArg _ ?_) HZB.out; simp [Act.eval])))
      | ((with_reducible refine wpList_store_newrow2 rfl 33 (.tmp 4) (.tmp 22) rfl rfl (w.heap.size + 1 + 1) ZB rfl rfl 33 Z HR1.out (zb_size HZBS.out) (by rw [HZS.out, HZBS.out]) HZBO.out ?_); intro w9 hb9 hs9 hx9 hk9))
    refine bodyPost_ret (v := .tuple #[.agg ZB, .int .i64 1]) (results_row_tmp (fn := Tryz.f8) rfl _ _ (w.heap.size + 1 + 1) 33 ZB (0, 0) _ rfl hx9 _ rfl Tryz.underlying33 rfl (zb_size HZBS.out)) rfl ?_
    exact ⟨ZB, by rw [HE.out], by rw [HE.out, if_neg (by first | decide | exact HNE.out), HZBE.out]; exact zb_rd, B1.out.trans (Below.trans (by (repeat (first | (with_reducible first | exact Below.refl _ _ | assumption | refine Below.drew ?_) | ((with_reducible first | refine Below.alloc ?_ ?_ _ | refine Below.setCell ?_ ?_ _); rotate_left; (first | omega | (simp <;> omega)))))) (hb9.mono (by first | omega | (simp <;> omega))))⟩
  | true =>
  cases g1 : (x.cl == 0) with
  | false =>
    have n1 : (x.cl != 0) = true := by unfold bne; rw [g1]; rfl
    have HE := hide (show alwE P pn a an x = 1 from alw_1 (by rw [HSB.out, g1]; rfl))
    clear g1
    go_wp2_with (first
      | ((with_reducible refine Go.wpList_buildTo rfl 33 #[] rfl (some 22) rfl ZB ?_ ?_); (focus (refine Eq.trans (congrArg _ ?_) HZB.out; simp [Act.eval])))
      | ((with_reducible refine wpList_store_newrow2 rfl 33 (.tmp 4) (.tmp 22) rfl rfl (w.heap.size + 1 + 1) ZB rfl rfl 33 Z HR1.out (zb_size HZBS.out) (by rw [HZS.out, HZBS.out]) HZBO.out ?_); intro w9 hb9 hs9 hx9 hk9))
    refine bodyPost_ret (v := .tuple #[.agg ZB, .int .i64 1]) (results_row_tmp (fn := Tryz.f8) rfl _ _ (w.heap.size + 1 + 1) 33 ZB (0, 0) _ rfl hx9 _ rfl Tryz.underlying33 rfl (zb_size HZBS.out)) rfl ?_
    exact ⟨ZB, by rw [HE.out], by rw [HE.out, if_neg (by first | decide | exact HNE.out), HZBE.out]; exact zb_rd, B1.out.trans (Below.trans (by (repeat (first | (with_reducible first | exact Below.refl _ _ | assumption | refine Below.drew ?_) | ((with_reducible first | refine Below.alloc ?_ ?_ _ | refine Below.setCell ?_ ?_ _); rotate_left; (first | omega | (simp <;> omega)))))) (hb9.mono (by first | omega | (simp <;> omega))))⟩
  | true =>
  have n1 : (x.cl != 0) = false := by unfold bne; rw [g1]; rfl
  have G1 := hide g1
  clear g1
  cases g2 : (x.ex == 0) with
  | false =>
    have n2 : (x.ex != 0) = true := by unfold bne; rw [g2]; rfl
    have HE := hide (show alwE P pn a an x = 1 from alw_1 (by rw [HSB.out, G1.out, g2]; rfl))
    clear g2
    go_wp2_with (first
      | ((with_reducible refine Go.wpList_buildTo rfl 33 #[] rfl (some 22) rfl ZB ?_ ?_); (focus (refine Eq.trans (congrArg _ ?_) HZB.out; simp [Act.eval])))
      | ((with_reducible refine wpList_store_newrow2 rfl 33 (.tmp 4) (.tmp 22) rfl rfl (w.heap.size + 1 + 1) ZB rfl rfl 33 Z HR1.out (zb_size HZBS.out) (by rw [HZS.out, HZBS.out]) HZBO.out ?_); intro w9 hb9 hs9 hx9 hk9))
    refine bodyPost_ret (v := .tuple #[.agg ZB, .int .i64 1]) (results_row_tmp (fn := Tryz.f8) rfl _ _ (w.heap.size + 1 + 1) 33 ZB (0, 0) _ rfl hx9 _ rfl Tryz.underlying33 rfl (zb_size HZBS.out)) rfl ?_
    exact ⟨ZB, by rw [HE.out], by rw [HE.out, if_neg (by first | decide | exact HNE.out), HZBE.out]; exact zb_rd, B1.out.trans (Below.trans (by (repeat (first | (with_reducible first | exact Below.refl _ _ | assumption | refine Below.drew ?_) | ((with_reducible first | refine Below.alloc ?_ ?_ _ | refine Below.setCell ?_ ?_ _); rotate_left; (first | omega | (simp <;> omega)))))) (hb9.mono (by first | omega | (simp <;> omega))))⟩
  | true =>
  have n2 : (x.ex != 0) = false := by unfold bne; rw [g2]; rfl
  have HOP := hide (show opB x = true from by rw [HSB.out, G1.out, g2]; rfl)
  clear g2
  go_wp2_with fail
  go_loopw [6] (fun v wr => RopI a x.id an w1 v wr) (fun v _ => an - (intOf v).toNat)
  case atStart => exact ⟨0, by omega, rfl, fun j hj => by omega, Below.refl _ _⟩
  case round =>
    obtain ⟨k, hk, rfl, hl, hb⟩ := hrel
    have HL2 := hide hl
    have H0 := hide hb
    have BW := hide (B1.out.trans (hb.mono q1t))
    have HXr := hide (blk_below hb (by omega) HX1.out)
    have HRr := hide (blk_below hb zz1 HR1.out)
    clear hl
    have q2B : Below w1.heap.size w1 wr := (by refine Below.trans ?_ (hb.mono (by first | omega | (simp <;> omega))); (repeat (first | (with_reducible first | exact Below.refl _ _ | assumption | refine Below.drew ?_) | ((with_reducible first | refine Below.alloc ?_ ?_ _ | refine Below.setCell ?_ ?_ _); rotate_left; (first | omega | (simp <;> omega))))))
    have q2z := hb.size
    try simp at q2z
    have q2t : w1.heap.size ≤ wr.heap.size := (by omega)
    have q2s0 : w.heap.size < wr.heap.size := (by omega)
    have q2n0_0 : ¬ wr.heap.size = w.heap.size := (by omega)
    have q2n0_1 : ¬ wr.heap.size + 1 = w.heap.size := (by omega)
    have q2n0_2 : ¬ wr.heap.size + 2 = w.heap.size := (by omega)
    have q2c0_18 := hb.cell (p := ⟨w.heap.size, 18, none⟩) (by first | omega | (simp <;> omega))
    simp [go_sem, *] at q2c0_18
    have q2f0 := fun o => hb.frozen (p := ⟨w.heap.size, o, none⟩) (by first | omega | (simp <;> omega))
    simp [go_sem, *] at q2f0
    have q2s1 : w.heap.size + 1 < wr.heap.size := (by omega)
    have q2n1_0 : ¬ wr.heap.size = w.heap.size + 1 := (by omega)
    have q2n1_1 : ¬ wr.heap.size + 1 = w.heap.size + 1 := (by omega)
    have q2n1_2 : ¬ wr.heap.size + 2 = w.heap.size + 1 := (by omega)
    have q2c1_0 := hb.cell (p := ⟨w.heap.size + 1, 0, none⟩) (by first | omega | (simp <;> omega))
    simp [go_sem, *] at q2c1_0
    have q2c1_1 := hb.cell (p := ⟨w.heap.size + 1, 1, none⟩) (by first | omega | (simp <;> omega))
    simp [go_sem, *] at q2c1_1
    have q2c1_2 := hb.cell (p := ⟨w.heap.size + 1, 2, none⟩) (by first | omega | (simp <;> omega))
    simp [go_sem, *] at q2c1_2
    have q2c1_3 := hb.cell (p := ⟨w.heap.size + 1, 3, none⟩) (by first | omega | (simp <;> omega))
    simp [go_sem, *] at q2c1_3
    have q2c1_4 := hb.cell (p := ⟨w.heap.size + 1, 4, none⟩) (by first | omega | (simp <;> omega))
    simp [go_sem, *] at q2c1_4
    have q2c1_5 := hb.cell (p := ⟨w.heap.size + 1, 5, none⟩) (by first | omega | (simp <;> omega))
    simp [go_sem, *] at q2c1_5
    have q2c1_6 := hb.cell (p := ⟨w.heap.size + 1, 6, none⟩) (by first | omega | (simp <;> omega))
    simp [go_sem, *] at q2c1_6
    have q2f1 := fun o => hb.frozen (p := ⟨w.heap.size + 1, o, none⟩) (by first | omega | (simp <;> omega))
    simp [go_sem, *] at q2f1
    have q2o : ∀ b o, b < w1.heap.size → wr.cell? ⟨b, o, none⟩ = w1.cell? ⟨b, o, none⟩ := fun b o h => q2B.cell (p := ⟨b, o, none⟩) h
    clear hb q1o q1f1 q1c1_6 q1c1_5 q1c1_4 q1c1_3 q1c1_2 q1c1_1 q1c1_0 q1s1 q1f0 q1c0_18 q1s0 q1z q1B
    have zb := BW.out.size
    have zr2 := heap_lt HRr.out
    by_cases hlt : k < an
    · have hm : (k : Int) < an := by omega
      have hn := HAN.out
      have hk0 : (0 : Int) ≤ k := by omega
      have HK := hide hlt
      obtain ⟨b, off, rfl, hbl, c0, c1, c2, c3, c4, c5, c6⟩ := (HR.out.below BW.out).at hlt
      clear hlt hk
      by_cases ho : x.id ≤ (a k).id
      · have d9 : decide (x.id ≤ (a k).id) = true := decide_eq_true ho
        have HE := hide (show alwE P pn a an x = 10 from alw_10 HOP.out (geB_yes HK.out ho))
        clear ho
        go_wp2_with fail
        refine ord_start (SB (wr.heap.size) [] _) 9 (preB 0 9) (by kernel_rfl) (by kernel_rfl) (by kernel_rfl) SB.refl.drew (fun hHeld => ?_)
        refine oT (i := 0) (preB 1 8) ?_ rfl hHeld (fun wx hSx => ?_) ?_
        rotate_left
        · (unfold SB at hSx; go_simp; (try with_reducible rfl))
        (try simp only [Act.put, putS])
        refine oT (i := 1) (preB 2 7) ?_ rfl hHeld (fun wx hSx => ?_) ?_
        rotate_left
        · (unfold SB at hSx; go_simp; (try with_reducible rfl))
        (try simp only [Act.put, putS])
        refine oT (i := 2) (preB 3 6) ?_ rfl hHeld (fun wx hSx => ?_) ?_
        rotate_left
        · (unfold SB at hSx; go_simp; (try with_reducible rfl))
        (try simp only [Act.put, putS])
        refine oT (i := 3) (preB 4 5) ?_ rfl hHeld (fun wx hSx => ?_) ?_
        rotate_left
        · (unfold SB at hSx; go_simp; (try with_reducible rfl))
        (try simp only [Act.put, putS])
        refine oT (i := 4) (preB 5 4) ?_ rfl hHeld (fun wx hSx => ?_) ?_
        rotate_left
        · (unfold SB at hSx; go_simp; (try with_reducible rfl))
        (try simp only [Act.put, putS])
        refine oT (i := 5) (preB 6 3) ?_ rfl hHeld (fun wx hSx => ?_) ?_
        rotate_left
        · (unfold SB at hSx; go_simp; (try with_reducible rfl))
        (try simp only [Act.put, putS])
        refine oT (i := 6) (preB 7 2) ?_ rfl hHeld (fun wx hSx => ?_) ?_
        rotate_left
        · (unfold SB at hSx; go_simp; (try with_reducible rfl))
        (try simp only [Act.put, putS])
        refine oT (i := 7) (preB 8 1) ?_ rfl hHeld (fun wx hSx => ?_) ?_
        rotate_left
        · (unfold SB at hSx; go_simp; (try with_reducible rfl))
        (try simp only [Act.put, putS])
        refine oT (i := 8) (preB 9 0) ?_ rfl hHeld (fun wx hSx => ?_) ?_
        rotate_left
        · (unfold SB at hSx; go_simp; (try with_reducible rfl))
        (try simp only [Act.put, putS])
        refine wpAnyH_done (by kernel_rfl) ?_ _
        go_wp2_with (first
          | ((with_reducible refine Go.wpList_buildTo rfl 33 #[] rfl (some 39) rfl ZB ?_ ?_); (focus (refine Eq.trans (congrArg _ ?_) HZB.out; simp [Act.eval])))
          | ((with_reducible refine wpList_store_newrow2 rfl 33 (.tmp 4) (.tmp 39) rfl rfl (w.heap.size + 1 + 1) ZB rfl rfl 33 Z (blk_drew HRr.out) (zb_size HZBS.out) (by rw [HZS.out, HZBS.out]) HZBO.out ?_); intro w9 hb9 hs9 hx9 hk9))
        refine bodyPost_ret (v := .tuple #[.agg ZB, .int .i64 10]) (results_row_tmp (fn := Tryz.f8) rfl _ _ (w.heap.size + 1 + 1) 33 ZB (0, 0) _ rfl hx9 _ rfl Tryz.underlying33 rfl (zb_size HZBS.out)) rfl ?_
        exact ⟨ZB, by rw [HE.out], by rw [HE.out, if_neg (by first | decide | exact HNE.out), HZBE.out]; exact zb_rd, BW.out.trans (Below.trans (by (repeat (first | (with_reducible first | exact Below.refl _ _ | assumption | refine Below.drew ?_) | ((with_reducible first | refine Below.alloc ?_ ?_ _ | refine Below.setCell ?_ ?_ _); rotate_left; (first | omega | (simp <;> omega)))))) (hb9.mono (by first | omega | (simp <;> omega))))⟩
      · have d9 : decide (x.id ≤ (a k).id) = false := decide_eq_false ho
        have HO2 := hide (Int.not_le.1 ho)
        clear ho
        go_wp2_with fail
        refine ord_start (SB (wr.heap.size) [] _) 9 (preB 0 9) (by kernel_rfl) (by kernel_rfl) (by kernel_rfl) SB.refl.drew (fun hHeld => ?_)
        refine oT (i := 0) (preB 1 8) ?_ rfl hHeld (fun wx hSx => ?_) ?_
        rotate_left
        · (unfold SB at hSx; go_simp; (try with_reducible rfl))
        (try simp only [Act.put, putS])
        refine oT (i := 1) (preB 2 7) ?_ rfl hHeld (fun wx hSx => ?_) ?_
        rotate_left
        · (unfold SB at hSx; go_simp; (try with_reducible rfl))
        (try simp only [Act.put, putS])
        refine oT (i := 2) (preB 3 6) ?_ rfl hHeld (fun wx hSx => ?_) ?_
        rotate_left
        · (unfold SB at hSx; go_simp; (try with_reducible rfl))
        (try simp only [Act.put, putS])
        refine oT (i := 3) (preB 4 5) ?_ rfl hHeld (fun wx hSx => ?_) ?_
        rotate_left
        · (unfold SB at hSx; go_simp; (try with_reducible rfl))
        (try simp only [Act.put, putS])
        refine oT (i := 4) (preB 5 4) ?_ rfl hHeld (fun wx hSx => ?_) ?_
        rotate_left
        · (unfold SB at hSx; go_simp; (try with_reducible rfl))
        (try simp only [Act.put, putS])
        refine oT (i := 5) (preB 6 3) ?_ rfl hHeld (fun wx hSx => ?_) ?_
        rotate_left
        · (unfold SB at hSx; go_simp; (try with_reducible rfl))
        (try simp only [Act.put, putS])
        refine oT (i := 6) (preB 7 2) ?_ rfl hHeld (fun wx hSx => ?_) ?_
        rotate_left
        · (unfold SB at hSx; go_simp; (try with_reducible rfl))
        (try simp only [Act.put, putS])
        refine oT (i := 7) (preB 8 1) ?_ rfl hHeld (fun wx hSx => ?_) ?_
        rotate_left
        · (unfold SB at hSx; go_simp; (try with_reducible rfl))
        (try simp only [Act.put, putS])
        refine oT (i := 8) (preB 9 0) ?_ rfl hHeld (fun wx hSx => ?_) ?_
        rotate_left
        · (unfold SB at hSx; go_simp; (try with_reducible rfl))
        (try simp only [Act.put, putS])
        refine wpAnyH_done (by kernel_rfl) ?_ _
        go_wp2_with fail
        go_roundw
        case rel => exact ⟨k + 1, HK.out, by go_num, fun j hj => by rcases Nat.lt_succ_iff_lt_or_eq.1 hj with h | rfl; exact HL2.out j h; exact HO2.out, H0.out.trans (by (repeat (first | (with_reducible first | exact Below.refl _ _ | assumption | refine Below.drew ?_) | ((with_reducible first | refine Below.alloc ?_ ?_ _ | refine Below.setCell ?_ ?_ _); rotate_left; (first | omega | (simp <;> omega))))))⟩
        case measure => have := HK.out; simp [intOf]; omega
    · obtain rfl : k = an := by omega
      have HGE := hide (geB_no HL2.out)
      clear hlt hk HL2 H0
      go_wp2_with (with_reducible refine wpList_load_row rfl 33 (.tmp 2) rfl w.heap.size rfl 33 X (0, 0) _ HXr.out Tryz.underlying33 rfl HXS.out ?_)
      refine (HOW.out _ (HIN.out.below BW.out)).mono ?_
      rintro e w4 ⟨rfl, hb⟩
      have HX4 := hide (blk_below hb (by omega) HXr.out)
      have HR4 := hide (blk_below hb zr2 HRr.out)
      have q3B : Below wr.heap.size wr w4 := (by refine Below.trans ?_ (hb.mono (by first | omega | (simp <;> omega))); (repeat (first | (with_reducible first | exact Below.refl _ _ | assumption | refine Below.drew ?_) | ((with_reducible first | refine Below.alloc ?_ ?_ _ | refine Below.setCell ?_ ?_ _); rotate_left; (first | omega | (simp <;> omega))))))
      have q3z := hb.size
      try simp at q3z
      have q3t : wr.heap.size ≤ w4.heap.size := (by omega)
      have q3s0 : w.heap.size < w4.heap.size := (by omega)
      have q3n0_0 : ¬ w4.heap.size = w.heap.size := (by omega)
      have q3n0_1 : ¬ w4.heap.size + 1 = w.heap.size := (by omega)
      have q3n0_2 : ¬ w4.heap.size + 2 = w.heap.size := (by omega)
      have q3c0_18 := hb.cell (p := ⟨w.heap.size, 18, none⟩) (by first | omega | (simp <;> omega))
      simp [go_sem, *] at q3c0_18
      have q3f0 := fun o => hb.frozen (p := ⟨w.heap.size, o, none⟩) (by first | omega | (simp <;> omega))
      simp [go_sem, *] at q3f0
      have q3s1 : w.heap.size + 1 < w4.heap.size := (by omega)
      have q3n1_0 : ¬ w4.heap.size = w.heap.size + 1 := (by omega)
      have q3n1_1 : ¬ w4.heap.size + 1 = w.heap.size + 1 := (by omega)
      have q3n1_2 : ¬ w4.heap.size + 2 = w.heap.size + 1 := (by omega)
      have q3c1_0 := hb.cell (p := ⟨w.heap.size + 1, 0, none⟩) (by first | omega | (simp <;> omega))
      simp [go_sem, *] at q3c1_0
      have q3c1_1 := hb.cell (p := ⟨w.heap.size + 1, 1, none⟩) (by first | omega | (simp <;> omega))
      simp [go_sem, *] at q3c1_1
      have q3c1_2 := hb.cell (p := ⟨w.heap.size + 1, 2, none⟩) (by first | omega | (simp <;> omega))
      simp [go_sem, *] at q3c1_2
      have q3c1_3 := hb.cell (p := ⟨w.heap.size + 1, 3, none⟩) (by first | omega | (simp <;> omega))
      simp [go_sem, *] at q3c1_3
      have q3c1_4 := hb.cell (p := ⟨w.heap.size + 1, 4, none⟩) (by first | omega | (simp <;> omega))
      simp [go_sem, *] at q3c1_4
      have q3c1_5 := hb.cell (p := ⟨w.heap.size + 1, 5, none⟩) (by first | omega | (simp <;> omega))
      simp [go_sem, *] at q3c1_5
      have q3c1_6 := hb.cell (p := ⟨w.heap.size + 1, 6, none⟩) (by first | omega | (simp <;> omega))
      simp [go_sem, *] at q3c1_6
      have q3f1 := fun o => hb.frozen (p := ⟨w.heap.size + 1, o, none⟩) (by first | omega | (simp <;> omega))
      simp [go_sem, *] at q3f1
      have q3o : ∀ b o, b < wr.heap.size → w4.cell? ⟨b, o, none⟩ = wr.cell? ⟨b, o, none⟩ := fun b o h => q3B.cell (p := ⟨b, o, none⟩) h
      clear hb q2o q2f1 q2c1_6 q2c1_5 q2c1_4 q2c1_3 q2c1_2 q2c1_1 q2c1_0 q2s1 q2f0 q2c0_18 q2s0 q2z q2B
      have B4 := hide (BW.out.trans (q3B.mono zb))
      have z4 := B4.out.size
      have zx4 := heap_lt HX4.out
      have zr4 := heap_lt HR4.out
      by_cases h9 : ow = 0
      rotate_left
      · have n9 : (ow != 0) = true := by simp [bne, h9]
        have HNE := hide h9
        have HE := hide (show alwE P pn a k x = ow from by rw [alw_own HOP.out HGE.out (by rw [← HOE.out]; exact h9), ← HOE.out])
        clear h9
        go_wp2_with (first
          | ((with_reducible refine Go.wpList_buildTo rfl 33 #[] rfl (some 45) rfl ZB ?_ ?_); (focus (refine Eq.trans (congrArg _ ?_) HZB.out; simp [Act.eval])))
          | ((with_reducible refine wpList_store_newrow2 rfl 33 (.tmp 4) (.tmp 45) rfl rfl (w.heap.size + 1 + 1) ZB rfl rfl 33 Z HR4.out (zb_size HZBS.out) (by rw [HZS.out, HZBS.out]) HZBO.out ?_); intro w9 hb9 hs9 hx9 hk9))
        refine bodyPost_ret (v := .tuple #[.agg ZB, .int .i64 ow]) (results_row_tmp (fn := Tryz.f8) rfl _ _ (w.heap.size + 1 + 1) 33 ZB (0, 0) _ rfl hx9 _ rfl Tryz.underlying33 rfl (zb_size HZBS.out)) rfl ?_
        exact ⟨ZB, by rw [HE.out], by rw [HE.out, if_neg (by first | decide | exact HNE.out), HZBE.out]; exact zb_rd, B4.out.trans (Below.trans (by (repeat (first | (with_reducible first | exact Below.refl _ _ | assumption | refine Below.drew ?_) | ((with_reducible first | refine Below.alloc ?_ ?_ _ | refine Below.setCell ?_ ?_ _); rotate_left; (first | omega | (simp <;> omega)))))) (hb9.mono (by first | omega | (simp <;> omega))))⟩
      have n9 : (ow != 0) = false := by rw [h9]; rfl
      have HW0 := hide (show ownE P pn x = 0 from HOE.out.symm.trans h9)
      clear h9
      by_cases h64 : 64 ≤ k
      · have d64 : decide ((64 : Int) ≤ k) = true := decide_eq_true (by omega)
        have HE := hide (show alwE P pn a k x = 5 from by rw [alw_len HOP.out HGE.out HW0.out, if_pos h64])
        clear h64
        go_wp2_with (first
          | ((with_reducible refine Go.wpList_buildTo rfl 33 #[] rfl (some 51) rfl ZB ?_ ?_); (focus (refine Eq.trans (congrArg _ ?_) HZB.out; simp [Act.eval])))
          | ((with_reducible refine wpList_store_newrow2 rfl 33 (.tmp 4) (.tmp 51) rfl rfl (w.heap.size + 1 + 1) ZB rfl rfl 33 Z HR4.out (zb_size HZBS.out) (by rw [HZS.out, HZBS.out]) HZBO.out ?_); intro w9 hb9 hs9 hx9 hk9))
        refine bodyPost_ret (v := .tuple #[.agg ZB, .int .i64 5]) (results_row_tmp (fn := Tryz.f8) rfl _ _ (w.heap.size + 1 + 1) 33 ZB (0, 0) _ rfl hx9 _ rfl Tryz.underlying33 rfl (zb_size HZBS.out)) rfl ?_
        exact ⟨ZB, by rw [HE.out], by rw [HE.out, if_neg (by first | decide | exact HNE.out), HZBE.out]; exact zb_rd, B4.out.trans (Below.trans (by (repeat (first | (with_reducible first | exact Below.refl _ _ | assumption | refine Below.drew ?_) | ((with_reducible first | refine Below.alloc ?_ ?_ _ | refine Below.setCell ?_ ?_ _); rotate_left; (first | omega | (simp <;> omega)))))) (hb9.mono (by first | omega | (simp <;> omega))))⟩
      have d64 : decide ((64 : Int) ≤ k) = false := decide_eq_false (by omega)
      have HE := hide (show alwE P pn a k x = 0 from by rw [alw_len HOP.out HGE.out HW0.out, if_neg h64])
      clear h64
      go_wp2_with (at_builtin; go_loud (refine wpList_append_rowS _ rfl (.tmp 52) (.tmp 54) 28 rfl w4.heap.size 35 i9 (.agg #[.int .i64 0, .int .i64 0, .int .i64 0, .int .i64 0, .string ⟨#[]⟩, .string ⟨#[]⟩, .string ⟨#[]⟩]) 7 80 Tryz.underlying28 I0.out I1.out I2.out I3.out rfl (by decide) _ 0 [] rfl (own_emptyZ rfl (Nat.le_refl _)) aA k ac rfl C18 ((HR18.out.row.toS (by decide)).below (B4.out.trans (by (repeat (first | (with_reducible first | exact Below.refl _ _ | assumption | refine Below.drew ?_) | ((with_reducible first | refine Below.alloc ?_ ?_ _ | refine Below.setCell ?_ ?_ _); rotate_left; (first | omega | (simp <;> omega)))))))) (rowA (elA 9 C18) k) HL.out HA.out HO.out (by have := HAN.out; simp only [maxLen]; omega) (by have := HAN.out; omega) (by simp) ?_); intro A1 c1 w5 ho5 hg5 hv5; simp only [List.nil_append, Nat.zero_add] at ho5 hv5; have HO5 := hide ho5; have K5 := hide (show Below w4.heap.size w4 w5 from Below.trans (by (repeat (first | (with_reducible first | exact Below.refl _ _ | assumption | refine Below.drew ?_) | ((with_reducible first | refine Below.alloc ?_ ?_ _ | refine Below.setCell ?_ ?_ _); rotate_left; (first | omega | (simp <;> omega)))))) (below_grown (B := w4.heap.size) hg5 (by simp) (fun q hq => Nat.le_of_eq (Option.some.inj hq)))); clear ho5 hg5 hv5)
      have HX5 := hide (blk_below K5.out zx4 HX4.out)
      have HR5 := hide (blk_below K5.out zr4 HR4.out)
      have z5 := K5.out.size
      have hb := K5.out
      have q4B : Below w4.heap.size w4 w5 := (by refine Below.trans ?_ (hb.mono (by first | omega | (simp <;> omega))); (repeat (first | (with_reducible first | exact Below.refl _ _ | assumption | refine Below.drew ?_) | ((with_reducible first | refine Below.alloc ?_ ?_ _ | refine Below.setCell ?_ ?_ _); rotate_left; (first | omega | (simp <;> omega))))))
      have q4z := hb.size
      try simp at q4z
      have q4t : w4.heap.size ≤ w5.heap.size := (by omega)
      have q4s0 : w.heap.size + 1 < w5.heap.size := (by omega)
      have q4n0_0 : ¬ w5.heap.size = w.heap.size + 1 := (by omega)
      have q4n0_1 : ¬ w5.heap.size + 1 = w.heap.size + 1 := (by omega)
      have q4n0_2 : ¬ w5.heap.size + 2 = w.heap.size + 1 := (by omega)
      have q4c0_0 := hb.cell (p := ⟨w.heap.size + 1, 0, none⟩) (by first | omega | (simp <;> omega))
      simp [go_sem, *] at q4c0_0
      have q4c0_1 := hb.cell (p := ⟨w.heap.size + 1, 1, none⟩) (by first | omega | (simp <;> omega))
      simp [go_sem, *] at q4c0_1
      have q4c0_2 := hb.cell (p := ⟨w.heap.size + 1, 2, none⟩) (by first | omega | (simp <;> omega))
      simp [go_sem, *] at q4c0_2
      have q4c0_3 := hb.cell (p := ⟨w.heap.size + 1, 3, none⟩) (by first | omega | (simp <;> omega))
      simp [go_sem, *] at q4c0_3
      have q4c0_4 := hb.cell (p := ⟨w.heap.size + 1, 4, none⟩) (by first | omega | (simp <;> omega))
      simp [go_sem, *] at q4c0_4
      have q4c0_5 := hb.cell (p := ⟨w.heap.size + 1, 5, none⟩) (by first | omega | (simp <;> omega))
      simp [go_sem, *] at q4c0_5
      have q4c0_6 := hb.cell (p := ⟨w.heap.size + 1, 6, none⟩) (by first | omega | (simp <;> omega))
      simp [go_sem, *] at q4c0_6
      have q4f0 := fun o => hb.frozen (p := ⟨w.heap.size + 1, o, none⟩) (by first | omega | (simp <;> omega))
      simp [go_sem, *] at q4f0
      have q4o : ∀ b o, b < w4.heap.size → w5.cell? ⟨b, o, none⟩ = w4.cell? ⟨b, o, none⟩ := fun b o h => q4B.cell (p := ⟨b, o, none⟩) h
      clear hb q3o q3f1 q3c1_6 q3c1_5 q3c1_4 q3c1_3 q3c1_2 q3c1_1 q3c1_0 q3s1 q3f0 q3c0_18 q3s0 q3z q3B
      have HB5 := hide (B4.out.trans (K5.out.mono z4))
      go_cut [5] (fun v5 wx => v5 = .int .i64 0 ∧ RpCut X x C18 k (w.heap.size + 1 + 1) w4 wx)
      case first =>
        refine ord_start (SB (0) [] _) 8 (preB 0 8) (by kernel_rfl) (by kernel_rfl) (by kernel_rfl) SB.refl.drew (fun hHeld => ?_)
        refine oT (i := 1) #[false, true, false, false, false, false, false, false] ?_ rfl hHeld (fun wx hSx => ?_) ?_
        rotate_left
        · (unfold SB at hSx; go_simp; (try with_reducible rfl))
        (try simp only [Act.put, putS])
        refine wpAnyH_ready (rs := [0, 2]) (by kernel_rfl) (by simp) ?_
        refine ord_run (i := 0) (preB 2 6) rfl (by kernel_rfl) (by rfl) (fun K hK => ?_) ?_
        · ((refine wp_load_row 33 (.tmp 2) rfl w.heap.size rfl 33 X (0, 0) _ (by first | exact HX5.out | exact blk_drew HX5.out | exact blk_under HX5.out | exact blk_under (blk_drew HX5.out) | exact HX8.out) Tryz.underlying33 rfl HXS.out ?_))
          refine hK.out _ _ ?_ (fun hHeld => ?_)
          · exact fun _ _ h => absurd h (Nat.not_lt_zero _)
          clear hK K
          (try simp only [Act.put, putS])
          refine wpAnyH_ready (rs := [2]) (by kernel_rfl) (by simp) ?_
          refine ord_run (i := 2) (preB 3 5) rfl (by kernel_rfl) (by rfl) (fun K hK => ?_) AllReadyH.nil
          go_simp
          refine hK.out _ _ ?_ (fun hHeld => ?_)
          · exact fun _ _ h => absurd h (Nat.not_lt_zero _)
          clear hK K
          (try simp only [Act.put, putS])
          refine wpAnyH_ready (rs := [3]) (by kernel_rfl) (by simp) ?_
          refine ord_run (i := 3) (preB 4 4) rfl (by kernel_rfl) (by rfl) (fun K hK => ?_) AllReadyH.nil
          go_simp
          refine hK.out _ _ ?_ (fun hHeld => ?_)
          · exact fun _ _ h => absurd h (Nat.not_lt_zero _)
          clear hK K
          (try simp only [Act.put, putS])
          refine wpAnyH_ready (rs := [4]) (by kernel_rfl) (by simp) ?_
          refine ord_run (i := 4) (preB 5 3) rfl (by kernel_rfl) (by rfl) (fun K hK => ?_) AllReadyH.nil
          (refine wp_append_rowS (.tmp 57) (.tmp 59) 28 rfl w4.heap.size 35 i9 (.agg #[.int .i64 0, .int .i64 0, .int .i64 0, .int .i64 0, .string ⟨#[]⟩, .string ⟨#[]⟩, .string ⟨#[]⟩]) 7 80 Tryz.underlying28 I0.out I1.out I2.out I3.out rfl (by decide) (.slice A1 k c1) k (rowA (elA 9 C18) k) rfl (by first | exact HO5.out.alloc _ | exact HO5.out.drew.alloc _) (some ⟨w5.heap.size, 0, none⟩) 1 1 rfl (fun _ j => accC x j) (rowS_of (blk_new rfl) (acc_row x)) (accA x).toList rfl (acc_rowL x) (ones_of (acc_ones x)) (by have := HAN.out; simp only [maxLen]; omega) (by have := HAN.out; omega) (by simp; omega) ?_; intro A2 c2 w8 ho8 hg8 hv8; have HO8 := hide ho8; have K8 := hide (show Below w4.heap.size w4 w8 from K5.out.trans (Below.trans (by (repeat (first | (with_reducible first | exact Below.refl _ _ | assumption | refine Below.drew ?_) | ((with_reducible first | refine Below.alloc ?_ ?_ _ | refine Below.setCell ?_ ?_ _); rotate_left; (first | omega | (simp <;> omega)))))) (below_grown hg8 (by simp; omega) (fun q hq => (HO5.out.lt q hq).1)))); have z8 := K8.out.size; have HX8 := hide (blk_below K8.out zx4 HX4.out); have HR8 := hide (blk_below K8.out zr4 HR4.out); clear ho8 hg8 hv8)
          refine hK.out _ _ ?_ (fun hHeld => ?_)
          · exact fun _ _ h => absurd h (Nat.not_lt_zero _)
          clear hK K
          (try simp only [Act.put, putS])
          refine wpAnyH_ready (rs := [5]) (by kernel_rfl) (by simp) ?_
          refine ord_run (i := 5) (preB 6 2) rfl (by kernel_rfl) (by rfl) (fun K hK => ?_) AllReadyH.nil
          go_simp
          go_wp2_with (go_at_call 23; refine (put_any X HX.out.size HX.out.ones A2 (k + 1) c2 _).mono ?_; rintro r w9 ⟨rfl, hb⟩; have K9 := hide (show Below w8.heap.size w8 w9 from Below.trans (by (repeat (first | (with_reducible first | exact Below.refl _ _ | assumption | refine Below.drew ?_) | ((with_reducible first | refine Below.alloc ?_ ?_ _ | refine Below.setCell ?_ ?_ _); rotate_left; (first | omega | (simp <;> omega)))))) hb); have HR9 := hide (blk_below K9.out (by omega) HR8.out); clear hb)
          refine hK.out _ _ ?_ (fun hHeld => ?_)
          · exact fun _ _ h => absurd h (Nat.not_lt_zero _)
          clear hK K
          (try simp only [Act.put, putS])
          refine wpAnyH_ready (rs := [6]) (by kernel_rfl) (by simp) ?_
          refine ord_run (i := 6) (preB 7 1) rfl (by kernel_rfl) (by rfl) (fun K hK => ?_) AllReadyH.nil
          (refine wp_store_newrow 33 (.tmp 4) (.tmp 61) rfl rfl (w.heap.size + 1 + 1) (X.setIfInBounds 18 (.slice A2 (k + 1) c2)) rfl rfl 33 Z HR9.out (zb_size (by rw [Array.size_setIfInBounds]; exact HX.out.size)) (by rw [HZS.out, Array.size_setIfInBounds]; exact HX.out.size.symm) (all_setZ HX.out.ones rfl) ?_; intro w10 hb10 hs10 hx10 hk10)
          refine hK.out _ _ ?_ (fun hHeld => ?_)
          · exact fun _ _ h => absurd h (Nat.not_lt_zero _)
          clear hK K
          (try simp only [Act.put, putS])
          refine oT (i := 7) (preB 8 0) ?_ rfl hHeld (fun wx hSx => ?_) ?_
          rotate_left
          · (unfold SB at hSx; go_simp; (try with_reducible rfl))
          (try simp only [Act.put, putS])
          refine wpAnyH_done (by kernel_rfl) ?_ _
          go_wp2_with fail
          go_meet
          refine ⟨rfl, _, hx10, A2, c2, rfl, ?_, ?_⟩
          · refine own_keepO (own_keepB HO8.out (fun b h1 h2 => K9.out.block b h2)) (fun b hb => ?_)
            have hq := (HO8.out.lt b hb).1
            exact hk10 b (by omega)
          · exact (K8.out.mono (by omega)).trans ((K9.out.mono (by omega)).trans hb10)
        refine ord_run (i := 2) #[false, true, true, false, false, false, false, false] rfl (by kernel_rfl) (by rfl) (fun K hK => ?_) ?_
        · go_simp
          refine hK.out _ _ ?_ (fun hHeld => ?_)
          · exact fun _ _ h => absurd h (Nat.not_lt_zero _)
          clear hK K
          (try simp only [Act.put, putS])
          refine wpAnyH_ready (rs := [0, 3]) (by kernel_rfl) (by simp) ?_
          refine ord_run (i := 0) (preB 3 5) rfl (by kernel_rfl) (by rfl) (fun K hK => ?_) ?_
          · ((refine wp_load_row 33 (.tmp 2) rfl w.heap.size rfl 33 X (0, 0) _ (by first | exact HX5.out | exact blk_drew HX5.out | exact blk_under HX5.out | exact blk_under (blk_drew HX5.out) | exact HX8.out) Tryz.underlying33 rfl HXS.out ?_))
            refine hK.out _ _ ?_ (fun hHeld => ?_)
            · exact fun _ _ h => absurd h (Nat.not_lt_zero _)
            clear hK K
            (try simp only [Act.put, putS])
            refine wpAnyH_ready (rs := [3]) (by kernel_rfl) (by simp) ?_
            refine ord_run (i := 3) (preB 4 4) rfl (by kernel_rfl) (by rfl) (fun K hK => ?_) AllReadyH.nil
            go_simp
            refine hK.out _ _ ?_ (fun hHeld => ?_)
            · exact fun _ _ h => absurd h (Nat.not_lt_zero _)
            clear hK K
            (try simp only [Act.put, putS])
            refine wpAnyH_ready (rs := [4]) (by kernel_rfl) (by simp) ?_
            refine ord_run (i := 4) (preB 5 3) rfl (by kernel_rfl) (by rfl) (fun K hK => ?_) AllReadyH.nil
            (refine wp_append_rowS (.tmp 57) (.tmp 59) 28 rfl w4.heap.size 35 i9 (.agg #[.int .i64 0, .int .i64 0, .int .i64 0, .int .i64 0, .string ⟨#[]⟩, .string ⟨#[]⟩, .string ⟨#[]⟩]) 7 80 Tryz.underlying28 I0.out I1.out I2.out I3.out rfl (by decide) (.slice A1 k c1) k (rowA (elA 9 C18) k) rfl (by first | exact HO5.out.alloc _ | exact HO5.out.drew.alloc _) (some ⟨w5.heap.size, 0, none⟩) 1 1 rfl (fun _ j => accC x j) (rowS_of (blk_new rfl) (acc_row x)) (accA x).toList rfl (acc_rowL x) (ones_of (acc_ones x)) (by have := HAN.out; simp only [maxLen]; omega) (by have := HAN.out; omega) (by simp; omega) ?_; intro A2 c2 w8 ho8 hg8 hv8; have HO8 := hide ho8; have K8 := hide (show Below w4.heap.size w4 w8 from K5.out.trans (Below.trans (by (repeat (first | (with_reducible first | exact Below.refl _ _ | assumption | refine Below.drew ?_) | ((with_reducible first | refine Below.alloc ?_ ?_ _ | refine Below.setCell ?_ ?_ _); rotate_left; (first | omega | (simp <;> omega)))))) (below_grown hg8 (by simp; omega) (fun q hq => (HO5.out.lt q hq).1)))); have z8 := K8.out.size; have HX8 := hide (blk_below K8.out zx4 HX4.out); have HR8 := hide (blk_below K8.out zr4 HR4.out); clear ho8 hg8 hv8)
            refine hK.out _ _ ?_ (fun hHeld => ?_)
            · exact fun _ _ h => absurd h (Nat.not_lt_zero _)
            clear hK K
            (try simp only [Act.put, putS])
            refine wpAnyH_ready (rs := [5]) (by kernel_rfl) (by simp) ?_
            refine ord_run (i := 5) (preB 6 2) rfl (by kernel_rfl) (by rfl) (fun K hK => ?_) AllReadyH.nil
            go_simp
            go_wp2_with (go_at_call 23; refine (put_any X HX.out.size HX.out.ones A2 (k + 1) c2 _).mono ?_; rintro r w9 ⟨rfl, hb⟩; have K9 := hide (show Below w8.heap.size w8 w9 from Below.trans (by (repeat (first | (with_reducible first | exact Below.refl _ _ | assumption | refine Below.drew ?_) | ((with_reducible first | refine Below.alloc ?_ ?_ _ | refine Below.setCell ?_ ?_ _); rotate_left; (first | omega | (simp <;> omega)))))) hb); have HR9 := hide (blk_below K9.out (by omega) HR8.out); clear hb)
            refine hK.out _ _ ?_ (fun hHeld => ?_)
            · exact fun _ _ h => absurd h (Nat.not_lt_zero _)
            clear hK K
            (try simp only [Act.put, putS])
            refine wpAnyH_ready (rs := [6]) (by kernel_rfl) (by simp) ?_
            refine ord_run (i := 6) (preB 7 1) rfl (by kernel_rfl) (by rfl) (fun K hK => ?_) AllReadyH.nil
            (refine wp_store_newrow 33 (.tmp 4) (.tmp 61) rfl rfl (w.heap.size + 1 + 1) (X.setIfInBounds 18 (.slice A2 (k + 1) c2)) rfl rfl 33 Z HR9.out (zb_size (by rw [Array.size_setIfInBounds]; exact HX.out.size)) (by rw [HZS.out, Array.size_setIfInBounds]; exact HX.out.size.symm) (all_setZ HX.out.ones rfl) ?_; intro w10 hb10 hs10 hx10 hk10)
            refine hK.out _ _ ?_ (fun hHeld => ?_)
            · exact fun _ _ h => absurd h (Nat.not_lt_zero _)
            clear hK K
            (try simp only [Act.put, putS])
            refine oT (i := 7) (preB 8 0) ?_ rfl hHeld (fun wx hSx => ?_) ?_
            rotate_left
            · (unfold SB at hSx; go_simp; (try with_reducible rfl))
            (try simp only [Act.put, putS])
            refine wpAnyH_done (by kernel_rfl) ?_ _
            go_wp2_with fail
            go_meet
            refine ⟨rfl, _, hx10, A2, c2, rfl, ?_, ?_⟩
            · refine own_keepO (own_keepB HO8.out (fun b h1 h2 => K9.out.block b h2)) (fun b hb => ?_)
              have hq := (HO8.out.lt b hb).1
              exact hk10 b (by omega)
            · exact (K8.out.mono (by omega)).trans ((K9.out.mono (by omega)).trans hb10)
          refine ord_run (i := 3) #[false, true, true, true, false, false, false, false] rfl (by kernel_rfl) (by rfl) (fun K hK => ?_) ?_
          · go_simp
            refine hK.out _ _ ?_ (fun hHeld => ?_)
            · exact fun _ _ h => absurd h (Nat.not_lt_zero _)
            clear hK K
            (try simp only [Act.put, putS])
            refine wpAnyH_ready (rs := [0, 4]) (by kernel_rfl) (by simp) ?_
            refine ord_run (i := 0) (preB 4 4) rfl (by kernel_rfl) (by rfl) (fun K hK => ?_) ?_
            · ((refine wp_load_row 33 (.tmp 2) rfl w.heap.size rfl 33 X (0, 0) _ (by first | exact HX5.out | exact blk_drew HX5.out | exact blk_under HX5.out | exact blk_under (blk_drew HX5.out) | exact HX8.out) Tryz.underlying33 rfl HXS.out ?_))
              refine hK.out _ _ ?_ (fun hHeld => ?_)
              · exact fun _ _ h => absurd h (Nat.not_lt_zero _)
              clear hK K
              (try simp only [Act.put, putS])
              refine wpAnyH_ready (rs := [4]) (by kernel_rfl) (by simp) ?_
              refine ord_run (i := 4) (preB 5 3) rfl (by kernel_rfl) (by rfl) (fun K hK => ?_) AllReadyH.nil
              (refine wp_append_rowS (.tmp 57) (.tmp 59) 28 rfl w4.heap.size 35 i9 (.agg #[.int .i64 0, .int .i64 0, .int .i64 0, .int .i64 0, .string ⟨#[]⟩, .string ⟨#[]⟩, .string ⟨#[]⟩]) 7 80 Tryz.underlying28 I0.out I1.out I2.out I3.out rfl (by decide) (.slice A1 k c1) k (rowA (elA 9 C18) k) rfl (by first | exact HO5.out.alloc _ | exact HO5.out.drew.alloc _) (some ⟨w5.heap.size, 0, none⟩) 1 1 rfl (fun _ j => accC x j) (rowS_of (blk_new rfl) (acc_row x)) (accA x).toList rfl (acc_rowL x) (ones_of (acc_ones x)) (by have := HAN.out; simp only [maxLen]; omega) (by have := HAN.out; omega) (by simp; omega) ?_; intro A2 c2 w8 ho8 hg8 hv8; have HO8 := hide ho8; have K8 := hide (show Below w4.heap.size w4 w8 from K5.out.trans (Below.trans (by (repeat (first | (with_reducible first | exact Below.refl _ _ | assumption | refine Below.drew ?_) | ((with_reducible first | refine Below.alloc ?_ ?_ _ | refine Below.setCell ?_ ?_ _); rotate_left; (first | omega | (simp <;> omega)))))) (below_grown hg8 (by simp; omega) (fun q hq => (HO5.out.lt q hq).1)))); have z8 := K8.out.size; have HX8 := hide (blk_below K8.out zx4 HX4.out); have HR8 := hide (blk_below K8.out zr4 HR4.out); clear ho8 hg8 hv8)
              refine hK.out _ _ ?_ (fun hHeld => ?_)
              · exact fun _ _ h => absurd h (Nat.not_lt_zero _)
              clear hK K
              (try simp only [Act.put, putS])
              refine wpAnyH_ready (rs := [5]) (by kernel_rfl) (by simp) ?_
              refine ord_run (i := 5) (preB 6 2) rfl (by kernel_rfl) (by rfl) (fun K hK => ?_) AllReadyH.nil
              go_simp
              go_wp2_with (go_at_call 23; refine (put_any X HX.out.size HX.out.ones A2 (k + 1) c2 _).mono ?_; rintro r w9 ⟨rfl, hb⟩; have K9 := hide (show Below w8.heap.size w8 w9 from Below.trans (by (repeat (first | (with_reducible first | exact Below.refl _ _ | assumption | refine Below.drew ?_) | ((with_reducible first | refine Below.alloc ?_ ?_ _ | refine Below.setCell ?_ ?_ _); rotate_left; (first | omega | (simp <;> omega)))))) hb); have HR9 := hide (blk_below K9.out (by omega) HR8.out); clear hb)
              refine hK.out _ _ ?_ (fun hHeld => ?_)
              · exact fun _ _ h => absurd h (Nat.not_lt_zero _)
              clear hK K
              (try simp only [Act.put, putS])
              refine wpAnyH_ready (rs := [6]) (by kernel_rfl) (by simp) ?_
              refine ord_run (i := 6) (preB 7 1) rfl (by kernel_rfl) (by rfl) (fun K hK => ?_) AllReadyH.nil
              (refine wp_store_newrow 33 (.tmp 4) (.tmp 61) rfl rfl (w.heap.size + 1 + 1) (X.setIfInBounds 18 (.slice A2 (k + 1) c2)) rfl rfl 33 Z HR9.out (zb_size (by rw [Array.size_setIfInBounds]; exact HX.out.size)) (by rw [HZS.out, Array.size_setIfInBounds]; exact HX.out.size.symm) (all_setZ HX.out.ones rfl) ?_; intro w10 hb10 hs10 hx10 hk10)
              refine hK.out _ _ ?_ (fun hHeld => ?_)
              · exact fun _ _ h => absurd h (Nat.not_lt_zero _)
              clear hK K
              (try simp only [Act.put, putS])
              refine oT (i := 7) (preB 8 0) ?_ rfl hHeld (fun wx hSx => ?_) ?_
              rotate_left
              · (unfold SB at hSx; go_simp; (try with_reducible rfl))
              (try simp only [Act.put, putS])
              refine wpAnyH_done (by kernel_rfl) ?_ _
              go_wp2_with fail
              go_meet
              refine ⟨rfl, _, hx10, A2, c2, rfl, ?_, ?_⟩
              · refine own_keepO (own_keepB HO8.out (fun b h1 h2 => K9.out.block b h2)) (fun b hb => ?_)
                have hq := (HO8.out.lt b hb).1
                exact hk10 b (by omega)
              · exact (K8.out.mono (by omega)).trans ((K9.out.mono (by omega)).trans hb10)
            refine ord_run (i := 4) #[false, true, true, true, true, false, false, false] rfl (by kernel_rfl) (by rfl) (fun K hK => ?_) ?_
            · (refine wp_append_rowS (.tmp 57) (.tmp 59) 28 rfl w4.heap.size 35 i9 (.agg #[.int .i64 0, .int .i64 0, .int .i64 0, .int .i64 0, .string ⟨#[]⟩, .string ⟨#[]⟩, .string ⟨#[]⟩]) 7 80 Tryz.underlying28 I0.out I1.out I2.out I3.out rfl (by decide) (.slice A1 k c1) k (rowA (elA 9 C18) k) rfl (by first | exact HO5.out.alloc _ | exact HO5.out.drew.alloc _) (some ⟨w5.heap.size, 0, none⟩) 1 1 rfl (fun _ j => accC x j) (rowS_of (blk_new rfl) (acc_row x)) (accA x).toList rfl (acc_rowL x) (ones_of (acc_ones x)) (by have := HAN.out; simp only [maxLen]; omega) (by have := HAN.out; omega) (by simp; omega) ?_; intro A2 c2 w8 ho8 hg8 hv8; have HO8 := hide ho8; have K8 := hide (show Below w4.heap.size w4 w8 from K5.out.trans (Below.trans (by (repeat (first | (with_reducible first | exact Below.refl _ _ | assumption | refine Below.drew ?_) | ((with_reducible first | refine Below.alloc ?_ ?_ _ | refine Below.setCell ?_ ?_ _); rotate_left; (first | omega | (simp <;> omega)))))) (below_grown hg8 (by simp; omega) (fun q hq => (HO5.out.lt q hq).1)))); have z8 := K8.out.size; have HX8 := hide (blk_below K8.out zx4 HX4.out); have HR8 := hide (blk_below K8.out zr4 HR4.out); clear ho8 hg8 hv8)
              refine hK.out _ _ ?_ (fun hHeld => ?_)
              · exact fun _ _ h => absurd h (Nat.not_lt_zero _)
              clear hK K
              (try simp only [Act.put, putS])
              refine wpAnyH_ready (rs := [0]) (by kernel_rfl) (by simp) ?_
              refine ord_run (i := 0) (preB 5 3) rfl (by kernel_rfl) (by rfl) (fun K hK => ?_) AllReadyH.nil
              ((refine wp_load_row 33 (.tmp 2) rfl w.heap.size rfl 33 X (0, 0) _ (by first | exact HX5.out | exact blk_drew HX5.out | exact blk_under HX5.out | exact blk_under (blk_drew HX5.out) | exact HX8.out) Tryz.underlying33 rfl HXS.out ?_))
              refine hK.out _ _ ?_ (fun hHeld => ?_)
              · exact fun _ _ h => absurd h (Nat.not_lt_zero _)
              clear hK K
              (try simp only [Act.put, putS])
              refine wpAnyH_ready (rs := [5]) (by kernel_rfl) (by simp) ?_
              refine ord_run (i := 5) (preB 6 2) rfl (by kernel_rfl) (by rfl) (fun K hK => ?_) AllReadyH.nil
              go_simp
              go_wp2_with (go_at_call 23; refine (put_any X HX.out.size HX.out.ones A2 (k + 1) c2 _).mono ?_; rintro r w9 ⟨rfl, hb⟩; have K9 := hide (show Below w8.heap.size w8 w9 from Below.trans (by (repeat (first | (with_reducible first | exact Below.refl _ _ | assumption | refine Below.drew ?_) | ((with_reducible first | refine Below.alloc ?_ ?_ _ | refine Below.setCell ?_ ?_ _); rotate_left; (first | omega | (simp <;> omega)))))) hb); have HR9 := hide (blk_below K9.out (by omega) HR8.out); clear hb)
              refine hK.out _ _ ?_ (fun hHeld => ?_)
              · exact fun _ _ h => absurd h (Nat.not_lt_zero _)
              clear hK K
              (try simp only [Act.put, putS])
              refine wpAnyH_ready (rs := [6]) (by kernel_rfl) (by simp) ?_
              refine ord_run (i := 6) (preB 7 1) rfl (by kernel_rfl) (by rfl) (fun K hK => ?_) AllReadyH.nil
              (refine wp_store_newrow 33 (.tmp 4) (.tmp 61) rfl rfl (w.heap.size + 1 + 1) (X.setIfInBounds 18 (.slice A2 (k + 1) c2)) rfl rfl 33 Z HR9.out (zb_size (by rw [Array.size_setIfInBounds]; exact HX.out.size)) (by rw [HZS.out, Array.size_setIfInBounds]; exact HX.out.size.symm) (all_setZ HX.out.ones rfl) ?_; intro w10 hb10 hs10 hx10 hk10)
              refine hK.out _ _ ?_ (fun hHeld => ?_)
              · exact fun _ _ h => absurd h (Nat.not_lt_zero _)
              clear hK K
              (try simp only [Act.put, putS])
              refine oT (i := 7) (preB 8 0) ?_ rfl hHeld (fun wx hSx => ?_) ?_
              rotate_left
              · (unfold SB at hSx; go_simp; (try with_reducible rfl))
              (try simp only [Act.put, putS])
              refine wpAnyH_done (by kernel_rfl) ?_ _
              go_wp2_with fail
              go_meet
              refine ⟨rfl, _, hx10, A2, c2, rfl, ?_, ?_⟩
              · refine own_keepO (own_keepB HO8.out (fun b h1 h2 => K9.out.block b h2)) (fun b hb => ?_)
                have hq := (HO8.out.lt b hb).1
                exact hk10 b (by omega)
              · exact (K8.out.mono (by omega)).trans ((K9.out.mono (by omega)).trans hb10)
            exact AllReadyH.nil
          exact AllReadyH.nil
        exact AllReadyH.nil
      case rest =>
        rename World => w11
        obtain ⟨rfl, D, hD1, A2, c2, hD2, ho2, hb2⟩ := hcut
        have HFR := hide (And.intro hD1 hD2)
        have HOW2 := hide ho2
        have HB11 := hide (B4.out.trans (hb2.mono (by omega)))
        go_wp2_with fail
        refine bodyPost_ret (v := .tuple #[.agg D, .int .i64 0]) (results_row_tmp (fn := Tryz.f8) rfl _ _ (w.heap.size + 1 + 1) 33 D (0, 0) _ rfl HFR.out.1 _ rfl Tryz.underlying33 rfl (zb_size (by rw [HFR.out.2, Array.size_setIfInBounds]; exact HX.out.size))) rfl ?_
        exact ⟨D, by rw [HE.out], by rw [HE.out, if_pos rfl, HFR.out.2]; exact ropen_fin HX.out HB11.out HQ18.out HK18.out HR18.out HOW2.out, HB11.out⟩
end Go.Proofs.YtdjhkhadjmndoaaGreatDoor
