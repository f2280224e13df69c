/- Texts laid together: Euh. -/
import Derived.Test.YtdjlaiilngechaaGreatDoorXExW
import Derived.Test.YtdjlaiilngechaaGreatDoorXExQ
import Derived.Test.YtdjlaiilngechaaGreatDoorXAcV
import Derived.Test.YtdjlaiilngechaaGreatDoorXEys
import Derived.Test.YtdjlaiilngechaaGreatDoorXEya
import Derived.Deep.DeepCutAuto
import Derived.Deep.QuietTactic
import Derived.BigQuiet
import Derived.Test.YtdjlaiilngechaaGreatDoorXK0
namespace Go.Proofs.YtdjlaiilngechaaGreatDoor
set_option maxRecDepth 4000
set_option linter.unusedSimpArgs false
set_option linter.unusedVariables false
open Go.RowKit
noncomputable def dyF (B : LBk) (id f : Int) (k : Nat) : Lin := oneP B (acrN B id f k)
def RlI (F : Nat → Lin) (n : Nat) (w1 : World) (v12 v13 : Value) (wr : World) : Prop :=
 ∃ (k : Nat) (A : Option Addr) (c : Nat) (l : List LnR), k ≤ n ∧ v13 = .int .i64 k ∧ v12 = .slice A l.length c ∧ wr.ownsRow w1.heap.size 58 7 (.slice A l.length c) l.length (l.flatMap linLL) ∧
  (∀ z, z ∈ l → rowV (.slice A l.length c) wr z) ∧ l.map (·.1) = lnL F k ∧ Below w1.heap.size w1 wr
/-- Behind the day's line: its box. -/
def RlX (x : Lin) (wr : World) (v14 : Value) (wx : World) : Prop :=
 ∃ p A c, v14 = .pointer (some ⟨p, 0, none⟩) ∧ Below wr.heap.size wr wx ∧ wr.heap.size ≤ p ∧ p < wx.heap.size ∧ Row2 wx A x.sl.length (fsts x.sl) (snds x.sl) ∧ (0 < x.sl.length → ∀ b off, A = some ⟨b, off, none⟩ → wr.heap.size ≤ b) ∧
  (wx.cell? ⟨p, 0, none⟩ = some (.int .i64 x.fr) ∧ wx.cell? ⟨p, 1, none⟩ = some (.int .i64 x.tt) ∧ wx.cell? ⟨p, 2, none⟩ = some (.int .i64 x.bl) ∧ wx.cell? ⟨p, 3, none⟩ = some (.int .i64 x.we) ∧ wx.cell? ⟨p, 4, none⟩ = some (.slice A x.sl.length c) ∧
   wx.cell? ⟨p, 5, none⟩ = some (.int .i64 (hiW x.gr)) ∧ wx.cell? ⟨p, 6, none⟩ = some (.int .u64 (loW x.gr)))
theorem gr_bel {W A : World} {r : Option Nat} (h : Below W.heap.size W A) : W.grownBy A r := ⟨h.os, h.tape, h.output, h.size, fun k hk _ => h.block k hk⟩
set_option maxRecDepth 8000 in
set_option maxHeartbeats 40000000 in
theorem rlines_any (B : LBk) (hB : BkOK B) (id f t : Int) (hn : serE B id f t = 0 → t - f ≤ 199) (w : World) (hw : BkIn w B) :
  Calls Tryz.prog 9 #[.agg B.C, .int .i64 id, .int .i64 f, .int .i64 t] w (LinesRet B id f t w) := by
 have HB0 := hide hB
 have HW := hide hw
 have HS := hide (bk_size hB)
 clear hB hw
 obtain ⟨i0, hi0, hz00, hz1, hz2⟩ := info_parts line_info
 by_cases h0 : serE B id f t = 0
 ·have hf := ser_fine h0
  rw [vday_iff, vday_iff] at hf
  have hle : f ≤ t := by
   by_cases h : t < f
   ·exfalso
    obtain ⟨a1, a2, a3⟩ := ser_fine h0
    unfold serE at h0
    rw [if_neg (by rw [a1]; decide), if_neg (by rw [a2]; decide), if_neg (by rw [a3]; decide), if_pos h] at h0
    cases h0
   ·omega
  obtain ⟨n, hnn⟩ : ∃ n : Nat, (n : Int) = t - f + 1 := ⟨(t - f + 1).toNat, by omega⟩
  have hn2 : n ≤ 200 := by have := hn h0; omega
  have HSR := hide (fun W h => by have z := rseries_any B HB0.out id f t W h; unfold SerRet at z; rw [h0] at z; exact z)
  have HSW := hide (fun (w : World) (A : Option Addr) h => ser_row (w := w) (A := A) h0 hnn h)
  have HRT := hide (show LinesRet B id f t = fun (w : World) (e : Ending) (w' : World) => ∃ A c l, e = .returned (.tuple #[.slice A l.length c, .int .i64 0]) ∧ RowLn w' A l.length (atX l) ∧ l.map (·.1) = lnL (dyF B id f) n ∧ Below w.heap.size w w' from by
   funext w e w'
   unfold LinesRet lnsL
   rw [h0, if_pos rfl, show (t - f + 1).toNat = n by omega]
   rfl)
  rw [HRT.out]
  clear h0 hf hle hnn hn
  obtain ⟨F, hF⟩ : ∃ F, F = dyF B id f := ⟨_, rfl⟩
  rw [← hF]
  have HFB := hide (fun i => show LinB 1 (F i) by rw [hF]; exact oneP_bd (acrN_fine B id f i).1)
  have HFR := hide hF
  clear hF
  go_enter Tryz.func9, Tryz.ntmps9
  go_wp2_with (with_reducible refine wpList_load_row rfl 33 (.tmp 4) rfl w.heap.size rfl 33 B.C (0, 0) _ (blk_new rfl) Tryz.underlying33 rfl HS.out ?_)
  refine (HSR.out _ (HW.out.below belT)).mono ?_
  rintro e w1 ⟨A, cc, rfl, hrow, hb⟩
  obtain ⟨e1, hra⟩ := HSW.out _ _ hrow
  rw [e1]
  have X1 := hide (blk_below (k := w.heap.size) (x := .cells B.C 33 (0, 0)) hb (by simp) (blk_new rfl))
  have Q1 := hide (show Below w.heap.size w w1 from Below.trans belT (hb.mono (by simp)))
  have hw1 : w.heap.size < w1.heap.size := by have := hb.size; simp at this; omega
  have HRA := hide hra
  clear hrow hra e1 hb
  go_wp2_with fail
  go_loopw [12, 13] (fun v12 v13 wr => RlI F n w1 v12 v13 wr) (fun _ v _ => n - (intOf v).toNat)
  case atStart => exact ⟨0, none, 0, [], by omega, rfl, rfl, ⟨by simp, .inl ⟨rfl, rfl⟩⟩, fun z hz => by simp at hz, rfl, Below.refl _ _⟩
  case round =>
   obtain ⟨k, A1, c1, l, hk, rfl, rfl, ho, hv, hl, hB⟩ := hrel
   obtain ⟨L, hL⟩ : ∃ L, L = l.length := ⟨_, rfl⟩
   rw [← hL] at ho hv ⊢
   have HLL := hide hL
   have hLk : L ≤ 200 := by have t := congrArg List.length hl; rw [List.length_map] at t; have := lnL_len F k; omega
   clear hL
   obtain ⟨V1, hV1⟩ : ∃ V1, V1 = Value.slice A1 L c1 := ⟨_, rfl⟩
   have HVV := hide (show ∀ z, z ∈ l → rowV V1 wr z by rw [hV1]; exact hv)
   have HOV := hide (show ∀ q, V1.ownBlock = some q → w1.heap.size ≤ q ∧ q < wr.heap.size by rw [hV1]; exact fun q e => ho.lt q e)
   have HV1 := hide hV1
   clear hV1
   have HO := hide ho
   have HV := hide hv
   have HL := hide hl
   have HB := hide hB
   have hzB := hB.size
   have X2 := hide (blk_below hB hw1 X1.out)
   have hwr : w.heap.size < wr.heap.size := by omega
   clear ho hv hl
   by_cases hlt : k < n
   ·obtain ⟨b1, o1, rfl, hb1, c0, c1', c2, c3, c4, c5', c6⟩ := RowAcr.at (RowS.below HRA.out hB) hlt
    have hm1 : (k : Int) < n := by omega
    have hm3 : (0 : Int) ≤ (k : Int) := by omega
    have HK := hide hlt
    have QR := hide (Q1.out.trans (hB.mono Q1.out.size))
    have HRN := hide (fun W h => show Calls Tryz.prog 30 #[.agg B.C, AcrV (acrN B id f k)] W (LinRet (F k) W) by rw [HFR.out]; exact rone_any B HB0.out (acrN B id f k) (acrN_fine B id f k).1 (acrN_fine B id f k).2 W h)
    clear hlt hk
    go_upto_region 8 with fail
    go_cut [14] (fun v14 wx => RlX (F k) wr v14 wx)
    case first =>
     refine ord_start (SB (wr.heap.size) [] _) 8 (preB 0 8) (by kernel_rfl) (by kernel_rfl) (by kernel_rfl) SB.refl.drew (fun hHeld => ?_)
     refine oT (i := 0) (preB 1 7) (.agg B.C) rfl hHeld (fun wx hSx => tk_row _ _ rfl w.heap.size 0 rfl B.C _ (rg_rowX hSx hwr (by simp) X2.out) Tryz.underlying33 rfl HS.out) ?_
     (try simp only [Act.put, putS])
     refine oS (i := 1) (preB 2 6) rfl hHeld ?_
     (try simp only [Act.put, putS])
     refine oS (i := 2) (preB 3 5) rfl hHeld ?_
     (try simp only [Act.put, putS])
     refine oS (i := 3) (preB 4 4) rfl hHeld ?_
     (try simp only [Act.put, putS])
     refine oS (i := 4) (preB 5 3) rfl hHeld ?_
     (try simp only [Act.put, putS])
     refine wpAnyH_ready (rs := [5, 6]) (by kernel_rfl) (by simp) ?_
     refine ord_run (i := 5) (preB 6 2) rfl (by kernel_rfl) (by rfl) (fun K hK => ?_) ?_
     ·go_simp
      go_wp2_with (go_at_call 30; refine (HRN.out _ (HW.out.below (QR.out.trans belT))).mono ?_; rintro e w5 ⟨A5, c5, rfl, hr5, hb, hf5⟩; (first | (have q5B : Below wr.heap.size wr w5 := qB hb; have q5z := hb.size; (try simp at q5z); have q5t : wr.heap.size ≤ w5.heap.size := (by omega); have q5s0 : wr.heap.size < w5.heap.size := (by omega); obtain ⟨q5n0_0, q5n0_1, q5n0_2⟩ := kN q5s0; obtain ⟨q5c0_0, q5c0_1, q5c0_2, q5c0_3, q5c0_4, q5c0_5, q5c0_6, q5f0⟩ := kC7 hb wr.heap.size; simp [go_sem, *] at q5c0_0 q5c0_1 q5c0_2 q5c0_3 q5c0_4 q5c0_5 q5c0_6 q5f0; have q5o := belO q5B; have hbS := hb; have hbS5 := hb; clear hb) | (have q5B : Below wr.heap.size wr w5 := qB hb; have q5z := hb.size; (try simp at q5z); have q5t : wr.heap.size ≤ w5.heap.size := (by omega); have q5o := belO q5B; have hbS := hb; have hbS5 := hb; clear hb)))
      refine hK.out _ _ ?_ (fun hHeld => ?_)
      ·exact sbT
      clear hK K
      (try simp only [Act.put, putS])
      refine wpAnyH_ready (rs := [6]) (by kernel_rfl) (by simp) ?_
      refine ord_run (i := 6) (preB 7 1) rfl (by kernel_rfl) (by rfl) (fun K hK => ?_) AllReadyH.nil
      go_simp
      refine hK.out _ _ ?_ (fun hHeld => ?_)
      ·exact sbT
      clear hK K
      (try simp only [Act.put, putS])
      refine wpAnyH_ready (rs := [7]) (by kernel_rfl) (by simp) ?_
      refine ord_run (i := 7) (preB 8 0) rfl (by kernel_rfl) (by rfl) (fun K hK => ?_) AllReadyH.nil
      go_simp
      refine hK.out _ _ ?_ (fun hHeld => ?_)
      ·exact sbT
      clear hK K
      (try simp only [Act.put, putS])
      refine wpAnyH_done (by kernel_rfl) ?_ _
      go_wp2_with fail
      go_meet
      exact ⟨_, A5, c5, rfl, belT, (by first | omega | (simp; done) | (simp <;> omega)), (by first | omega | (simp <;> omega)), hr5.below belT, (fun h b o e => by have := hf5 h b o e; first | omega | (simp at this; omega)), (by simp [go_sem, *]), (by simp [go_sem, *]), (by simp [go_sem, *]), (by simp [go_sem, *]), (by simp [go_sem, *]), (by simp [go_sem, *]), (by simp [go_sem, *])⟩
     refine ord_run (i := 6) #[true, true, true, true, true, false, true, false] rfl (by kernel_rfl) (by rfl) (fun K hK => ?_) ?_
     ·go_simp
      refine hK.out _ _ ?_ (fun hHeld => ?_)
      ·exact sbT
      clear hK K
      (try simp only [Act.put, putS])
      refine wpAnyH_ready (rs := [5]) (by kernel_rfl) (by simp) ?_
      refine ord_run (i := 5) (preB 7 1) rfl (by kernel_rfl) (by rfl) (fun K hK => ?_) AllReadyH.nil
      go_simp
      go_wp2_with (go_at_call 30; refine (HRN.out _ (HW.out.below (QR.out.trans belT))).mono ?_; rintro e w5 ⟨A5, c5, rfl, hr5, hb, hf5⟩; (first | (have q5B : Below wr.heap.size wr w5 := qB hb; have q5z := hb.size; (try simp at q5z); have q5t : wr.heap.size ≤ w5.heap.size := (by omega); have q5s0 : wr.heap.size < w5.heap.size := (by omega); obtain ⟨q5n0_0, q5n0_1, q5n0_2⟩ := kN q5s0; obtain ⟨q5c0_0, q5c0_1, q5c0_2, q5c0_3, q5c0_4, q5c0_5, q5c0_6, q5f0⟩ := kC7 hb wr.heap.size; simp [go_sem, *] at q5c0_0 q5c0_1 q5c0_2 q5c0_3 q5c0_4 q5c0_5 q5c0_6 q5f0; have q5o := belO q5B; have hbS := hb; have hbS5 := hb; clear hb) | (have q5B : Below wr.heap.size wr w5 := qB hb; have q5z := hb.size; (try simp at q5z); have q5t : wr.heap.size ≤ w5.heap.size := (by omega); have q5o := belO q5B; have hbS := hb; have hbS5 := hb; clear hb)))
      refine hK.out _ _ ?_ (fun hHeld => ?_)
      ·exact sbT
      clear hK K
      (try simp only [Act.put, putS])
      refine wpAnyH_ready (rs := [7]) (by kernel_rfl) (by simp) ?_
      refine ord_run (i := 7) (preB 8 0) rfl (by kernel_rfl) (by rfl) (fun K hK => ?_) AllReadyH.nil
      go_simp
      refine hK.out _ _ ?_ (fun hHeld => ?_)
      ·exact sbT
      clear hK K
      (try simp only [Act.put, putS])
      refine wpAnyH_done (by kernel_rfl) ?_ _
      go_wp2_with fail
      go_meet
      have hq5 : 0 < (F k).sl.length → ∀ b off, A5 = some ⟨b, off, none⟩ → wr.heap.size + 1 ≤ b := fun h b o e => by have := hf5 h b o e; first | omega | (simp at this; omega)
      exact ⟨_, A5, c5, rfl, belT, (by first | omega | (simp; done) | (simp <;> omega)), (by first | omega | (simp <;> omega)), (by (repeat (refine Row2.set ?_ hq5 (by simp))); exact hr5), (fun h b o e => by have := hq5 h b o e; omega), (by simp [go_sem, *]), (by simp [go_sem, *]), (by simp [go_sem, *]), (by simp [go_sem, *]), (by simp [go_sem, *]), (by simp [go_sem, *]), (by simp [go_sem, *])⟩
     exact AllReadyH.nil
    case rest =>
     obtain ⟨p, A5, c5, rfl, hb5, hp1, hp2, hr5, hf5, p0, p1, p2, p3, p4, p5, p6⟩ := hcut
     have B5 := hide hb5
     have HR5 := hide hr5
     have HF5 := hide hf5
     have hwc := hb5.size
     clear hr5 hf5 c0 c1' c2 c3 c4 c5' c6 hb1 hb5
     by_cases hk0 : k = 0
     ·have hl0 : l = [] := by have := HL.out; rw [hk0] at this; cases l with | nil => rfl | cons y l => cases this
      have hL0 : L = 0 := by rw [HLL.out, hl0]; rfl
      have HT := hide (show lnL F (k + 1) = lnL F k ++ [F k] by rw [hk0]; rfl)
      have hL0' : ((L : Int) == 0) = true := by rw [hL0]; rfl
      have hL0'' : (L : Int) = 0 := by omega
      clear hL0 hk0 hl0
      go_upto_region 10 with fail
      go_quiet (fail)
      have HBc := hide (show Below wr.heap.size wr (wc.drewN nq) from Below.trans B5.out belT)
      have hOB := HOV.out
      go_wp2_with (at_builtin; go_loud (refine wpList_append_own2 _ rfl (.tmp 67) (.tmp 69) 37 rfl w1.heap.size 58 i0 (.agg #[.int .i64 0, .int .i64 0, .int .i64 0, .int .i64 0, .slice none 0 0, .int .i64 0, .int .u64 0]) 7 72 Tryz.underlying37 hi0 hz00 hz1 hz2 rfl (by decide) _ _ _ rfl ((owns_below HO.out HBc.out).alloc _) ⟨wc.heap.size, 0, none⟩ 1 1 (linLL ((F k), A5, c5)) rfl rfl (news_new (cs := ⟨linLL ((F k), A5, c5)⟩) (by simp)) (ones_all rfl) (by simp only [maxLen]; omega) (by omega) (by have := HBc.out.size; simp at this ⊢; omega) ?_); intro A9 c9 w9 ho9 hg9 hv9)
      have hgr9 : wr.grownBy w9 V1.ownBlock := by rw [HV1.out]; exact (gr_alloc _ (gr_bel HBc.out)).trans hg9
      have hs9 := hg9.size
      simp at hs9
      have hvv : (Value.slice A9 (L + 1) c9).ownBlock = V1.ownBlock ∨ ∃ q, (Value.slice A9 (L + 1) c9).ownBlock = some q ∧ wc.heap.size ≤ q := by
       rw [HV1.out]
       rcases hv9 with h | ⟨q, h, hq⟩
       ·exact .inl h
       ·simp at hq; exact .inr ⟨q, h, by omega⟩
      have hrx : rowV (.slice A9 (L + 1) c9) w9 ((F k), A5, c5) := by
       refine rowV.new (B := wr.heap.size) HR5.out HF5.out (fun q h1 h2 => ?_) (fun q e => ?_)
       ·rw [hg9.block q (by simp; omega) (fun e => by have := hOB q (by rw [HV1.out]; exact e.symm); omega), Below.heap_alloc _ _ _ (by simp; omega)]; rfl
       ·rcases hvv with h | ⟨q2, h, hq⟩
        ·have := hOB q (by rw [← h]; exact e); omega
        ·rw [h] at e; cases e; exact .inr hq
      go_roundw
      case rel =>
       refine ⟨k + 1, A9, c9, l ++ [((F k), A5, c5)], HK.out, by go_num, by rw [List.length_append, ← HLL.out]; rfl, ?_, fun z hz => ?_, ?_, ?_⟩
       ·rw [List.length_append, List.flatMap_append, ← HLL.out]; simpa using ho9
       ·rw [List.length_append, ← HLL.out]
        rcases List.mem_append.1 hz with hz | hz
        ·exact (HVV.out z hz).gr hgr9 (hvv.imp (fun h => h) fun ⟨q, h1, h2⟩ => ⟨q, h1, by have := B5.out.size; omega⟩)
        ·rw [List.mem_singleton.1 hz]; exact hrx
       ·rw [List.map_append, HL.out, HT.out]; rfl
       ·exact HB.out.trans ⟨hgr9.os, hgr9.tape, hgr9.output, hgr9.size, fun q hq => hgr9.block q (by have := HB.out.size; omega) (fun e => by have := (hOB q e.symm).1; omega)⟩
      case measure => have := HK.out; simp [intOf]; omega
     ·obtain ⟨j, hkj⟩ : ∃ j, k = j + 1 := ⟨k - 1, by omega⟩
      obtain ⟨l0, z, hlz, hm0, hz⟩ := last_of (show l.map (·.1) = (lnS F j).1 ++ [(lnS F j).2] by rw [HL.out, hkj]; rfl)
      have hL0 : L = l0.length + 1 := by rw [HLL.out, hlz, List.length_append]; rfl
      obtain ⟨m, hm⟩ : ∃ m, m = l0.length := ⟨_, rfl⟩
      have hLm : L = m + 1 := by omega
      have hmi : (L : Int) - 1 = m := by omega
      have hmi2 : IntKind.i64.wrap ((L : Int) - 1) = m := by rw [IntKind.wrap_i64]; omega
      have hmi3 : IntKind.i64.wrap (m : Int) = m := by rw [IntKind.wrap_i64]; omega
      have hmL : (m : Int) < L := by omega
      have hm0' : (0 : Int) ≤ m := by omega
      have hLn : ((L : Int) == 0) = false := beq_eq_false_iff_ne.2 (by omega)
      have hLn2 : ¬ (L : Int) = 0 := by omega
      obtain ⟨g, rfl, hg1, hg2, hg3⟩ := own_ptr HO.out (by omega)
      obtain ⟨A3, c3, hv5, hrl⟩ := own_rowLn (by have h := HO.out; rw [HLL.out] at h; exact h) (fun y hy => by have h := HV.out y hy; exact h.row2)
      rw [← HLL.out] at hv5 hrl
      injection hv5 with hv5 hv6 hv7
      subst hv5 hv7
      clear hv6
      have hrz := (hrl.below B5.out).at (show m < L by omega)
      have hrs := (hrl.below B5.out).sl m (by omega)
      obtain ⟨b, off, hA, hbl, d0, d1, d2, d3, d4, d5, d6⟩ := hrz
      injection hA with hA
      injection hA with ea eb _
      subst ea eb
      have hat : atX l m = z := by rw [hlz, hm]; exact atX_last l0 z
      rw [hat] at d0 d1 d2 d3 d4 d5 d6 hrs
      simp only [Nat.zero_add] at d0 d1 d2 d3 d4 d5 d6
      have HRS := hide hrs
      have hgc : g < wc.heap.size := by omega
      have hzb : LinB (j + 1) z.1 := by rw [hz]; exact (lnS_bd (f := F) (k := j) (fun i _ => HFB.out i)).1
      have hzw := hzb.win (by omega)
      have hzl : z.1.sl.length ≤ 1000000 := by
       rw [hz]
       have h := (lnS_sl (f := F) (P := fun s => s.length ≤ 1000000) (k := j) (fun i _ => ?_)).1
       ·exact h
       ·rw [HFR.out]
        have := (oneS_good (B := B) (id := (acrN B id f i).ac) (day := (acrN B id f i).dy) (acrN_fine B id f i).2).1
        show (oneS B _ _ _).length ≤ _
        omega
      have HZ := hide (And.intro hlz (And.intro hm0 (And.intro hz hm)))
      have HKJ := hide hkj
      have HLM := hide hLm
      have hLpos : 0 < L := by omega
      have hj400 : ((j : Int) + 1) ≤ 400 ∧ ((j : Int) + 1 + 1) ≤ 400 := by omega
      clear hrs hrl hat hz hm0 hlz hm hL0 hkj hLm hk0
      cases hfit : fitsL z.1 (F k) with
      | false =>
       have HT := hide (show lnL F (k + 1) = lnL F k ++ [F k] from by have hkj := HKJ.out; rw [hkj] at hfit ⊢; exact lnL_no (by rw [← HZ.out.2.2.1]; exact hfit))
       by_cases hbe : z.1.bl = (F k).bl
       ·have hsl : ((z.1.sl == (F k).sl)) = false := by
         cases h : (z.1.sl == (F k).sl) with
         | false => rfl
         | true => exfalso; rw [fits_iff.2 ⟨hbe, beq_iff_eq.1 h⟩] at hfit; cases hfit
        have HC := hide (fun n => show Calls Tryz.prog 20 #[.slice z.2.1 z.1.sl.length z.2.2, .slice A5 (F k).sl.length c5] (wc.drewN n) fun e w' => e = .returned (.bool false) ∧ ∃ q, w' = (wc.drewN n).drewN q from by
         have y := rsamelq_any z.2.1 A5 z.1.sl (F k).sl z.2.2 c5 (by omega) (wc.drewN n) (HRS.out.below (below_drewN (Below.refl _ _) _)) (HR5.out.below (below_drewN (Below.refl _ _) _))
         rw [hsl] at y
         exact y)
        rw [hbe] at d2
        have hd : ((F k).bl != (F k).bl) = false := by simp
        clear hbe hsl hfit
        go_upto_region 10 with fail
        go_quiet ((exact Calls.quiet_of (HC.out _)))
        clear d0 d1 d2 d3 d4 d5 d6
        have HBc := hide (show Below wr.heap.size wr (wc.drewN nq) from Below.trans B5.out belT)
        have hOB := HOV.out
        go_wp2_with (at_builtin; go_loud (refine wpList_append_own2 _ rfl (.tmp 67) (.tmp 69) 37 rfl w1.heap.size 58 i0 (.agg #[.int .i64 0, .int .i64 0, .int .i64 0, .int .i64 0, .slice none 0 0, .int .i64 0, .int .u64 0]) 7 72 Tryz.underlying37 hi0 hz00 hz1 hz2 rfl (by decide) _ _ _ rfl ((owns_below HO.out HBc.out).alloc _) ⟨wc.heap.size, 0, none⟩ 1 1 (linLL ((F k), A5, c5)) rfl rfl (news_new (cs := ⟨linLL ((F k), A5, c5)⟩) (by simp)) (ones_all rfl) (by simp only [maxLen]; omega) (by omega) (by have := HBc.out.size; simp at this ⊢; omega) ?_); intro A9 c9 w9 ho9 hg9 hv9)
        have hgr9 : wr.grownBy w9 V1.ownBlock := by rw [HV1.out]; exact (gr_alloc _ (gr_bel HBc.out)).trans hg9
        have hs9 := hg9.size
        simp at hs9
        have hvv : (Value.slice A9 (L + 1) c9).ownBlock = V1.ownBlock ∨ ∃ q, (Value.slice A9 (L + 1) c9).ownBlock = some q ∧ wc.heap.size ≤ q := by
         rw [HV1.out]
         rcases hv9 with h | ⟨q, h, hq⟩
         ·exact .inl h
         ·simp at hq; exact .inr ⟨q, h, by omega⟩
        have hrx : rowV (.slice A9 (L + 1) c9) w9 ((F k), A5, c5) := by
         refine rowV.new (B := wr.heap.size) HR5.out HF5.out (fun q h1 h2 => ?_) (fun q e => ?_)
         ·rw [hg9.block q (by simp; omega) (fun e => by have := hOB q (by rw [HV1.out]; exact e.symm); omega), Below.heap_alloc _ _ _ (by simp; omega)]; rfl
         ·rcases hvv with h | ⟨q2, h, hq⟩
          ·have := hOB q (by rw [← h]; exact e); omega
          ·rw [h] at e; cases e; exact .inr hq
        go_roundw
        case rel =>
         refine ⟨k + 1, A9, c9, l ++ [((F k), A5, c5)], HK.out, by go_num, by rw [List.length_append, ← HLL.out]; rfl, ?_, fun z hz => ?_, ?_, ?_⟩
         ·rw [List.length_append, List.flatMap_append, ← HLL.out]; simpa using ho9
         ·rw [List.length_append, ← HLL.out]
          rcases List.mem_append.1 hz with hz | hz
          ·exact (HVV.out z hz).gr hgr9 (hvv.imp (fun h => h) fun ⟨q, h1, h2⟩ => ⟨q, h1, by have := B5.out.size; omega⟩)
          ·rw [List.mem_singleton.1 hz]; exact hrx
         ·rw [List.map_append, HL.out, HT.out]; rfl
         ·exact HB.out.trans ⟨hgr9.os, hgr9.tape, hgr9.output, hgr9.size, fun q hq => hgr9.block q (by have := HB.out.size; omega) (fun e => by have := (hOB q e.symm).1; omega)⟩
        case measure => have := HK.out; simp [intOf]; omega
       ·have hd : (z.1.bl != (F k).bl) = true := by simpa using hbe
        have hd2 : decide (z.1.bl = (F k).bl) = false := decide_eq_false hbe
        have hd3 : (z.1.bl == (F k).bl) = false := by simpa using hbe
        clear hfit
        go_upto_region 10 with fail
        go_quiet (fail)
        clear d0 d1 d2 d3 d4 d5 d6
        have HBc := hide (show Below wr.heap.size wr (wc.drewN nq) from Below.trans B5.out belT)
        have hOB := HOV.out
        go_wp2_with (at_builtin; go_loud (refine wpList_append_own2 _ rfl (.tmp 67) (.tmp 69) 37 rfl w1.heap.size 58 i0 (.agg #[.int .i64 0, .int .i64 0, .int .i64 0, .int .i64 0, .slice none 0 0, .int .i64 0, .int .u64 0]) 7 72 Tryz.underlying37 hi0 hz00 hz1 hz2 rfl (by decide) _ _ _ rfl ((owns_below HO.out HBc.out).alloc _) ⟨wc.heap.size, 0, none⟩ 1 1 (linLL ((F k), A5, c5)) rfl rfl (news_new (cs := ⟨linLL ((F k), A5, c5)⟩) (by simp)) (ones_all rfl) (by simp only [maxLen]; omega) (by omega) (by have := HBc.out.size; simp at this ⊢; omega) ?_); intro A9 c9 w9 ho9 hg9 hv9)
        have hgr9 : wr.grownBy w9 V1.ownBlock := by rw [HV1.out]; exact (gr_alloc _ (gr_bel HBc.out)).trans hg9
        have hs9 := hg9.size
        simp at hs9
        have hvv : (Value.slice A9 (L + 1) c9).ownBlock = V1.ownBlock ∨ ∃ q, (Value.slice A9 (L + 1) c9).ownBlock = some q ∧ wc.heap.size ≤ q := by
         rw [HV1.out]
         rcases hv9 with h | ⟨q, h, hq⟩
         ·exact .inl h
         ·simp at hq; exact .inr ⟨q, h, by omega⟩
        have hrx : rowV (.slice A9 (L + 1) c9) w9 ((F k), A5, c5) := by
         refine rowV.new (B := wr.heap.size) HR5.out HF5.out (fun q h1 h2 => ?_) (fun q e => ?_)
         ·rw [hg9.block q (by simp; omega) (fun e => by have := hOB q (by rw [HV1.out]; exact e.symm); omega), Below.heap_alloc _ _ _ (by simp; omega)]; rfl
         ·rcases hvv with h | ⟨q2, h, hq⟩
          ·have := hOB q (by rw [← h]; exact e); omega
          ·rw [h] at e; cases e; exact .inr hq
        go_roundw
        case rel =>
         refine ⟨k + 1, A9, c9, l ++ [((F k), A5, c5)], HK.out, by go_num, by rw [List.length_append, ← HLL.out]; rfl, ?_, fun z hz => ?_, ?_, ?_⟩
         ·rw [List.length_append, List.flatMap_append, ← HLL.out]; simpa using ho9
         ·rw [List.length_append, ← HLL.out]
          rcases List.mem_append.1 hz with hz | hz
          ·exact (HVV.out z hz).gr hgr9 (hvv.imp (fun h => h) fun ⟨q, h1, h2⟩ => ⟨q, h1, by have := B5.out.size; omega⟩)
          ·rw [List.mem_singleton.1 hz]; exact hrx
         ·rw [List.map_append, HL.out, HT.out]; rfl
         ·exact HB.out.trans ⟨hgr9.os, hgr9.tape, hgr9.output, hgr9.size, fun q hq => hgr9.block q (by have := HB.out.size; omega) (fun e => by have := (hOB q e.symm).1; omega)⟩
        case measure => have := HK.out; simp [intOf]; omega
      | true =>
       obtain ⟨hbe, hse⟩ := fits_iff.1 hfit
       have HT := hide (show lnL F (k + 1) = (lnS F j).1 ++ [joinL z.1 (F k)] from by have hkj := HKJ.out; rw [hkj] at hfit ⊢; rw [HZ.out.2.2.1]; exact lnL_yes (by rw [← HZ.out.2.2.1]; exact hfit))
       have HC := hide (fun n => show Calls Tryz.prog 20 #[.slice z.2.1 z.1.sl.length z.2.2, .slice A5 (F k).sl.length c5] (wc.drewN n) fun e w' => e = .returned (.bool true) ∧ ∃ q, w' = (wc.drewN n).drewN q from by
        have y := rsamelq_any z.2.1 A5 z.1.sl (F k).sl z.2.2 c5 (by omega) (wc.drewN n) (HRS.out.below (below_drewN (Below.refl _ _) _)) (HR5.out.below (below_drewN (Below.refl _ _) _))
        rw [beq_iff_eq.2 hse] at y
        exact y)
       have hjb := hzb.join (HFB.out k)
       have hjw := hjb.win (by omega)
       have hxw := (HFB.out k).win (by omega)
       have hwe : IntKind.i64.wrap (z.1.we + (F k).we) = z.1.we + (F k).we := by have h := hjw.2; unfold IIn joinL at h; rw [IntKind.wrap_i64]; simp only [] at h; omega
       have HGF := hide (show fitR (z.1.gr + (F k).gr) = z.1.gr + (F k).gr from fitR_of hjw.1)
       have HGW := hide (And.intro hzw.1 hxw.1)
       have hbe' := hbe
       rw [hbe] at d2
       have hd : ((F k).bl != (F k).bl) = false := by simp
       have HBE := hide hbe
       clear hbe hbe' hse hfit hjb hjw hxw hzw hzb
       go_upto_region 10 with fail
       go_quiet ((exact Calls.quiet_of (HC.out _)))
       have hb : Below wc.heap.size wc (wc.drewN nq) := below_drewN (Below.refl _ _) _
       generalize wc.drewN nq = wq at hb ⊢
       have hzq := hb.size
       have e0 := (hb.cell (p := ⟨g, m * 7, none⟩) hgc).trans d0
       have e1 := (hb.cell (p := ⟨g, m * 7 + 1, none⟩) hgc).trans d1
       have e2 := (hb.cell (p := ⟨g, m * 7 + 2, none⟩) hgc).trans d2
       have e3 := (hb.cell (p := ⟨g, m * 7 + 3, none⟩) hgc).trans d3
       have e4 := (hb.cell (p := ⟨g, m * 7 + 4, none⟩) hgc).trans d4
       have e5 := (hb.cell (p := ⟨g, m * 7 + 5, none⟩) hgc).trans d5
       have e6 := (hb.cell (p := ⟨g, m * 7 + 6, none⟩) hgc).trans d6
       have s0 := (hb.cell (p := ⟨p, 0, none⟩) hp2).trans p0
       have s1 := (hb.cell (p := ⟨p, 1, none⟩) hp2).trans p1
       have s2 := (hb.cell (p := ⟨p, 2, none⟩) hp2).trans p2
       have s3 := (hb.cell (p := ⟨p, 3, none⟩) hp2).trans p3
       have s4 := (hb.cell (p := ⟨p, 4, none⟩) hp2).trans p4
       have s5 := (hb.cell (p := ⟨p, 5, none⟩) hp2).trans p5
       have s6 := (hb.cell (p := ⟨p, 6, none⟩) hp2).trans p6
       have hgq : g < wq.heap.size := by omega
       have hpq : p < wq.heap.size := by omega
       have hgn : ¬ g = wq.heap.size := by omega
       have hgn2 : ¬ wq.heap.size = g := by omega
       have hpn : ¬ p = wq.heap.size := by omega
       have hpn2 : ¬ wq.heap.size = p := by omega
       have B5q := hide (B5.out.trans (hb.mono (by omega)))
       clear d0 d1 d2 d3 d4 d5 d6 p0 p1 p2 p3 p4 p5 p6 hb
       go_wp2_with fail
       refine (radd_any z.1.gr (F k).gr HGW.out.1 HGW.out.2 _).mono ?_
       rintro e w7 ⟨rfl, hb⟩
       rw [HGF.out]
       have B7 := hide (show Below wq.heap.size wq w7 from Below.trans belT (hb.mono (by simp)))
       have q7B : Below wq.heap.size wq w7 := qB hb
       have q7z := hb.size
       try simp at q7z
       have q7t : wq.heap.size ≤ w7.heap.size := (by omega)
       obtain ⟨q7s0, q7n0_0, q7n0_1, q7n0_2⟩ := kB w7.heap.size wq.heap.size
       obtain ⟨q7c0_0, q7c0_1, q7c0_2, q7c0_3, q7c0_4, q7c0_5, q7c0_6, q7f0⟩ := kC7 hb wq.heap.size
       simp [go_sem, *] at q7c0_0 q7c0_1 q7c0_2 q7c0_3 q7c0_4 q7c0_5 q7c0_6 q7f0
       have q7o := belO q7B
       clear hb
       have B57 := hide (B5q.out.trans (B7.out.mono (by omega)))
       have HO7 := hide (owns_below HO.out B57.out)
       have i0' := (B7.out.cell (p := ⟨g, m * 7, none⟩) hgq).trans e0
       have i1 := (B7.out.cell (p := ⟨g, m * 7 + 1, none⟩) hgq).trans e1
       have i2 := (B7.out.cell (p := ⟨g, m * 7 + 2, none⟩) hgq).trans e2
       have i3 := (B7.out.cell (p := ⟨g, m * 7 + 3, none⟩) hgq).trans e3
       have i4 := (B7.out.cell (p := ⟨g, m * 7 + 4, none⟩) hgq).trans e4
       have i5 := (B7.out.cell (p := ⟨g, m * 7 + 5, none⟩) hgq).trans e5
       have i6 := (B7.out.cell (p := ⟨g, m * 7 + 6, none⟩) hgq).trans e6
       have ifz : ∀ o, w7.frozen? ⟨g, o, none⟩ = false := fun o => (B57.out.frozen (p := ⟨g, o, none⟩) hg2).trans (hg3 o)
       clear e0 e1 e2 e3 e4 e5 e6 s0 s1 s2 s3 s4 s5 s6
       have hfl := flat7_len l0
       have HOW := hide (show ((w7.setCell ⟨wq.heap.size, 5, none⟩ (.int .i64 (hiW (z.1.gr + (F k).gr)))).setCell ⟨wq.heap.size, 6, none⟩ (.int .u64 (loW (z.1.gr + (F k).gr)))).ownsRow w1.heap.size 58 7 (.slice (some ⟨g, 0, none⟩) L c1) L (l.flatMap linLL) from
        Go.ownsRow_setCell_other (Go.ownsRow_setCell_other HO7.out (by simp [Value.ownBlock]; omega) _) (by simp [Value.ownBlock]; omega) _)
       have HTH := hide (own_there HOW.out (o := m * 7) (k := (#[.int .i64 z.1.fr, .int .i64 (F k).tt, .int .i64 (F k).bl, .int .i64 (z.1.we + (F k).we), .slice z.2.1 z.1.sl.length z.2.2, .int .i64 (hiW (z.1.gr + (F k).gr)), .int .u64 (loW (z.1.gr + (F k).gr))] : Array Value).size) (by have := HLM.out; show m * 7 + 7 ≤ L * 7; omega))
       have HIS0 := hide (show (Tryz.prog.info? 58).map (·.size) = some 7 from by kernel_rfl)
       have HIS := hide (show (Tryz.prog.info? 58).map (·.size) = some (#[.int .i64 z.1.fr, .int .i64 (F k).tt, .int .i64 (F k).bl, .int .i64 (z.1.we + (F k).we), .slice z.2.1 z.1.sl.length z.2.2, .int .i64 (hiW (z.1.gr + (F k).gr)), .int .u64 (loW (z.1.gr + (F k).gr))] : Array Value).size from HIS0.out)
       have HON := hide (show (#[.int .i64 z.1.fr, .int .i64 (F k).tt, .int .i64 (F k).bl, .int .i64 (z.1.we + (F k).we), .slice z.2.1 z.1.sl.length z.2.2, .int .i64 (hiW (z.1.gr + (F k).gr)), .int .u64 (loW (z.1.gr + (F k).gr))] : Array Value).all (·.oneCell') = true from by first | (simp [Value.oneCell']; done) | (rw [Array.all_eq_true']; simp [Value.oneCell']; done) | decide)
       go_wp2_with (with_reducible refine wpList_store_mid rfl 58 (.tmp 98) (.tmp 97) rfl g (m * 7) #[.int .i64 z.1.fr, .int .i64 (F k).tt, .int .i64 (F k).bl, .int .i64 (z.1.we + (F k).we), .slice z.2.1 z.1.sl.length z.2.2, .int .i64 (hiW (z.1.gr + (F k).gr)), .int .u64 (loW (z.1.gr + (F k).gr))] rfl rfl HTH.out HIS.out HON.out ?_)
       go_roundw
       case rel =>
        obtain ⟨hlz, hm0, hz, hm⟩ := HZ.out
        have hll : (l0 ++ [(joinL z.1 (F k), z.2.1, z.2.2)]).length = L := by rw [List.length_append]; show l0.length + 1 = L; have := HLM.out; omega
        refine ⟨k + 1, some ⟨g, 0, none⟩, c1, l0 ++ [(joinL z.1 (F k), z.2.1, z.2.2)], HK.out, by go_num, by rw [hll], ?_, fun y hy => ?_, ?_, ?_⟩
        ·rw [hll]
         have hw2 := HOW.out
         rw [hlz, List.flatMap_append] at hw2
         refine own_cast (own_sets hw2 (by omega) rfl) ?_
         rw [List.flatMap_append, ← HBE.out]
         rfl
        ·rw [hll]
         have hgr : wr.grownBy _ (some g) := gr_sets (o := m * 7) (vs := [.int .i64 z.1.fr, .int .i64 (F k).tt, .int .i64 (F k).bl, .int .i64 (z.1.we + (F k).we), .slice z.2.1 z.1.sl.length z.2.2, .int .i64 (hiW (z.1.gr + (F k).gr)), .int .u64 (loW (z.1.gr + (F k).gr))]) (gr_new (b := wq.heap.size) (gr_new (b := wq.heap.size) (gr_bel B57.out) (j := 5) (v := .int .i64 (hiW (z.1.gr + (F k).gr))) (by have := B5q.out.size; omega)) (j := 6) (v := .int .u64 (loW (z.1.gr + (F k).gr))) (by have := B5q.out.size; omega))
         rcases List.mem_append.1 hy with hy | hy
         ·exact (HV.out y (by rw [hlz]; exact List.mem_append_left _ hy)).gr hgr (.inl rfl)
         ·rw [List.mem_singleton.1 hy]
          exact (HV.out z (by rw [hlz]; simp)).gr hgr (.inl rfl)
        ·rw [List.map_append, hm0, HT.out]; rfl
        ·exact HB.out.trans (below_sets hg1 (Below.trans (B57.out.mono (by have := HB.out.size; omega)) (by have := HB.out.size; have := B5q.out.size; (repeat (first | (with_reducible first | exact Below.refl _ _ | assumption | refine Below.drew ?_ | refine below_drewN ?_ _) | ((with_reducible first | refine Below.alloc ?_ ?_ _ | refine Below.setCell ?_ ?_ _); rotate_left; (first | omega | (simp <;> omega))))))))
       case measure => have := HK.out; simp [intOf]; omega
   ·obtain rfl : k = n := by omega
    clear hlt hk
    go_wp2_with fail
    go_ret2
    have hO2 := HO.out
    have hV2 := HV.out
    rw [HLL.out] at hO2 hV2
    obtain ⟨A3, c3, hv5, hrl⟩ := own_rowLn hO2 (fun z hz => (hV2 z hz).row2)
    rw [← HLL.out] at hv5
    exact ⟨A3, c3, l, by rw [← HLL.out, ← hv5]; rfl, hrl, HL.out, Q1.out.trans (HB.out.mono Q1.out.size)⟩
 ·have HSR := hide (fun W h => by have z := rseries_any B HB0.out id f t W h; unfold SerRet at z; exact z)
  obtain ⟨E, hE⟩ : ∃ E, E = serE B id f t := ⟨_, rfl⟩
  have hE0 : ¬ E = 0 := by rw [hE]; exact h0
  have h1b : (E == 0) = false := beq_eq_false_iff_ne.2 hE0
  have h1c : (E != 0) = true := by simpa using hE0
  have HRT := hide (show ∀ (w : World) (e : Ending) (w' : World), e = .returned (.tuple #[.slice none 0 0, .int .i64 E]) → Below w.heap.size w w' → LinesRet B id f t w e w' from fun w e w' he hb => by
   refine ⟨none, 0, [], by rw [he, hE]; rfl, ⟨fun hn => absurd hn (by simp), fun k hk => absurd hk (by simp)⟩, ?_, hb⟩
   unfold lnsL
   rw [if_neg h0]
   rfl)
  rw [← hE] at HSR
  clear h0 hE hn
  go_enter Tryz.func9, Tryz.ntmps9
  go_wp2_with (with_reducible refine wpList_load_row rfl 33 (.tmp 4) rfl w.heap.size rfl 33 B.C (0, 0) _ (blk_new rfl) Tryz.underlying33 rfl HS.out ?_)
  refine (HSR.out _ (HW.out.below belT)).mono ?_
  rintro e w1 ⟨A, cc, rfl, hrow, hb⟩
  have Q1 := hide (show Below w.heap.size w w1 from Below.trans belT (hb.mono (by simp)))
  clear hrow hb
  go_wp2_with fail
  go_ret2
  exact HRT.out _ _ _ rfl Q1.out
end Go.Proofs.YtdjlaiilngechaaGreatDoor
