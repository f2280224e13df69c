/- Texts laid together: AgT. -/
import Derived.Test.YtdjhkhadjmndoaaDoorQAgS
namespace Go.Proofs.YtdjhkhadjmndoaaDoor
set_option maxRecDepth 4000
set_option linter.unusedSimpArgs false
set_option linter.unusedVariables false
open Go.RowKit
theorem inf_Acc : (Tryd.prog.info? 44).map (fun i => (i.zero, i.size, i.bytes)) = some (some (.agg #[.int .i64 0, .int .i64 0, .int .i64 0, .int .i64 0, .string ⟨#[]⟩, .string ⟨#[]⟩, .string ⟨#[]⟩]), 7, 80) := by kernel_rfl
/-- An account as trees; books with one more account. -/
def accT (x : LAcc) (j : Nat) : Tr := .lf (accC x j)
def opT (ck : Nat → Tr) (x : LAcc) (j : Nat) : Tr := if j = 18 then .row ((ck 18).n + 1) 7 (fun k => if k < (ck 18).n then (ck 18).c k else accT x) else ck j
theorem acc_rd {S : Nat → Prop} {w : World} (x : LAcc) (j : Nat) (hj : j < 7) : (accT x j).rd S w ((accA x).getD j undef) := by
  match j, hj with
  | 0, _ | 1, _ | 2, _ | 3, _ | 4, _ | 5, _ | 6, _ => exact rfl
theorem acc_ones (x : LAcc) : (accA x).all (·.oneCell') = true := by unfold accA; kernel_rfl
/-- The copy with the account at its end reads as the books with one more account. -/
theorem open_fin {w2 w9 : World} {N : Nat} {D : Array Value} {A A' : Option Addr} {n cap c' : Nat} {c : Nat → Nat → Tr} {R : Nat → Array Value} {ck : Nat → Tr} {t : TypeId} {x : LAcc} (hs : D.size = 22) (h1 : D.all (·.oneCell') = true) (hc : ck 18 = .row n 7 c) (hk : RowK 9 n c)
    (hR : ∀ k, k < n → ElT (New N w2) w2 9 (c k) (R k)) (hA : ∀ j, j < 22 → j ≠ 18 → (ck j).rd (Av N (.slice A n cap) w2) w2 (D.getD j undef)) (hz : w2.heap.size ≤ w9.heap.size)
    (hb : ∀ b, N ≤ b → b < w2.heap.size → (Value.slice A n cap).ownBlock ≠ some b → w9.heap[b]? = w2.heap[b]?) (ho : w9.ownsRow N t 7 (.slice A' (n + 1) c') (n + 1) (rowA R n ++ (accA x).toList)) : ElT (New N w9) w9 15 (opT ck x) (D.setIfInBounds 18 (.slice A' (n + 1) c')) := by
  have hR2 : ∀ k, k < n + 1 → ((fun k => if k < n then R k else accA x) k).size = 7 := fun k hkn => by
    by_cases h : k < n
    · simp only [if_pos h]; exact (hR k h).size
    · simp only [if_neg h]; rfl
  have e : rowA R n ++ (accA x).toList = rowA (fun k => if k < n then R k else accA x) (n + 1) := by
    rw [rowA_succ, rowA_congr (R' := R) (fun i hi => if_pos hi)]
    simp
  rw [e] at ho
  obtain ⟨A1, c1, hv, hcap, hrow⟩ := own_rowZ hR2 ho
  injection hv with e1 _ e3
  subst e1 e3
  refine el_big (by rw [Array.size_setIfInBounds, hs]; rfl) (fun j hj => ?_)
  have hj2 : j < 22 := hj
  by_cases h18 : j = 18
  · subst h18
    refine ⟨_, set_eq hs (by decide), rfl, ?_⟩
    unfold opT
    rw [if_pos rfl, hc]
    refine row_mk (e := 9) (w := w9) (S := New N w9) hcap ⟨hrow, fun k i hkn hi => ?_⟩
    have hi2 : i < 7 := hi
    by_cases h : k < n
    · show ((if k < n then c k else accT x) i).rd _ _ ((if k < n then R k else accA x).getD i undef)
      rw [if_pos h, if_pos h]
      have hlk : leafK ((tbl 9).getD i .i) = true := by
        match i, hi2 with
        | 0, _ | 1, _ | 2, _ | 3, _ | 4, _ | 5, _ | 6, _ => rfl
      exact rd_any hlk ((hR k h).rd i hi) (hk.wt k i h hi)
    · show ((if k < n then c k else accT x) i).rd _ _ ((if k < n then R k else accA x).getD i undef)
      rw [if_neg h, if_neg h]
      exact acc_rd x i hi2
  · refine ⟨D.getD j undef, set_ne (fun h => h18 h.symm) (getD_at (by omega)), one_at hs hj2 h1, ?_⟩
    unfold opT
    rw [if_neg h18]
    exact (hA j hj2 h18).mono (fun b h => ⟨h.1.1, Nat.lt_of_lt_of_le h.1.2 hz⟩) (fun b h => hb b h.1.1 h.1.2 h.2)
theorem own_keepO {w w' : World} {B n sz : Nat} {e : TypeId} {v : Value} {xs : List Value} (h : w.ownsRow B e sz v n xs) (hk : ∀ b, v.ownBlock = some b → w'.heap[b]? = w.heap[b]?) : w'.ownsRow B e sz v n xs := by
  refine ⟨h.1, ?_⟩
  rcases h.2 with h2 | ⟨g, cap, cur, hv, hg, hh, r⟩
  · exact .inl h2
  · exact .inr ⟨g, cap, cur, hv, hg, (hk g (by rw [hv]; rfl)).trans hh, r⟩
/-- What Open answers. -/
def OpRet (ck : Nat → Tr) (x : LAcc) (e : Int) (w : World) (r : Ending) (w' : World) : Prop := ∃ D, r = .returned (.tuple #[.agg D, .int .i64 e]) ∧ ElT (New w.heap.size w') w' 15 (if e = 0 then opT ck x else zbT) D ∧ Below w.heap.size w w'
set_option maxRecDepth 20000 in
set_option maxHeartbeats 16000000 in
theorem open_any (ck : Nat → Tr) (hw : KnOK 15 ck) (B : LBk) (hB : BkOK B) (x : LAcc) (hnm : x.ow.size ≤ maxLen) (w : World) (ht : Tab w) (hX : ElT (Old w) w 15 ck B.C) (hi : BkIn w B) :
    Calls Tryd.prog 23 #[.agg B.C, .agg #[.int .i64 x.id, .int .i64 x.op, .int .i64 x.cl, .int .i64 x.ex, .string x.ow, .string x.pr, .string x.nu]] w (OpRet ck x (alwE B.P B.pn B.a B.an x) w) := by
  obtain ⟨X, aA, an, ac, a, jA, jn, jc, pA, pn, pc, P⟩ := B
  obtain ⟨i0, Z, hi0, hi1, hi2, hi3, hi4⟩ := zb_zero
  obtain ⟨ZB, hz0, hz1, hz2, hz3⟩ := zb_built
  obtain ⟨i1, Z1, ho0, ho1, ho2⟩ := op_zero
  obtain ⟨Y, hY0, hY1, hY2, hYX, y0, y1, y2, y3, y4, y5, y6⟩ := op_built X hX.size hX.ones x
  obtain ⟨i9, hf0, hf1, hf2, hf3⟩ := info_parts inf_Acc
  have I0 := hide hf0
  have I1 := hide hf1
  have I2 := hide hf2
  have I3 := hide hf3
  have HI := hide (And.intro hi0 hi1)
  have HI1 := hide (And.intro ho0 ho1)
  have HZS := hide hi2
  have HZB := hide hz0
  have HZBS := hide hz1
  have HZBO := hide hz2
  have HZBE := hide hz3
  have HY := hide hY0
  have HYS := hide (show (Tryd.prog.info? 87).map (·.size) = some Y.size by rw [hY1]; kernel_rfl)
  have HYZ := hide (show Z1.size = Y.size by rw [ho2, hY1])
  have HYO := hide hY2
  have HYX := hide hYX
  have HXS := hide (zb_size (C := X) hX.size)
  have HX := hide hX
  have HW := hide hw
  have HT := hide ht
  have HR := hide (show RowAcc w aA an a from hi.acc)
  have HP := hide (show RowPro w pA pn P from hi.pro)
  have h17 : X[17]? = some (.slice pA pn pc) := hB.pro
  have h18 : X[18]? = some (.slice aA an ac) := hB.bks.acc
  have H18 := hide h18
  obtain ⟨ev, hev⟩ : ∃ ev, ev = alwE P pn a an x := ⟨_, rfl⟩
  have HEV := hide hev
  have HAL := hide (fun (W : World) (h1 : Tab W) (h2 : RowAcc W aA an a) (h3 : RowPro W pA pn P) => by
    have t := allowed_any Y aA an ac a pA pn pc P x hY1 (hYX _ _ h17) (hYX _ _ h18) y0 y1 y2 y3 y4 y5 y6 hnm hB.an hB.pn hB.cells W h1 h2 h3
    rw [← hev] at t; exact t)
  have HAN := hide (show an ≤ 1000000 from hB.an)
  dsimp only
  rw [← hev]
  clear hi0 hi1 hi2 hi3 hi4 hz0 hz1 hz2 hz3 ho0 ho1 ho2 hY0 hY1 hY2 hYX y0 y1 y2 y3 y4 y5 y6 hf0 hf1 hf2 hf3 hB hi ht hX hw h17 h18 hev hnm
  go_enter Tryd.func23, Tryd.ntmps23
  go_wp2_with (first
    | (with_reducible refine wpList_alloc_row rfl 41 rfl (some 4) rfl i0 HI.out.1 Z HI.out.2 (w.heap.size + 1 + 1) (by simp) ?_)
    | (with_reducible refine wpList_load_row rfl 41 (.tmp 2) rfl w.heap.size rfl 41 X (0, 0) _ (blk_under (blk_under (blk_new rfl))) Tryd.underlying41 rfl HXS.out ?_)
    | ((with_reducible refine Go.wpList_buildTo rfl 87 #[(0, .tmp 9), (1, .tmp 10)] rfl (some 11) rfl Y ?_ ?_); (focus (refine Eq.trans (congrArg _ ?_) HY.out; simp [Act.eval])))
    | (with_reducible refine wpList_alloc_row rfl 87 rfl (some 6) rfl i1 HI1.out.1 Z1 HI1.out.2 (w.heap.size + 1 + 1 + 1) (by simp) ?_)
    | ((with_reducible refine wpList_store_newrow2 rfl 87 (.tmp 6) (.tmp 11) rfl rfl (w.heap.size + 1 + 1 + 1) Y rfl rfl 87 Z1 (blk_new (by simp)) HYS.out HYZ.out HYO.out ?_); intro w5 hb5 hs5 hx5 hk5; have HX5 := hide hx5; have HR5 := hide ((hk5 (w.heap.size + 1 + 1) (by simp)).trans (blk_under (blk_new (by simp)))); have HA5 := hide ((hk5 (w.heap.size + 1) (by simp)).trans (blk_under (blk_under (blk_new (by simp))))); have HB5 := hide (show Below w.heap.size w w5 from Below.trans (by (repeat (first | (with_reducible first | exact Below.refl _ _ | assumption | refine Below.drew ?_) | ((with_reducible first | refine Below.alloc ?_ ?_ _ | refine Below.setCell ?_ ?_ _); rotate_left; (first | omega | (simp <;> omega)))))) (hb5.mono (by omega))); have hz5 : w5.heap.size = w.heap.size + 1 + 1 + 1 + 1 := (by rw [hs5]; simp); clear hb5 hs5 hx5 hk5)
    | (with_reducible refine wpList_load_row rfl 87 (.tmp 6) rfl (w.heap.size + 1 + 1 + 1) rfl 87 Y (0, 0) _ HX5.out Tryd.underlying87 rfl HYS.out ?_))
  refine (HAL.out _ (HT.out.below HB5.out) (HR.out.below HB5.out) (HP.out.below HB5.out)).mono ?_
  rintro e w1 ⟨rfl, hb⟩
  have HX1 := hide (blk_below hb (by omega) HX5.out)
  have HR1 := hide (blk_below hb (by omega) HR5.out)
  have HA1 := hide (blk_below hb (by omega) HA5.out)
  have HB1 := hide (HB5.out.trans (hb.mono HB5.out.size))
  have hz1 : w.heap.size + 1 + 1 + 1 + 1 ≤ w1.heap.size := by have := hb.size; omega
  clear hb
  by_cases he : ev = 0
  · have hne : (ev != 0) = false := by rw [he]; rfl
    have HE := hide he
    clear he
    go_wp2_with (with_reducible refine wpList_load_midA rfl 41 (.tmp 18) rfl (w.heap.size + 1 + 1 + 1) 0 rfl X _ (fun j v hv => by rw [Nat.zero_add, cell_of_cells HX1.out]; exact HYX.out j v hv) Tryd.underlying41 rfl HXS.out ?_)
    refine (books_any ck HW.out w1 X (HX.out.below HB1.out)).mono ?_
    rintro r w2 ⟨D, A, n, cap, c, R, rfl, hD, hD18, hc18, hcap, hk18, hown, hR, hAv, hb⟩
    have HD := hide hD
    have HDS := hide (show D.size = 22 from hD.size)
    have HDI := hide (zb_size (C := D) hD.size)
    have HD18 := hide hD18
    have HC18 := hide hc18
    have HK18 := hide hk18
    have HO := hide hown
    have HRK := hide hR
    have HAV := hide hAv
    have HB2 := hide hb
    have hz2 := hb.size
    have HR2 := hide (blk_below hb (by omega) HR1.out)
    have HA2 := hide (blk_below hb (by omega) HA1.out)
    have hlt2 : w.heap.size + 1 + 1 + 1 < w2.heap.size := by omega
    have HNN := hide (show n ≤ 1000000 from by
      have t := H18.out
      have u := (HX.out.rd 18 (by decide))
      rw [HC18.out, getD_of t] at u
      obtain ⟨_, _, _, e1, _⟩ := u
      injection e1 with _ e2 _
      rw [← e2]; exact HAN.out)
    clear hD hD18 hc18 hcap hk18 hown hR hAv hb
    go_wp2_with (first
      | (with_reducible refine wpList_alloc_row rfl 41 rfl (some 8) rfl i0 HI.out.1 Z HI.out.2 w2.heap.size rfl ?_)
      | ((with_reducible refine wpList_store_newrow2 rfl 41 (.tmp 8) (.tmp 20) rfl rfl w2.heap.size D rfl rfl 41 Z (blk_new rfl) HDI.out (by rw [HZS.out, HDS.out]) HD.out.ones ?_); intro w5 hb5 hs5 hx5 hk5; have HX6 := hide hx5; have HB6 := hide (show Below w2.heap.size w2 w5 from Below.trans (by (repeat (first | (with_reducible first | exact Below.refl _ _ | assumption | refine Below.drew ?_) | ((with_reducible first | refine Below.alloc ?_ ?_ _ | refine Below.setCell ?_ ?_ _); rotate_left; (first | omega | (simp <;> omega)))))) hb5); have HR6 := hide (blk_below HB6.out (by omega) HR2.out); have HA6 := hide (blk_below HB6.out (by omega) HA2.out); have hz6 : w5.heap.size = w2.heap.size + 1 := (by rw [hs5]; simp); have hz6' : w2.heap.size < w5.heap.size := (by omega); have g18 := (cell_of_cells hx5 18).trans HD18.out; have a0 := cell_of_cells HA6.out 0; have a1 := cell_of_cells HA6.out 1; have a2 := cell_of_cells HA6.out 2; have a3 := cell_of_cells HA6.out 3; have a4 := cell_of_cells HA6.out 4; have a5 := cell_of_cells HA6.out 5; have a6 := cell_of_cells HA6.out 6; clear hb5 hs5 hx5 hk5)
      | (with_reducible refine wpList_build1 rfl 36 44 (.tmp 23) rfl (accA x) rfl i9 #[.int .i64 0, .int .i64 0, .int .i64 0, .int .i64 0, .string ⟨#[]⟩, .string ⟨#[]⟩, .string ⟨#[]⟩] Tryd.underlying36 I0.out I1.out 7 I2.out (by decide) (by decide) rfl (some 24) rfl w5.heap.size rfl ?_)
      | (at_builtin; go_loud (refine wpList_append_own2 _ rfl (.tmp 22) (.tmp 24) 36 rfl w1.heap.size 44 i9 (.agg #[.int .i64 0, .int .i64 0, .int .i64 0, .int .i64 0, .string ⟨#[]⟩, .string ⟨#[]⟩, .string ⟨#[]⟩]) 7 80 Tryd.underlying36 I0.out I1.out I2.out I3.out rfl (by decide) (.slice A n cap) n (rowA R n) rfl ((owns_below HO.out HB6.out).alloc _) ⟨w5.heap.size, 0, none⟩ 1 1 (accA x).toList rfl rfl (fun j u hu => news_cells (blk_new rfl) j u hu) (ones_of (acc_ones x)) (by have := HNN.out; simp only [maxLen]; omega) (by have := HNN.out; omega) (by simp; omega) ?_); intro A1 c1 w8 ho8 hg8 hv8; have HO8 := hide ho8; have HG8 := hide hg8; have HV8 := hide hv8; have hz8 : w5.heap.size + 1 ≤ w8.heap.size := (by have := hg8.size; simpa using this); have HX8 := hide (blk_grown hg8 (fun e => by have := (HO.out.lt _ e).2; omega) (blk_under HX6.out)); have HR8 := hide (blk_grown hg8 (fun e => by have := (HO.out.lt _ e).1; omega) (blk_under HR6.out)); have g28 := (cell_of_cells HX8.out 18).trans HD18.out; have gf := free_of_cells HX8.out; have hz8' : w2.heap.size < w8.heap.size := (by omega); clear ho8 hg8 hv8 a0 a1 a2 a3 a4 a5 a6 g18)
      | (with_reducible refine wpList_load_row rfl 41 (.tmp 8) rfl w2.heap.size rfl 41 (D.setIfInBounds 18 (.slice A1 (n + 1) c1)) (0, 0) _ (blk_setCell HX8.out) Tryd.underlying41 rfl (zb_size (by simpa using HDS.out)) ?_)
      | ((with_reducible refine wpList_store_newrow2 rfl 41 (.tmp 4) (.tmp 27) rfl rfl (w.heap.size + 1 + 1) (D.setIfInBounds 18 (.slice A1 (n + 1) c1)) rfl rfl 41 Z (blk_setOther (by simp; omega) HR8.out) (zb_size (by simpa using HDS.out)) (by rw [HZS.out]; simp [HDS.out]) (all_setZ HD.out.ones rfl) ?_); intro w9 hb9 hs9 hx9 hk9))
    refine bodyPost_ret (v := .tuple #[.agg (D.setIfInBounds 18 (.slice A1 (n + 1) c1)), .int .i64 0]) (results_row_tmp (fn := Tryd.f23) rfl _ _ (w.heap.size + 1 + 1) 41 (D.setIfInBounds 18 (.slice A1 (n + 1) c1)) (0, 0) _ rfl hx9 _ rfl Tryd.underlying41 rfl (zb_size (by simpa using HDS.out))) rfl ?_
    have K9 : ∀ b, w1.heap.size ≤ b → b < w2.heap.size → (Value.slice A n cap).ownBlock ≠ some b → w9.heap[b]? = w2.heap[b]? := fun b h1 h2 h3 => by
      refine (hk9 b (by omega)).trans ?_
      refine (Go.Deep.blk_setCell_other _ _ _ _ (by simp; omega)).trans ?_
      refine (HG8.out.block b (by simp; omega) (fun e => h3 e.symm)).trans ?_
      refine (Go.Deep.blk_alloc_lt _ _ _ (by omega)).trans ?_
      exact HB6.out.block b h2
    have hs8 : w9.heap.size = w8.heap.size := by rw [hs9]; simp
    have O9 : w9.ownsRow w1.heap.size 44 7 (.slice A1 (n + 1) c1) (n + 1) (rowA R n ++ (accA x).toList) := by
      refine own_keepO HO8.out (fun b hb => ?_)
      have hq : b ≠ w2.heap.size ∧ w1.heap.size ≤ b := by
        rcases HV8.out with h | ⟨q, h, hq⟩
        · rw [hb] at h
          have := HO.out.lt b h.symm
          omega
        · rw [hb] at h
          injection h with h
          simp at hq
          omega
      refine (hk9 b (by omega)).trans ?_
      exact Go.Deep.blk_setCell_other _ _ _ _ (by simp; omega)
    have EL := open_fin HDS.out HD.out.ones HC18.out HK18.out HRK.out HAV.out (by omega) K9 O9
    have BG : Below w1.heap.size w1 w8 := by
      refine HB2.out.trans ((HB6.out.mono hz2).trans (Below.trans ?_ (below_grown HG8.out (by simp; omega) (fun k hk => (HO.out.lt k hk).1))))
      (repeat (first | (with_reducible first | exact Below.refl _ _ | assumption | refine Below.drew ?_) | ((with_reducible first | refine Below.alloc ?_ ?_ _ | refine Below.setCell ?_ ?_ _); rotate_left; (first | omega | (simp <;> omega)))))
    refine ⟨_, by rw [HE.out], by rw [if_pos HE.out]; exact EL.mono (fun b h => ⟨by have := h.1; omega, h.2⟩) (fun _ _ => rfl), ?_⟩
    refine HB1.out.trans ((BG.mono (by omega)).trans ?_)
    refine Below.trans ?_ (hb9.mono (by omega))
    (repeat (first | (with_reducible first | exact Below.refl _ _ | assumption | refine Below.drew ?_) | ((with_reducible first | refine Below.alloc ?_ ?_ _ | refine Below.setCell ?_ ?_ _); rotate_left; (first | omega | (simp <;> omega)))))
  · have hne : (ev != 0) = true := by simp [bne, he]
    have HE := hide he
    clear he
    go_wp2_with (first
      | ((with_reducible refine Go.wpList_buildTo rfl 41 #[] rfl (some 16) rfl ZB ?_ ?_); (focus (refine Eq.trans (congrArg _ ?_) HZB.out; simp [Act.eval])))
      | ((with_reducible refine wpList_store_newrow2 rfl 41 (.tmp 4) (.tmp 16) rfl rfl (w.heap.size + 1 + 1) ZB rfl rfl 41 Z HR1.out (zb_size HZBS.out) (by rw [HZS.out, HZBS.out]) HZBO.out ?_); intro w9 hb9 hs9 hx9 hk9))
    refine bodyPost_ret (v := .tuple #[.agg ZB, .int .i64 ev]) (results_row_tmp (fn := Tryd.f23) rfl _ _ (w.heap.size + 1 + 1) 41 ZB (0, 0) _ rfl hx9 _ rfl Tryd.underlying41 rfl (zb_size HZBS.out)) rfl ?_
    exact ⟨ZB, rfl, by rw [if_neg HE.out, HZBE.out]; exact zb_rd, HB1.out.trans (hb9.mono (by omega))⟩
end Go.Proofs.YtdjhkhadjmndoaaDoor
