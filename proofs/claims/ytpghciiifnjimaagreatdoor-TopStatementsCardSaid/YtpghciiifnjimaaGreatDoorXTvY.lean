/- Texts laid together: TvY. -/
import Derived.Test.YtpghciiifnjimaaGreatDoorXTvW
import Derived.Test.YtpghciiifnjimaaGreatDoorXK0
namespace Go.Proofs.YtpghciiifnjimaaGreatDoor
set_option maxRecDepth 4000
set_option linter.unusedSimpArgs false
set_option linter.unusedVariables false
open Go.RowKit
/-- What posting.Post answers. -/
def poE (B : LBk) (D : LTb) (e : LEnt) (c0 al : Int) : Int := if c0 ≠ 0 then c0 else if hasJ B.E e.key B.jn = true then 12 else if legsE B D e.bk e.legs e.ln ≠ 0 then legsE B D e.bk e.legs e.ln else if al ≠ 0 then al else jpE c0 B.E B.jn e
def PoRet (B : LBk) (e : LEnt) (err : Int) (w : World) (r : Ending) (w' : World) : Prop :=
 (err ≠ 0 ∧ ∃ C : Array Value, r = .returned (.tuple #[.agg C, .int .i64 err]) ∧ C.size = 22 ∧ C.all (·.oneCell') = true ∧ Below w.heap.size w w') ∨
 (err = 0 ∧ ∃ A c e', r = .returned (.tuple #[.agg (B.C.setIfInBounds 19 (.slice A (B.jn + 1) c)), .int .i64 0]) ∧ Jrn w' A (B.jn + 1) (putE B.E B.jn e') ∧ SealOf e B.jn e' ∧ (∀ b o q, A = some ⟨b, o, q⟩ → w.heap.size ≤ b) ∧ (∀ b o q, e'.lA = some ⟨b, o, q⟩ → w.heap.size ≤ b) ∧ Below w.heap.size w w')
set_option maxRecDepth 40000 in
set_option maxHeartbeats 16000000 in
theorem post_any (B : LBk) (hB : BkOK B) (hjn : B.jn ≤ 999999) (D : LTb) (hD : TbOK B D) (e : LEnt) (c0 al : Int) (hS : c0 = 0 → EntS e) (R : World → Prop) (hRb : ∀ W W', R W → Below W.heap.size W W' → R W')
  (hC : ∀ W, R W → Calls Tryz.prog 27 #[entA e] W fun r w' => r = .returned (.int .i64 c0) ∧ Below W.heap.size W w')
  (hA : ∀ W, R W → BkIn W B → Calls Tryz.prog 30 #[.agg B.C, entA e] W fun r w' => r = .returned (.int .i64 al) ∧ Below W.heap.size W w')
  (hch : ∀ k, k < B.jn → 0 ≤ (B.E k).ch ∧ (B.E k).ch < 18446744073709551616)
  (w : World) (hR : R w) (hw : BkIn w B) (hd : TbIn w D) (hl : RowLeg w e.lA e.ln e.legs) (ht : Tab w) :
  Calls Tryz.prog 12 #[.agg B.C, entA e] w (PoRet B e (poE B D e c0 al) w) := by
 have HB := hide hB
 have HD := hide hD
 have HCK := hide hC
 have HAL := hide hA
 have HRB := hide hRb
 have HR := hide hR
 have HW := hide hw
 have HTB := hide hd
 have HL := hide hl
 have HT := hide ht
 have HES := hide hS
 have HS := hide (bk_size hB)
 have h19 := hB.bks.jou
 obtain ⟨i0, Z, hi0, hi1, hi2, hi3⟩ := bz_zero
 have HI := hide (And.intro hi0 hi1)
 have HZ2 := hide hi2
 have HZ1 := hide hi3
 have HSZ := hide (show (Tryz.prog.info? 33).map (·.size) = some Z.size by rw [hi2]; kernel_rfl)
 obtain ⟨b1, hb1⟩ : ∃ b, b = hasJ B.E e.key B.jn := ⟨_, rfl⟩
 obtain ⟨lg, hlg⟩ : ∃ z, z = legsE B D e.bk e.legs e.ln := ⟨_, rfl⟩
 obtain ⟨jp, hjp⟩ : ∃ z, z = jpE c0 B.E B.jn e := ⟨_, rfl⟩
 have H1 := hide (fun W h => by have t := jfind_any B.jA B.jn B.jc B.E e.key (by omega) W h; rw [← hb1] at t; exact t)
 have H2 := hide (fun W (hn : e.ln ≤ 1000000) h1 h2 h3 => by have t := legs_any B hB D hD e hn W h1 h2 h3; rw [← hlg] at t; exact t)
 have H3 := hide (fun W (hE : EntS e) h0 h1 h2 h3 => by have t := jpost_any e hE c0 R hRb hC B.jA B.jn B.jc B.E hjn hch W h0 h1 h2 h3; rw [← hjp] at t; exact t)
 have HE := hide (show poE B D e c0 al = if c0 ≠ 0 then c0 else if b1 = true then 12 else if lg ≠ 0 then lg else if al ≠ 0 then al else jp from by rw [hb1, hlg, hjp]; rfl)
 have hmf : ∀ (fn : Fn) (first cap : Array Value) (w : World), (Instr.makeFunc fn first cap).run Tryz.prog w = .ok (.func fn first cap) w := fun _ _ _ _ => rfl
 obtain ⟨id, bk, va, ki, au, pe, key, tx, lA, ln, lc, ch, l⟩ := e
 clear hB hD hC hA hRb hR hw hd hl ht hS hi0 hi1 hi2 hi3 hb1 hlg hjp hch
 dsimp only [entA] at H1 H2 H3 HE HCK HAL ⊢
 go_enter_defers Tryz.func12, Tryz.ntmps12
 go_wp2_with (with_reducible refine wpList_alloc_row rfl 33 rfl (some 4) rfl i0 HI.out.1 Z HI.out.2 (w.heap.size + 1 + 1) (by simp) ?_)
 refine (HCK.out _ (HRB.out _ _ HR.out belT)).mono ?_
 rintro r w1 ⟨rfl, hb⟩
 have HC1 := hide (blk_below hb (by first | omega | (simp <;> omega)) (blk_under (blk_under (two_boxes w (.cells B.C 33) (.cells #[.int .i64 id, .int .i64 bk, .int .i64 va, .int .i64 ki, .int .i64 au, .int .i64 pe, .string key, .string tx, .slice lA ln lc, .int .u64 ch] 53)))))
 have HX1 := hide (show w1.heap[w.heap.size + 1 + 1]? = some (.cells Z 33 (0, 0)) from blk_below hb (by first | omega | (simp <;> omega)) (blk_under (blk_new (by simp))))
 have q1B : Below w.heap.size w w1 := qB hb
 have q1z := hb.size
 try simp at q1z
 have q1t : w.heap.size ≤ w1.heap.size := (by omega)
 obtain ⟨q1s0, q1n0_0, q1n0_1, q1n0_2⟩ := kB w1.heap.size w.heap.size
 have q1c0_19 := cel hb w.heap.size 19
 simp [go_sem, *] at q1c0_19
 have q1f0 := fun o => fro hb w.heap.size o
 simp [go_sem, *] at q1f0
 obtain ⟨q1s1, q1n1_0, q1n1_1, q1n1_2⟩ := kB w1.heap.size (w.heap.size + 1)
 obtain ⟨q1c1_0, q1c1_1, q1c1_2, q1c1_3, q1c1_4, q1c1_5, q1c1_6, q1c1_7, q1c1_8, q1c1_9, q1f1⟩ := kC10 hb (w.heap.size + 1)
 simp [go_sem, *] at q1c1_0 q1c1_1 q1c1_2 q1c1_3 q1c1_4 q1c1_5 q1c1_6 q1c1_7 q1c1_8 q1c1_9 q1f1
 obtain ⟨q1s2, q1n2_0, q1n2_1, q1n2_2⟩ := kB w1.heap.size (w.heap.size + 1 + 1 + 1)
 obtain ⟨q1c2_0, q1f2⟩ := kC1 hb (w.heap.size + 1 + 1 + 1)
 simp [go_sem, *] at q1c2_0 q1f2
 have q1o := belO q1B
 clear hb
 have B1 := hide q1B
 clear h19
 by_cases hc0 : c0 = 0
 ·have HV0 := hide hc0
  have d0 : (c0 == 0) = true := by simp [hc0]
  have HV := hide (HE.out.trans (if_neg (by simp [hc0])))
  have HES0 := hide (HES.out hc0)
  have hln : ln ≤ 1000000 := Nat.le_trans HES0.out.ln (by decide)
  clear hc0 HE HES
  go_wp2_with fail
  refine (H1.out _ (HW.out.jrn.below belT)).mono ?_
  rintro r w2 ⟨⟨x, rfl⟩, hb⟩
  obtain ⟨xid, xbk, xva, xki, xau, xpe, xkey, xtx, xlA, xln, xlc, xch, xl⟩ := x
  have HC2 := hide (blk_below hb (by first | omega | (simp <;> omega)) (blk_setOther (by simp; omega) HC1.out))
  have HX2 := hide (blk_below hb (by first | omega | (simp <;> omega)) (blk_setOther (by simp) HX1.out))
  have q2B : Below w.heap.size w w2 := qB hb
  have q2z := hb.size
  try simp at q2z
  have q2t : w.heap.size ≤ w2.heap.size := (by omega)
  obtain ⟨q2s0, q2n0_0, q2n0_1, q2n0_2⟩ := kB w2.heap.size w.heap.size
  have q2c0_19 := cel hb w.heap.size 19
  simp [go_sem, *] at q2c0_19
  have q2f0 := fun o => fro hb w.heap.size o
  simp [go_sem, *] at q2f0
  obtain ⟨q2s1, q2n1_0, q2n1_1, q2n1_2⟩ := kB w2.heap.size (w.heap.size + 1)
  obtain ⟨q2c1_0, q2c1_1, q2c1_2, q2c1_3, q2c1_4, q2c1_5, q2c1_6, q2c1_7, q2c1_8, q2c1_9, q2f1⟩ := kC10 hb (w.heap.size + 1)
  simp [go_sem, *] at q2c1_0 q2c1_1 q2c1_2 q2c1_3 q2c1_4 q2c1_5 q2c1_6 q2c1_7 q2c1_8 q2c1_9 q2f1
  obtain ⟨q2s2, q2n2_0, q2n2_1, q2n2_2⟩ := kB w2.heap.size (w.heap.size + 1 + 1 + 1)
  obtain ⟨q2c2_0, q2f2⟩ := kC1 hb (w.heap.size + 1 + 1 + 1)
  simp [go_sem, *] at q2c2_0 q2f2
  have q2o := belO q2B
  clear hb q1o q1f2 q1c2_0 q1s2 q1f1 q1c1_9 q1c1_8 q1c1_7 q1c1_6 q1c1_5 q1c1_4 q1c1_3 q1c1_2 q1c1_1 q1c1_0 q1s1 q1f0 q1c0_19 q1s0 q1z q1B
  have B2 := hide q2B
  dsimp only [entA]
  cases b1 with
  | true =>
   have HV2 := hide (HV.out.trans (if_pos rfl))
   go_wp2_with (first
    | (with_reducible refine wpList_load_row rfl 33 (.tmp 4) rfl (w.heap.size + 1 + 1) rfl 33 Z (0, 0) _ (by repeat (with_reducible first | exact HX2.out | exact blk_new (by simp; done) | refine blk_setOther (by first | omega | (simp; done) | (simp; omega)) ?_ | refine blk_under ?_)) Tryz.underlying33 rfl HSZ.out ?_)
    | ((with_reducible refine wpList_store_newrow2 rfl 33 (.tmp 4) (.tmp 22) rfl rfl (w.heap.size + 1 + 1) Z rfl rfl 33 Z (by repeat (with_reducible first | exact HX2.out | exact blk_new (by simp; done) | refine blk_setOther (by first | omega | (simp; done) | (simp; omega)) ?_ | refine blk_under ?_)) HSZ.out (rfl) HZ1.out ?_); intro w5 hb5 hs5 hx5 hk5; refine Hid.out ?_))
   refine Lib.hid ?_
   have B5 := hide (B2.out.trans ((show Below w.heap.size w2 w5 from Below.trans belT (hb5.mono (by omega)))))
   have HX5 := hide hx5
   have e5 := (World.cell?_of_block (a := ⟨w.heap.size + 1 + 1 + 1, 0, none⟩) (hk5 _ (by simp)))
   have f5 := (World.frozen?_of_block (a := ⟨w.heap.size + 1 + 1 + 1, 0, none⟩) (hk5 _ (by simp)))
   simp [go_sem, *] at e5 f5
   have s5 : w.heap.size + 1 + 1 + 1 < w5.heap.size := by rw [hs5]; simp; omega
   go_wp2_with fail
   refine leaves_cons (f := 26) (args := #[.pointer (some ⟨w.heap.size + 1 + 1 + 1, 0, none⟩), .pointer (some ⟨w.heap.size + 1 + 1, 0, none⟩), .pointer (some ⟨w.heap.size, 0, none⟩)]) (by simp) (by simp [go_sem]) ?_
   refine (post1_err (w.heap.size + 1 + 1 + 1) (w.heap.size + 1 + 1) w.heap.size (12) (by decide) .returning _ Z HZ2.out (by simp [go_sem, *]) (by repeat (with_reducible first | exact HX5.out | exact blk_new (by simp; done) | refine blk_setOther (by first | omega | (simp; done) | (simp; omega)) ?_ | refine blk_under ?_))).mono ?_
   rintro r u' w9 ⟨rfl, rfl, ⟨Cx, hx1, hx2, hx3⟩, hk9, hs9, hb9⟩
   have BD := B5.out.trans ((show Below w.heap.size _ w9 from Below.trans belT (hb9.mono (by omega))))
   have e9 : w9.cell? ⟨w.heap.size + 1 + 1 + 1, 0, none⟩ = some (.int .i64 (12)) := (World.cell?_of_block (a := ⟨w.heap.size + 1 + 1 + 1, 0, none⟩) (hk9 _ (by simp))).trans (by simp [go_sem, *])
   exact ⟨_, results_row_cell (fn := Tryz.f12) rfl _ _ (w.heap.size + 1 + 1) 33 Cx (0, 0) _ rfl hx3 Tryz.underlying33 rfl (by rw [hx1]; kernel_rfl) (w.heap.size + 1 + 1 + 1) (.int .i64 (12)) rfl (lv_errno _ _ _ e9), .inl ⟨by rw [HV2.out]; decide, Cx, by rw [HV2.out], hx1, hx2, BD⟩⟩
  | false =>
   have HV2 := hide (HV.out.trans (if_neg (by decide)))
   clear HV
   go_wp2_with (with_reducible refine wpList_load_row rfl 33 (.tmp 2) rfl (w.heap.size) rfl 33 B.C (0, 0) _ (by repeat (with_reducible first | exact HC2.out | exact blk_new (by simp; done) | refine blk_setOther (by first | omega | (simp; done) | (simp; omega)) ?_ | refine blk_under ?_)) Tryz.underlying33 rfl HS.out ?_)
   refine (H2.out _ hln (HW.out.below belT) (HTB.out.below belT) (HL.out.below belT)).mono ?_
   rintro r w3 ⟨rfl, hb⟩
   have HC3 := hide (blk_below hb (by first | omega | (simp <;> omega)) (blk_under HC2.out))
   have HX3 := hide (blk_below hb (by first | omega | (simp <;> omega)) (blk_under HX2.out))
   have q3B : Below w.heap.size w w3 := qB hb
   have q3z := hb.size
   try simp at q3z
   have q3t : w.heap.size ≤ w3.heap.size := (by omega)
   obtain ⟨q3s0, q3n0_0, q3n0_1, q3n0_2⟩ := kB w3.heap.size w.heap.size
   have q3c0_19 := cel hb w.heap.size 19
   simp [go_sem, *] at q3c0_19
   have q3f0 := fun o => fro hb w.heap.size o
   simp [go_sem, *] at q3f0
   obtain ⟨q3s1, q3n1_0, q3n1_1, q3n1_2⟩ := kB w3.heap.size (w.heap.size + 1)
   obtain ⟨q3c1_0, q3c1_1, q3c1_2, q3c1_3, q3c1_4, q3c1_5, q3c1_6, q3c1_7, q3c1_8, q3c1_9, q3f1⟩ := kC10 hb (w.heap.size + 1)
   simp [go_sem, *] at q3c1_0 q3c1_1 q3c1_2 q3c1_3 q3c1_4 q3c1_5 q3c1_6 q3c1_7 q3c1_8 q3c1_9 q3f1
   obtain ⟨q3s2, q3n2_0, q3n2_1, q3n2_2⟩ := kB w3.heap.size (w.heap.size + 1 + 1 + 1)
   obtain ⟨q3c2_0, q3f2⟩ := kC1 hb (w.heap.size + 1 + 1 + 1)
   simp [go_sem, *] at q3c2_0 q3f2
   have q3o := belO q3B
   clear hb q2o q2f2 q2c2_0 q2s2 q2f1 q2c1_9 q2c1_8 q2c1_7 q2c1_6 q2c1_5 q2c1_4 q2c1_3 q2c1_2 q2c1_1 q2c1_0 q2s1 q2f0 q2c0_19 q2s0 q2z q2B
   have B3 := hide q3B
   by_cases hlg : lg = 0
   ·have dlg : (lg == 0) = true := by simp [hlg]
    have HV3 := hide (HV2.out.trans (if_neg (by simp [hlg])))
    clear hlg HV2
    go_wp2_with (with_reducible refine wpList_load_row rfl 33 (.tmp 2) rfl (w.heap.size) rfl 33 B.C (0, 0) _ (by repeat (with_reducible first | exact HC3.out | exact blk_new (by simp; done) | refine blk_setOther (by first | omega | (simp; done) | (simp; omega)) ?_ | refine blk_under ?_)) Tryz.underlying33 rfl HS.out ?_)
    refine (HAL.out _ (HRB.out _ _ HR.out belT) (HW.out.below belT)).mono ?_
    rintro r w4 ⟨rfl, hb⟩
    have HC4 := hide (blk_below hb (by first | omega | (simp <;> omega)) (blk_setOther (by simp; omega) HC3.out))
    have HX4 := hide (blk_below hb (by first | omega | (simp <;> omega)) (blk_setOther (by simp) HX3.out))
    have q4B : Below w.heap.size w w4 := qB hb
    have q4z := hb.size
    try simp at q4z
    have q4t : w.heap.size ≤ w4.heap.size := (by omega)
    obtain ⟨q4s0, q4n0_0, q4n0_1, q4n0_2⟩ := kB w4.heap.size w.heap.size
    have q4c0_19 := cel hb w.heap.size 19
    simp [go_sem, *] at q4c0_19
    have q4f0 := fun o => fro hb w.heap.size o
    simp [go_sem, *] at q4f0
    obtain ⟨q4s1, q4n1_0, q4n1_1, q4n1_2⟩ := kB w4.heap.size (w.heap.size + 1)
    obtain ⟨q4c1_0, q4c1_1, q4c1_2, q4c1_3, q4c1_4, q4c1_5, q4c1_6, q4c1_7, q4c1_8, q4c1_9, q4f1⟩ := kC10 hb (w.heap.size + 1)
    simp [go_sem, *] at q4c1_0 q4c1_1 q4c1_2 q4c1_3 q4c1_4 q4c1_5 q4c1_6 q4c1_7 q4c1_8 q4c1_9 q4f1
    obtain ⟨q4s2, q4n2_0, q4n2_1, q4n2_2⟩ := kB w4.heap.size (w.heap.size + 1 + 1 + 1)
    obtain ⟨q4c2_0, q4f2⟩ := kC1 hb (w.heap.size + 1 + 1 + 1)
    simp [go_sem, *] at q4c2_0 q4f2
    have q4o := belO q4B
    clear hb q3o q3f2 q3c2_0 q3s2 q3f1 q3c1_9 q3c1_8 q3c1_7 q3c1_6 q3c1_5 q3c1_4 q3c1_3 q3c1_2 q3c1_1 q3c1_0 q3s1 q3f0 q3c0_19 q3s0 q3z q3B
    have B4 := hide q4B
    by_cases hal : al = 0
    ·have dal : (al == 0) = true := by simp [hal]
     have HV4 := hide (HV3.out.trans (if_neg (by simp [hal])))
     clear hal HV3
     go_wp2_with (first
      | (with_reducible refine wpList_load_row rfl 33 (.tmp 2) rfl (w.heap.size) rfl 33 B.C (0, 0) _ (by repeat (with_reducible first | exact HC4.out | exact blk_new (by simp; done) | refine blk_setOther (by first | omega | (simp; done) | (simp; omega)) ?_ | refine blk_under ?_)) Tryz.underlying33 rfl HS.out ?_)
      | ((with_reducible refine wpList_store_newrow2 rfl 33 (.tmp 4) (.tmp 33) rfl rfl (w.heap.size + 1 + 1) B.C rfl rfl 33 Z (by repeat (with_reducible first | exact HX4.out | exact blk_new (by simp; done) | refine blk_setOther (by first | omega | (simp; done) | (simp; omega)) ?_ | refine blk_under ?_)) HS.out (by rw [HZ2.out, HB.out.bks.size]) HB.out.ones ?_); intro w5 hb5 hs5 hx5 hk5; refine Hid.out ?_))
     refine Lib.hid ?_
     have B5 := hide (show Below w.heap.size w w5 from B4.out.trans ((show Below w.heap.size w4 w5 from Below.trans belT (hb5.mono (by omega)))))
     have HX5 := hide hx5
     have s5 : w5.heap.size = w4.heap.size := by rw [hs5]; simp
     have s50 : w.heap.size < w5.heap.size := by omega
     have s51 : w.heap.size + 1 < w5.heap.size := by omega
     have s52 : w.heap.size + 1 + 1 < w5.heap.size := by omega
     have s53 : w.heap.size + 1 + 1 + 1 < w5.heap.size := by omega
     have e19 := (World.cell?_of_block (a := ⟨w.heap.size, 19, none⟩) (hk5 _ (by first | omega | (simp; done) | (simp; omega))))
     simp [go_sem, *] at e19
     have e5_0 := (World.cell?_of_block (a := ⟨w.heap.size + 1, 0, none⟩) (hk5 _ (by simp)))
     have e5_1 := (World.cell?_of_block (a := ⟨w.heap.size + 1, 1, none⟩) (hk5 _ (by simp)))
     have e5_2 := (World.cell?_of_block (a := ⟨w.heap.size + 1, 2, none⟩) (hk5 _ (by simp)))
     have e5_3 := (World.cell?_of_block (a := ⟨w.heap.size + 1, 3, none⟩) (hk5 _ (by simp)))
     have e5_4 := (World.cell?_of_block (a := ⟨w.heap.size + 1, 4, none⟩) (hk5 _ (by simp)))
     have e5_5 := (World.cell?_of_block (a := ⟨w.heap.size + 1, 5, none⟩) (hk5 _ (by simp)))
     have e5_6 := (World.cell?_of_block (a := ⟨w.heap.size + 1, 6, none⟩) (hk5 _ (by simp)))
     have e5_7 := (World.cell?_of_block (a := ⟨w.heap.size + 1, 7, none⟩) (hk5 _ (by simp)))
     have e5_8 := (World.cell?_of_block (a := ⟨w.heap.size + 1, 8, none⟩) (hk5 _ (by simp)))
     have e5_9 := (World.cell?_of_block (a := ⟨w.heap.size + 1, 9, none⟩) (hk5 _ (by simp)))
     simp [go_sem, *] at e5_0 e5_1 e5_2 e5_3 e5_4 e5_5 e5_6 e5_7 e5_8 e5_9
     have e5 := (World.cell?_of_block (a := ⟨w.heap.size + 1 + 1 + 1, 0, none⟩) (hk5 _ (by simp)))
     have f5 := fun o => (World.frozen?_of_block (a := ⟨w.heap.size + 1 + 1 + 1, o, none⟩) (hk5 _ (by simp)))
     simp [go_sem, *] at e5 f5
     have q5B := B5.out
     clear hk5 hb5 hx5 hs5
     go_wp2_with fail
     refine (H3.out _ HES0.out (HRB.out _ _ HR.out B5.out) (HW.out.jrn.below B5.out) (HL.out.below B5.out) (HT.out.below B5.out)).mono ?_
     rintro r w6 hj
     rcases hj with ⟨hjn0, rfl, hb⟩ | ⟨hj0, A, c, e', rfl, hJ, hSe, hA6, hL6, hb⟩
     ·have HX6 := hide (blk_below hb s52 HX5.out)
      have HJN := hide hjn0
      have djp : (jp == 0) = false := by simpa using hjn0
      clear hjn0
      have e196 := (hb.cell (p := ⟨w.heap.size, 19, none⟩) s50).trans e19
      have q6B : Below w.heap.size w w6 := qB hb
      have q6z := hb.size
      try simp at q6z
      have q6t : w.heap.size ≤ w6.heap.size := (by omega)
      obtain ⟨q6s0, q6n0_0, q6n0_1, q6n0_2⟩ := kB w6.heap.size (w.heap.size + 1 + 1 + 1)
      obtain ⟨q6c0_0, q6f0⟩ := kC1 hb (w.heap.size + 1 + 1 + 1)
      simp [go_sem, *] at q6c0_0 q6f0
      have q6o := belO q6B
      clear hb
      have B6 := hide q6B
      have c6 := (cell_of_cells HX6.out 19).trans HB.out.bks.jou
      have f6 := fun o => free_of_cells HX6.out o
      go_wp2_with fail
      have HXS := hide (blk_setCell (i := 19) (v := .slice none 0 0) HX6.out)
      refine leaves_cons (f := 26) (args := #[.pointer (some ⟨w.heap.size + 1 + 1 + 1, 0, none⟩), .pointer (some ⟨w.heap.size + 1 + 1, 0, none⟩), .pointer (some ⟨w.heap.size, 0, none⟩)]) (by simp) (by simp [go_sem]) ?_
      refine (post1_err (w.heap.size + 1 + 1 + 1) (w.heap.size + 1 + 1) w.heap.size (jp) (djp) .returning _ (B.C.setIfInBounds 19 (.slice none 0 0)) (by simp [HB.out.bks.size]) (by simp [go_sem, *]) (by repeat (with_reducible first | exact HXS.out | exact blk_new (by simp; done) | refine blk_setOther (by first | omega | (simp; done) | (simp; omega)) ?_ | refine blk_under ?_))).mono ?_
      rintro r u' w9 ⟨rfl, rfl, ⟨Cx, hx1, hx2, hx3⟩, hk9, hs9, hb9⟩
      have BD := B6.out.trans ((show Below w.heap.size _ w9 from Below.trans belT (hb9.mono (by omega))))
      have e9 : w9.cell? ⟨w.heap.size + 1 + 1 + 1, 0, none⟩ = some (.int .i64 (jp)) := (World.cell?_of_block (a := ⟨w.heap.size + 1 + 1 + 1, 0, none⟩) (hk9 _ (by simp))).trans (by simp [go_sem, *])
      exact ⟨_, results_row_cell (fn := Tryz.f12) rfl _ _ (w.heap.size + 1 + 1) 33 Cx (0, 0) _ rfl hx3 Tryz.underlying33 rfl (by rw [hx1]; kernel_rfl) (w.heap.size + 1 + 1 + 1) (.int .i64 (jp)) rfl (lv_errno _ _ _ e9), .inl ⟨by rw [HV4.out]; exact HJN.out, Cx, by rw [HV4.out], hx1, hx2, BD⟩⟩
     ·have HX6 := hide (blk_below hb s52 HX5.out)
      have HJ6 := hide (And.intro hJ hSe)
      have HN6 := hide (And.intro hA6 hL6)
      subst hj0
      clear hJ hSe hA6 hL6
      have e196 := (hb.cell (p := ⟨w.heap.size, 19, none⟩) s50).trans e19
      have q6B : Below w.heap.size w w6 := qB hb
      have q6z := hb.size
      try simp at q6z
      have q6t : w.heap.size ≤ w6.heap.size := (by omega)
      obtain ⟨q6s0, q6n0_0, q6n0_1, q6n0_2⟩ := kB w6.heap.size (w.heap.size + 1 + 1 + 1)
      obtain ⟨q6c0_0, q6f0⟩ := kC1 hb (w.heap.size + 1 + 1 + 1)
      simp [go_sem, *] at q6c0_0 q6f0
      have q6o := belO q6B
      clear hb
      have B6 := hide q6B
      have c6 := (cell_of_cells HX6.out 19).trans HB.out.bks.jou
      have f6 := fun o => free_of_cells HX6.out o
      go_wp2_with fail
      have HXS := hide (blk_setCell (i := 19) (v := .slice A (B.jn + 1) c) HX6.out)
      refine leaves_cons (f := 26) (args := #[.pointer (some ⟨w.heap.size + 1 + 1 + 1, 0, none⟩), .pointer (some ⟨w.heap.size + 1 + 1, 0, none⟩), .pointer (some ⟨w.heap.size, 0, none⟩)]) (by simp) (by simp [go_sem]) ?_
      refine (post1_ok (w.heap.size + 1 + 1 + 1) (w.heap.size + 1 + 1) w.heap.size B.jn A B.jA c B.jc (by omega) .returning _ (by simp [go_sem, *]) (by simp [go_sem, *]) (by simp [go_sem, *])).mono ?_
      rintro r u' w9 ⟨rfl, rfl, rfl⟩
      have BD : Below w.heap.size w ((w6.setCell ⟨w.heap.size + 1 + 1, 19, none⟩ (.slice A (B.jn + 1) c)).setCell ⟨w.heap.size + 1 + 1 + 1, 0, none⟩ (.int .i64 0)) := B6.out.trans belT
      refine ⟨_, results_row_cell (fn := Tryz.f12) rfl _ _ (w.heap.size + 1 + 1) 33 (B.C.setIfInBounds 19 (.slice A (B.jn + 1) c)) (0, 0) _ rfl (blk_setOther (by simp) HXS.out) Tryz.underlying33 rfl (by rw [Array.size_setIfInBounds, HB.out.bks.size]; kernel_rfl) (w.heap.size + 1 + 1 + 1) (.int .i64 0) rfl (lv_errno _ _ _ (by simp [go_sem, *])), .inr ⟨HV4.out, A, c, e', rfl, ?_, HJ6.out.2, fun b o q e => by have := HN6.out.1 b o q e; omega, fun b o q e => by have := HN6.out.2 b o q e; omega, BD⟩⟩
      have h2 := jrn_set (g := w.heap.size + 1 + 1) (j := 19) (v := .slice A (B.jn + 1) c) HJ6.out.1 (fun b o q e => by have := HN6.out.1 b o q e; omega) (fun b o q e => by have := HN6.out.2 b o q e; omega) (fun k hk => (HW.out.jrn.row.2 k hk).below (B6.out.trans (show Below w.heap.size w6 _ from by (repeat (first | (with_reducible first | exact Below.refl _ _ | assumption | refine Below.drew ?_) | ((with_reducible first | refine Below.alloc ?_ ?_ _ | refine Below.setCell ?_ ?_ _); rotate_left; (first | omega | (simp <;> omega))))))))
      exact jrn_set (g := w.heap.size + 1 + 1 + 1) (j := 0) (v := .int .i64 0) h2 (fun b o q e => by have := HN6.out.1 b o q e; omega) (fun b o q e => by have := HN6.out.2 b o q e; omega) (fun k hk => (HW.out.jrn.row.2 k hk).below BD)
    ·have dal : (al == 0) = false := by simpa using hal
     have HV4 := hide (HV3.out.trans (if_pos hal))
     have HVn := hide hal
     clear hal
     go_wp2_with fail
     refine leaves_cons (f := 26) (args := #[.pointer (some ⟨w.heap.size + 1 + 1 + 1, 0, none⟩), .pointer (some ⟨w.heap.size + 1 + 1, 0, none⟩), .pointer (some ⟨w.heap.size, 0, none⟩)]) (by simp) (by simp [go_sem]) ?_
     refine (post1_err (w.heap.size + 1 + 1 + 1) (w.heap.size + 1 + 1) w.heap.size (al) (dal) .returning _ Z HZ2.out (by simp [go_sem, *]) (by repeat (with_reducible first | exact HX4.out | exact blk_new (by simp; done) | refine blk_setOther (by first | omega | (simp; done) | (simp; omega)) ?_ | refine blk_under ?_))).mono ?_
     rintro r u' w9 ⟨rfl, rfl, ⟨Cx, hx1, hx2, hx3⟩, hk9, hs9, hb9⟩
     have BD := B4.out.trans ((show Below w.heap.size _ w9 from Below.trans belT (hb9.mono (by omega))))
     have e9 : w9.cell? ⟨w.heap.size + 1 + 1 + 1, 0, none⟩ = some (.int .i64 (al)) := (World.cell?_of_block (a := ⟨w.heap.size + 1 + 1 + 1, 0, none⟩) (hk9 _ (by simp))).trans (by simp [go_sem, *])
     exact ⟨_, results_row_cell (fn := Tryz.f12) rfl _ _ (w.heap.size + 1 + 1) 33 Cx (0, 0) _ rfl hx3 Tryz.underlying33 rfl (by rw [hx1]; kernel_rfl) (w.heap.size + 1 + 1 + 1) (.int .i64 (al)) rfl (lv_errno _ _ _ e9), .inl ⟨by rw [HV4.out]; exact HVn.out, Cx, by rw [HV4.out], hx1, hx2, BD⟩⟩
   ·have dlg : (lg == 0) = false := by simpa using hlg
    have HV3 := hide (HV2.out.trans (if_pos hlg))
    have HVn := hide hlg
    clear hlg
    go_wp2_with fail
    refine leaves_cons (f := 26) (args := #[.pointer (some ⟨w.heap.size + 1 + 1 + 1, 0, none⟩), .pointer (some ⟨w.heap.size + 1 + 1, 0, none⟩), .pointer (some ⟨w.heap.size, 0, none⟩)]) (by simp) (by simp [go_sem]) ?_
    refine (post1_err (w.heap.size + 1 + 1 + 1) (w.heap.size + 1 + 1) w.heap.size (lg) (dlg) .returning _ Z HZ2.out (by simp [go_sem, *]) (by repeat (with_reducible first | exact HX3.out | exact blk_new (by simp; done) | refine blk_setOther (by first | omega | (simp; done) | (simp; omega)) ?_ | refine blk_under ?_))).mono ?_
    rintro r u' w9 ⟨rfl, rfl, ⟨Cx, hx1, hx2, hx3⟩, hk9, hs9, hb9⟩
    have BD := B3.out.trans ((show Below w.heap.size _ w9 from Below.trans belT (hb9.mono (by omega))))
    have e9 : w9.cell? ⟨w.heap.size + 1 + 1 + 1, 0, none⟩ = some (.int .i64 (lg)) := (World.cell?_of_block (a := ⟨w.heap.size + 1 + 1 + 1, 0, none⟩) (hk9 _ (by simp))).trans (by simp [go_sem, *])
    exact ⟨_, results_row_cell (fn := Tryz.f12) rfl _ _ (w.heap.size + 1 + 1) 33 Cx (0, 0) _ rfl hx3 Tryz.underlying33 rfl (by rw [hx1]; kernel_rfl) (w.heap.size + 1 + 1 + 1) (.int .i64 (lg)) rfl (lv_errno _ _ _ e9), .inl ⟨by rw [HV3.out]; exact HVn.out, Cx, by rw [HV3.out], hx1, hx2, BD⟩⟩
 ·have d0 : (c0 == 0) = false := by simpa using hc0
  have HV := hide (HE.out.trans (if_pos hc0))
  have HV0 := hide hc0
  clear hc0
  go_wp2_with fail
  refine leaves_cons (f := 26) (args := #[.pointer (some ⟨w.heap.size + 1 + 1 + 1, 0, none⟩), .pointer (some ⟨w.heap.size + 1 + 1, 0, none⟩), .pointer (some ⟨w.heap.size, 0, none⟩)]) (by simp) (by simp [go_sem]) ?_
  refine (post1_err (w.heap.size + 1 + 1 + 1) (w.heap.size + 1 + 1) w.heap.size (c0) (d0) .returning _ Z HZ2.out (by simp [go_sem, *]) (by repeat (with_reducible first | exact HX1.out | exact blk_new (by simp; done) | refine blk_setOther (by first | omega | (simp; done) | (simp; omega)) ?_ | refine blk_under ?_))).mono ?_
  rintro r u' w9 ⟨rfl, rfl, ⟨Cx, hx1, hx2, hx3⟩, hk9, hs9, hb9⟩
  have BD := B1.out.trans ((show Below w.heap.size _ w9 from Below.trans belT (hb9.mono (by omega))))
  have e9 : w9.cell? ⟨w.heap.size + 1 + 1 + 1, 0, none⟩ = some (.int .i64 (c0)) := (World.cell?_of_block (a := ⟨w.heap.size + 1 + 1 + 1, 0, none⟩) (hk9 _ (by simp))).trans (by simp [go_sem, *])
  exact ⟨_, results_row_cell (fn := Tryz.f12) rfl _ _ (w.heap.size + 1 + 1) 33 Cx (0, 0) _ rfl hx3 Tryz.underlying33 rfl (by rw [hx1]; kernel_rfl) (w.heap.size + 1 + 1 + 1) (.int .i64 (c0)) rfl (lv_errno _ _ _ e9), .inl ⟨by rw [HV.out]; exact HV0.out, Cx, by rw [HV.out], hx1, hx2, BD⟩⟩
end Go.Proofs.YtpghciiifnjimaaGreatDoor
