/- Texts laid together: TvS. -/
import Derived.Test.YtpghciiifnjimaaGreatDoorXTvN
import Derived.Test.YtpghciiifnjimaaGreatDoorXK0
namespace Go.Proofs.YtpghciiifnjimaaGreatDoor
set_option maxRecDepth 4000
set_option linter.unusedSimpArgs false
set_option linter.unusedVariables false
open Go.RowKit
/-- Entries of a size that the walk takes. -/
structure EntS (e : LEnt) : Prop where
 ln : e.ln ≤ 12
 key : e.key.size ≤ 48
 tx : e.tx.size ≤ 64
 cu : ∀ k, k < e.ln → (e.legs k).cu.size ≤ 3
 am : ∀ k, k < e.ln → IIn (e.legs k).ac ∧ IIn (e.legs k).am
 id : IIn e.id
 bk : IIn e.bk
 va : IIn e.va
 ki : IIn e.ki
 au : IIn e.au
 pe : IIn e.pe
theorem ix6 (z : Int × Int × Int × Int × Int × Int) (w : World) :
  (Instr.index 281 (.agg #[.int .i64 z.1, .int .i64 z.2.1, .int .i64 z.2.2.1, .int .i64 z.2.2.2.1, .int .i64 z.2.2.2.2.1, .int .i64 z.2.2.2.2.2]) (.int .i64 0)).run Tryz.prog w = .ok (.int .i64 z.1) w ∧
  (Instr.index 281 (.agg #[.int .i64 z.1, .int .i64 z.2.1, .int .i64 z.2.2.1, .int .i64 z.2.2.2.1, .int .i64 z.2.2.2.2.1, .int .i64 z.2.2.2.2.2]) (.int .i64 1)).run Tryz.prog w = .ok (.int .i64 z.2.1) w ∧
  (Instr.index 281 (.agg #[.int .i64 z.1, .int .i64 z.2.1, .int .i64 z.2.2.1, .int .i64 z.2.2.2.1, .int .i64 z.2.2.2.2.1, .int .i64 z.2.2.2.2.2]) (.int .i64 2)).run Tryz.prog w = .ok (.int .i64 z.2.2.1) w ∧
  (Instr.index 281 (.agg #[.int .i64 z.1, .int .i64 z.2.1, .int .i64 z.2.2.1, .int .i64 z.2.2.2.1, .int .i64 z.2.2.2.2.1, .int .i64 z.2.2.2.2.2]) (.int .i64 3)).run Tryz.prog w = .ok (.int .i64 z.2.2.2.1) w ∧
  (Instr.index 281 (.agg #[.int .i64 z.1, .int .i64 z.2.1, .int .i64 z.2.2.1, .int .i64 z.2.2.2.1, .int .i64 z.2.2.2.2.1, .int .i64 z.2.2.2.2.2]) (.int .i64 4)).run Tryz.prog w = .ok (.int .i64 z.2.2.2.2.1) w ∧
  (Instr.index 281 (.agg #[.int .i64 z.1, .int .i64 z.2.1, .int .i64 z.2.2.1, .int .i64 z.2.2.2.1, .int .i64 z.2.2.2.2.1, .int .i64 z.2.2.2.2.2]) (.int .i64 5)).run Tryz.prog w = .ok (.int .i64 z.2.2.2.2.2) w := by
 refine ⟨?_, ?_, ?_, ?_, ?_, ?_⟩ <;> kernel_rfl
set_option maxRecDepth 8000 in
set_option maxHeartbeats 16000000 in
theorem enc_any (e : LEnt) (hS : EntS e) (w : World) (hl : RowLeg w e.lA e.ln e.legs) (ht : Tab w) : Calls Tryz.prog 139 #[entA e] w (TxO 30000 w) := by
 obtain ⟨id, bk, va, ki, au, pe, key, tx, lA, n, lc, ch, l0⟩ := e
 obtain ⟨hn12, hkey, htx, hcu, ham, i0, i1, i2, i3, i4, i5⟩ := hS
 dsimp only at hn12 hkey htx hcu ham i0 i1 i2 i3 i4 i5 hl ⊢
 have HCU := hide hcu
 have HAM := hide ham
 have HI := hide (And.intro i0 (And.intro i1 (And.intro i2 (And.intro i3 (And.intro i4 i5)))))
 have HA := hide hl
 have HT := hide ht
 have HKT := hide (And.intro hkey htx)
 obtain ⟨i0', hi0, hz00, hz1, hz2⟩ := info_parts str_info
 clear hl ht hcu ham i0 i1 i2 i3 i4 i5 hkey htx
 go_enter Tryz.func139, Tryz.ntmps139
 go_wp2_with fail
 go_loopw [3, 12] (fun v3 v4 wr => EcI n (w.heap.size + 1) (w.alloc (.cells #[.int .i64 id, .int .i64 bk, .int .i64 va, .int .i64 ki, .int .i64 au, .int .i64 pe, .string key, .string tx, .slice lA n lc, .int .u64 ch] 53)) v3 v4 wr) (fun _ v _ => n - (intOf v).toNat)
 case atStart => exact ⟨0, 0, none, [], by omega, rfl, rfl, ⟨rfl, .inl ⟨rfl, rfl⟩⟩, (fun s hs => by cases hs), Below.refl _ _⟩
 case round =>
  obtain ⟨k, p, B, l, hkn, rfl, rfl, ho, hl, hb⟩ := hrel
  have H0 := hide hb
  have HO := hide ho
  have HL := hide hl
  have zH : w.heap.size + 1 ≤ wr.heap.size := by simpa using hb.size
  have q1B : Below w.heap.size w wr := qB hb
  have q1z := hb.size
  try simp at q1z
  have q1t : w.heap.size ≤ wr.heap.size := (by omega)
  obtain ⟨q1s0, q1n0_0, q1n0_1, q1n0_2⟩ := kB wr.heap.size w.heap.size
  obtain ⟨q1c0_0, q1c0_1, q1c0_2, q1c0_3, q1c0_4, q1c0_5, q1c0_6, q1c0_7, q1c0_8, q1f0⟩ := kC9 hb w.heap.size
  simp [go_sem, *] at q1c0_0 q1c0_1 q1c0_2 q1c0_3 q1c0_4 q1c0_5 q1c0_6 q1c0_7 q1c0_8 q1f0
  have q1o := belO q1B
  clear hb
  have QL := hide q1B
  clear ho hl
  by_cases hlt : k < n
  ·have hm : (k : Int) < n := by omega
   have hk0 : (0 : Int) ≤ k := by omega
   have HLT := hide hlt
   obtain ⟨b, off, rfl, hbl, c0, c1, c2⟩ := (HA.out.below QL.out).at hlt
   obtain ⟨⟨y0, y1, t2⟩, hx⟩ : ∃ x, x = l0 k := ⟨_, rfl⟩
   have ht2 : t2.size ≤ 3 := by have h := HCU.out k hlt; rw [← hx] at h; exact h
   have HJ := hide (show IIn y0 ∧ IIn y1 from by have h := HAM.out k hlt; rw [← hx] at h; exact h)
   rw [← hx] at c0 c1 c2
   have HTW := hide (HT.out.below QL.out)
   clear hx hlt hkn
   rcases HO.out.2 with ⟨hv, hv0⟩ | ⟨gB, capB, curB, hv, hbg, hhB, _⟩
   ·obtain rfl : B = none := by injection hv
    clear hv hv0
    go_wp2_with fail
    refine ord_start (SB (wr.heap.size + 1) [] _) 14 (preB 0 14) (by kernel_rfl) (by kernel_rfl) (by kernel_rfl) SB.refl.drew (fun hHeld => ?_)
    refine oS (i := 0) (preB 1 13) rfl hHeld ?_
    (try simp only [Act.put, putS])
    refine oS (i := 1) (preB 2 12) rfl hHeld ?_
    (try simp only [Act.put, putS])
    refine oS (i := 2) (preB 3 11) rfl hHeld ?_
    (try simp only [Act.put, putS])
    refine oS (i := 4) #[true, true, true, false, true, false, false, false, false, false, false, false, false, false] rfl hHeld ?_
    (try simp only [Act.put, putS])
    refine oS (i := 5) #[true, true, true, false, true, true, false, false, false, false, false, false, false, false] rfl hHeld ?_
    (try simp only [Act.put, putS])
    refine oS (i := 7) #[true, true, true, false, true, true, false, true, false, false, false, false, false, false] rfl hHeld ?_
    (try simp only [Act.put, putS])
    refine oS (i := 8) #[true, true, true, false, true, true, false, true, true, false, false, false, false, false] rfl hHeld ?_
    (try simp only [Act.put, putS])
    refine wpAnyH_ready (rs := [3]) (by kernel_rfl) (by simp) ?_
    refine ord_run (i := 3) #[true, true, true, true, true, true, false, true, true, false, false, false, false, false] rfl (by kernel_rfl) (by rfl) (fun K hK => ?_) AllReadyH.nil
    go_simp
    go_wp2_with (go_at_call 193; refine (winti_any _ HJ.out.1.1 HJ.out.1.2 _ (by first | exact hTq | exact hTq.below belT | exact HTW.out | exact HTW.out.below belT)).mono ?_; rintro r w1 ⟨u0, hu0, rfl, hb⟩; have hTq := (show Tab w1 from by first | exact Tab.below (by first | exact hTq | exact hTq.below belT | exact HTW.out | exact HTW.out.below belT) hb); have hbS := hb; have zz1 := hb.size; (simp at zz1); have hB1 := hb)
    refine hK.out _ _ ?_ (fun hHeld => ?_)
    ·(repeat (first | (with_reducible exact SB.refl) | (with_reducible exact hHeld) | (with_reducible assumption) | (with_reducible refine SB.drew ?_) | (with_reducible refine SB.drewN ?_ _) | ((with_reducible refine SB.alloc ?_ ?_ _); (rotate_left); (first | omega | (simp <;> omega))) | ((with_reducible refine SB.setCell ?_ ?_ _); (rotate_left); (focus (first | (simp; done) | (right; first | omega | (simp <;> omega))))) | ((with_reducible refine SB.below ?_ hbS ?_); (rotate_left); (first | omega | (simp <;> omega))) | ((with_reducible refine SB.below ?_ hbS1 ?_); (rotate_left); (first | omega | (simp <;> omega))) | ((with_reducible refine SB.below ?_ hbS2 ?_); (rotate_left); (first | omega | (simp <;> omega))) | ((with_reducible refine SB.below ?_ hbS3 ?_); (rotate_left); (first | omega | (simp <;> omega))) | ((with_reducible refine SB.below ?_ hbS4 ?_); (rotate_left); (first | omega | (simp <;> omega))) | ((with_reducible refine SB.below ?_ hbS5 ?_); (rotate_left); (first | omega | (simp <;> omega))) | ((with_reducible refine SB.below ?_ hbS6 ?_); (rotate_left); (first | omega | (simp <;> omega))) | ((with_reducible refine SB.below ?_ hbS7 ?_); (rotate_left); (first | omega | (simp <;> omega))) | (with_reducible refine SB.undrew ?_) | ((with_reducible refine SB.congr ?_ ?_); (rotate_left); (focus (simp; done))) | ((with_reducible refine SB.realloc ?_ ?_ ?_); (rotate_left); (focus (simp; done)); (focus (simp; done)))))
    clear hK K
    (try simp only [Act.put, putS])
    refine wpAnyH_ready (rs := [6]) (by kernel_rfl) (by simp) ?_
    refine ord_run (i := 6) (preB 9 5) rfl (by kernel_rfl) (by rfl) (fun K hK => ?_) AllReadyH.nil
    go_simp
    go_wp2_with (go_at_call 193; refine (winti_any _ HJ.out.2.1 HJ.out.2.2 _ (by first | exact hTq | exact hTq.below belT | exact HTW.out | exact HTW.out.below belT)).mono ?_; rintro r w2 ⟨u1, hu1, rfl, hb⟩; have hTq := (show Tab w2 from by first | exact Tab.below (by first | exact hTq | exact hTq.below belT | exact HTW.out | exact HTW.out.below belT) hb); have hbS1 := hb; have zz2 := hb.size; (try simp at zz2); have hB2 := hb)
    refine hK.out _ _ ?_ (fun hHeld => ?_)
    ·(repeat (first | (with_reducible exact SB.refl) | (with_reducible exact hHeld) | (with_reducible assumption) | (with_reducible refine SB.drew ?_) | (with_reducible refine SB.drewN ?_ _) | ((with_reducible refine SB.alloc ?_ ?_ _); (rotate_left); (first | omega | (simp <;> omega))) | ((with_reducible refine SB.setCell ?_ ?_ _); (rotate_left); (focus (first | (simp; done) | (right; first | omega | (simp <;> omega))))) | ((with_reducible refine SB.below ?_ hbS ?_); (rotate_left); (first | omega | (simp <;> omega))) | ((with_reducible refine SB.below ?_ hbS1 ?_); (rotate_left); (first | omega | (simp <;> omega))) | ((with_reducible refine SB.below ?_ hbS2 ?_); (rotate_left); (first | omega | (simp <;> omega))) | ((with_reducible refine SB.below ?_ hbS3 ?_); (rotate_left); (first | omega | (simp <;> omega))) | ((with_reducible refine SB.below ?_ hbS4 ?_); (rotate_left); (first | omega | (simp <;> omega))) | ((with_reducible refine SB.below ?_ hbS5 ?_); (rotate_left); (first | omega | (simp <;> omega))) | ((with_reducible refine SB.below ?_ hbS6 ?_); (rotate_left); (first | omega | (simp <;> omega))) | ((with_reducible refine SB.below ?_ hbS7 ?_); (rotate_left); (first | omega | (simp <;> omega))) | (with_reducible refine SB.undrew ?_) | ((with_reducible refine SB.congr ?_ ?_); (rotate_left); (focus (simp; done))) | ((with_reducible refine SB.realloc ?_ ?_ ?_); (rotate_left); (focus (simp; done)); (focus (simp; done)))))
    clear hK K
    (try simp only [Act.put, putS])
    refine wpAnyH_ready (rs := [9]) (by kernel_rfl) (by simp) ?_
    refine ord_run (i := 9) (preB 10 4) rfl (by kernel_rfl) (by rfl) (fun K hK => ?_) AllReadyH.nil
    go_simp
    refine hK.out _ _ ?_ (fun hHeld => ?_)
    ·(repeat (first | (with_reducible exact SB.refl) | (with_reducible exact hHeld) | (with_reducible assumption) | (with_reducible refine SB.drew ?_) | (with_reducible refine SB.drewN ?_ _) | ((with_reducible refine SB.alloc ?_ ?_ _); (rotate_left); (first | omega | (simp <;> omega))) | ((with_reducible refine SB.setCell ?_ ?_ _); (rotate_left); (focus (first | (simp; done) | (right; first | omega | (simp <;> omega))))) | ((with_reducible refine SB.below ?_ hbS ?_); (rotate_left); (first | omega | (simp <;> omega))) | ((with_reducible refine SB.below ?_ hbS1 ?_); (rotate_left); (first | omega | (simp <;> omega))) | ((with_reducible refine SB.below ?_ hbS2 ?_); (rotate_left); (first | omega | (simp <;> omega))) | ((with_reducible refine SB.below ?_ hbS3 ?_); (rotate_left); (first | omega | (simp <;> omega))) | ((with_reducible refine SB.below ?_ hbS4 ?_); (rotate_left); (first | omega | (simp <;> omega))) | ((with_reducible refine SB.below ?_ hbS5 ?_); (rotate_left); (first | omega | (simp <;> omega))) | ((with_reducible refine SB.below ?_ hbS6 ?_); (rotate_left); (first | omega | (simp <;> omega))) | ((with_reducible refine SB.below ?_ hbS7 ?_); (rotate_left); (first | omega | (simp <;> omega))) | (with_reducible refine SB.undrew ?_) | ((with_reducible refine SB.congr ?_ ?_); (rotate_left); (focus (simp; done))) | ((with_reducible refine SB.realloc ?_ ?_ ?_); (rotate_left); (focus (simp; done)); (focus (simp; done)))))
    clear hK K
    (try simp only [Act.put, putS])
    refine wpAnyH_ready (rs := [10]) (by kernel_rfl) (by simp) ?_
    refine ord_run (i := 10) (preB 11 3) rfl (by kernel_rfl) (by rfl) (fun K hK => ?_) AllReadyH.nil
    go_simp
    go_wp2_with (go_at_call 192; refine (wpk_any (some ⟨w2.heap.size, 0, none⟩) 3 3 21 (by decide) (by decide) _ (srow3 (blk_new rfl) hu0 hu1 (by omega)) (by first | exact hTq | exact hTq.below belT | exact HTW.out | exact HTW.out.below belT)).mono ?_; rintro r w3 ⟨tp, htp, rfl, hb⟩; have hbS2 := hb; have zz3 := hb.size; (simp at zz3); have hB3 := hb; have BT := hide (show Below wr.heap.size wr w3 from Below.trans (by (repeat (first | (with_reducible first | exact Below.refl _ _ | assumption | refine Below.drew ?_) | ((with_reducible first | refine Below.alloc ?_ ?_ _ | refine Below.setCell ?_ ?_ _); rotate_left; (first | omega | (simp <;> omega))))) : Below wr.heap.size wr _) ((hB1.mono (by simp)).trans ((hB2.mono (by omega)).trans (Below.trans (by (repeat (first | (with_reducible first | exact Below.refl _ _ | assumption | refine Below.drew ?_) | ((with_reducible first | refine Below.alloc ?_ ?_ _ | refine Below.setCell ?_ ?_ _); rotate_left; (first | omega | (simp <;> omega))))) : Below wr.heap.size w2 _) (hB3.mono (by simp; omega)))))))
    refine hK.out _ _ ?_ (fun hHeld => ?_)
    ·(repeat (first | (with_reducible exact SB.refl) | (with_reducible exact hHeld) | (with_reducible assumption) | (with_reducible refine SB.drew ?_) | (with_reducible refine SB.drewN ?_ _) | ((with_reducible refine SB.alloc ?_ ?_ _); (rotate_left); (first | omega | (simp <;> omega))) | ((with_reducible refine SB.setCell ?_ ?_ _); (rotate_left); (focus (first | (simp; done) | (right; first | omega | (simp <;> omega))))) | ((with_reducible refine SB.below ?_ hbS ?_); (rotate_left); (first | omega | (simp <;> omega))) | ((with_reducible refine SB.below ?_ hbS1 ?_); (rotate_left); (first | omega | (simp <;> omega))) | ((with_reducible refine SB.below ?_ hbS2 ?_); (rotate_left); (first | omega | (simp <;> omega))) | ((with_reducible refine SB.below ?_ hbS3 ?_); (rotate_left); (first | omega | (simp <;> omega))) | ((with_reducible refine SB.below ?_ hbS4 ?_); (rotate_left); (first | omega | (simp <;> omega))) | ((with_reducible refine SB.below ?_ hbS5 ?_); (rotate_left); (first | omega | (simp <;> omega))) | ((with_reducible refine SB.below ?_ hbS6 ?_); (rotate_left); (first | omega | (simp <;> omega))) | ((with_reducible refine SB.below ?_ hbS7 ?_); (rotate_left); (first | omega | (simp <;> omega))) | (with_reducible refine SB.undrew ?_) | ((with_reducible refine SB.congr ?_ ?_); (rotate_left); (focus (simp; done))) | ((with_reducible refine SB.realloc ?_ ?_ ?_); (rotate_left); (focus (simp; done)); (focus (simp; done)))))
    clear hK K
    (try simp only [Act.put, putS])
    refine wpAnyH_ready (rs := [11]) (by kernel_rfl) (by simp) ?_
    refine ord_run (i := 11) (preB 12 2) rfl (by kernel_rfl) (by rfl) (fun K hK => ?_) AllReadyH.nil
    go_simp
    refine hK.out _ _ ?_ (fun hHeld => ?_)
    ·(repeat (first | (with_reducible exact SB.refl) | (with_reducible exact hHeld) | (with_reducible assumption) | (with_reducible refine SB.drew ?_) | (with_reducible refine SB.drewN ?_ _) | ((with_reducible refine SB.alloc ?_ ?_ _); (rotate_left); (first | omega | (simp <;> omega))) | ((with_reducible refine SB.setCell ?_ ?_ _); (rotate_left); (focus (first | (simp; done) | (right; first | omega | (simp <;> omega))))) | ((with_reducible refine SB.below ?_ hbS ?_); (rotate_left); (first | omega | (simp <;> omega))) | ((with_reducible refine SB.below ?_ hbS1 ?_); (rotate_left); (first | omega | (simp <;> omega))) | ((with_reducible refine SB.below ?_ hbS2 ?_); (rotate_left); (first | omega | (simp <;> omega))) | ((with_reducible refine SB.below ?_ hbS3 ?_); (rotate_left); (first | omega | (simp <;> omega))) | ((with_reducible refine SB.below ?_ hbS4 ?_); (rotate_left); (first | omega | (simp <;> omega))) | ((with_reducible refine SB.below ?_ hbS5 ?_); (rotate_left); (first | omega | (simp <;> omega))) | ((with_reducible refine SB.below ?_ hbS6 ?_); (rotate_left); (first | omega | (simp <;> omega))) | ((with_reducible refine SB.below ?_ hbS7 ?_); (rotate_left); (first | omega | (simp <;> omega))) | (with_reducible refine SB.undrew ?_) | ((with_reducible refine SB.congr ?_ ?_); (rotate_left); (focus (simp; done))) | ((with_reducible refine SB.realloc ?_ ?_ ?_); (rotate_left); (focus (simp; done)); (focus (simp; done)))))
    clear hK K
    (try simp only [Act.put, putS])
    refine wpAnyH_ready (rs := [12]) (by kernel_rfl) (by simp) ?_
    refine ord_run (i := 12) (preB 13 1) rfl (by kernel_rfl) (by rfl) (fun K hK => ?_) AllReadyH.nil
    (refine wp_append_own2 (.tmp 16) (.tmp 27) 173 rfl (w.heap.size + 1) 9 i0' (.string ⟨#[]⟩) 1 16 Tryz.underlying173 hi0 hz00 hz1 hz2 rfl (by decide) _ _ _ rfl ((owns_below HO.out BT.out).alloc _) ⟨w3.heap.size, 0, none⟩ 1 1 (strs [tp]) rfl rfl (news1 (by simp [go_sem])) (strs_ones _) (by have := HLT.out; simp only [maxLen]; omega) (by have := HLT.out; omega) (by simp; omega) ?_; intro A4 c4 w4 ho4 hg4; have hs4 := hg4.size; (try simp at hs4); have HO4 := hide (show w4.ownsRow (w.heap.size + 1) 9 1 (.slice A4 (k + 1) c4) (k + 1) (strs (l ++ [tp])) from by rw [strs_app]; exact ho4); have B4 := hide (H0.out.trans ((BT.out.mono zH).trans (Below.trans (by (repeat (first | (with_reducible first | exact Below.refl _ _ | assumption | refine Below.drew ?_) | ((with_reducible first | refine Below.alloc ?_ ?_ _ | refine Below.setCell ?_ ?_ _); rotate_left; (first | omega | (simp <;> omega))))) : Below (w.heap.size + 1) w3 _) (below_grown (B := w.heap.size + 1) hg4 (by simp; omega) (own_ge HO.out))))); refine hK.out _ _ ?_ (fun hHeld => ?_); (rotate_left); (clear ho4); (rotate_left); (exact SB.grownX hHeld hg4 (by simp; omega) (fun k hk => by cases hk)); (clear hK K hg4))
    (try simp only [Act.put, putS])
    refine oS (i := 13) (preB 14 0) rfl hHeld ?_
    (try simp only [Act.put, putS])
    refine wpAnyH_done (by kernel_rfl) ?_ _
    go_wp2_with fail
    go_roundw
    case rel => exact ⟨k + 1, c4, A4, l ++ [tp], HLT.out, by go_num, rfl, HO4.out, fun s hs => by
     rcases List.mem_append.1 hs with h | h
     ·exact HL.out s h
     ·rw [List.mem_singleton.1 h]; omega, B4.out⟩
    case measure => have := HLT.out; simp [intOf]; omega
   ·obtain rfl : B = some ⟨gB, 0, none⟩ := by injection hv
    have gn : ¬ wr.heap.size = gB := by have := heap_lt hhB; omega
    clear hv hhB
    go_wp2_with fail
    refine ord_start (SB (wr.heap.size + 1) [gB] _) 14 (preB 0 14) (by kernel_rfl) (by kernel_rfl) (by kernel_rfl) SB.refl.drew (fun hHeld => ?_)
    refine oS (i := 0) (preB 1 13) rfl hHeld ?_
    (try simp only [Act.put, putS])
    refine oS (i := 1) (preB 2 12) rfl hHeld ?_
    (try simp only [Act.put, putS])
    refine oS (i := 2) (preB 3 11) rfl hHeld ?_
    (try simp only [Act.put, putS])
    refine oS (i := 4) #[true, true, true, false, true, false, false, false, false, false, false, false, false, false] rfl hHeld ?_
    (try simp only [Act.put, putS])
    refine oS (i := 5) #[true, true, true, false, true, true, false, false, false, false, false, false, false, false] rfl hHeld ?_
    (try simp only [Act.put, putS])
    refine oS (i := 7) #[true, true, true, false, true, true, false, true, false, false, false, false, false, false] rfl hHeld ?_
    (try simp only [Act.put, putS])
    refine oS (i := 8) #[true, true, true, false, true, true, false, true, true, false, false, false, false, false] rfl hHeld ?_
    (try simp only [Act.put, putS])
    refine wpAnyH_ready (rs := [3]) (by kernel_rfl) (by simp) ?_
    refine ord_run (i := 3) #[true, true, true, true, true, true, false, true, true, false, false, false, false, false] rfl (by kernel_rfl) (by rfl) (fun K hK => ?_) AllReadyH.nil
    go_simp
    go_wp2_with (go_at_call 193; refine (winti_any _ HJ.out.1.1 HJ.out.1.2 _ (by first | exact hTq | exact hTq.below belT | exact HTW.out | exact HTW.out.below belT)).mono ?_; rintro r w1 ⟨u0, hu0, rfl, hb⟩; have hTq := (show Tab w1 from by first | exact Tab.below (by first | exact hTq | exact hTq.below belT | exact HTW.out | exact HTW.out.below belT) hb); have hbS := hb; have zz1 := hb.size; (simp at zz1); have hB1 := hb)
    refine hK.out _ _ ?_ (fun hHeld => ?_)
    ·(repeat (first | (with_reducible exact SB.refl) | (with_reducible exact hHeld) | (with_reducible assumption) | (with_reducible refine SB.drew ?_) | (with_reducible refine SB.drewN ?_ _) | ((with_reducible refine SB.alloc ?_ ?_ _); (rotate_left); (first | omega | (simp <;> omega))) | ((with_reducible refine SB.setCell ?_ ?_ _); (rotate_left); (focus (first | (simp; done) | (right; first | omega | (simp <;> omega))))) | ((with_reducible refine SB.below ?_ hbS ?_); (rotate_left); (first | omega | (simp <;> omega))) | ((with_reducible refine SB.below ?_ hbS1 ?_); (rotate_left); (first | omega | (simp <;> omega))) | ((with_reducible refine SB.below ?_ hbS2 ?_); (rotate_left); (first | omega | (simp <;> omega))) | ((with_reducible refine SB.below ?_ hbS3 ?_); (rotate_left); (first | omega | (simp <;> omega))) | ((with_reducible refine SB.below ?_ hbS4 ?_); (rotate_left); (first | omega | (simp <;> omega))) | ((with_reducible refine SB.below ?_ hbS5 ?_); (rotate_left); (first | omega | (simp <;> omega))) | ((with_reducible refine SB.below ?_ hbS6 ?_); (rotate_left); (first | omega | (simp <;> omega))) | ((with_reducible refine SB.below ?_ hbS7 ?_); (rotate_left); (first | omega | (simp <;> omega))) | (with_reducible refine SB.undrew ?_) | ((with_reducible refine SB.congr ?_ ?_); (rotate_left); (focus (simp; done))) | ((with_reducible refine SB.realloc ?_ ?_ ?_); (rotate_left); (focus (simp; done)); (focus (simp; done)))))
    clear hK K
    (try simp only [Act.put, putS])
    refine wpAnyH_ready (rs := [6]) (by kernel_rfl) (by simp) ?_
    refine ord_run (i := 6) (preB 9 5) rfl (by kernel_rfl) (by rfl) (fun K hK => ?_) AllReadyH.nil
    go_simp
    go_wp2_with (go_at_call 193; refine (winti_any _ HJ.out.2.1 HJ.out.2.2 _ (by first | exact hTq | exact hTq.below belT | exact HTW.out | exact HTW.out.below belT)).mono ?_; rintro r w2 ⟨u1, hu1, rfl, hb⟩; have hTq := (show Tab w2 from by first | exact Tab.below (by first | exact hTq | exact hTq.below belT | exact HTW.out | exact HTW.out.below belT) hb); have hbS1 := hb; have zz2 := hb.size; (try simp at zz2); have hB2 := hb)
    refine hK.out _ _ ?_ (fun hHeld => ?_)
    ·(repeat (first | (with_reducible exact SB.refl) | (with_reducible exact hHeld) | (with_reducible assumption) | (with_reducible refine SB.drew ?_) | (with_reducible refine SB.drewN ?_ _) | ((with_reducible refine SB.alloc ?_ ?_ _); (rotate_left); (first | omega | (simp <;> omega))) | ((with_reducible refine SB.setCell ?_ ?_ _); (rotate_left); (focus (first | (simp; done) | (right; first | omega | (simp <;> omega))))) | ((with_reducible refine SB.below ?_ hbS ?_); (rotate_left); (first | omega | (simp <;> omega))) | ((with_reducible refine SB.below ?_ hbS1 ?_); (rotate_left); (first | omega | (simp <;> omega))) | ((with_reducible refine SB.below ?_ hbS2 ?_); (rotate_left); (first | omega | (simp <;> omega))) | ((with_reducible refine SB.below ?_ hbS3 ?_); (rotate_left); (first | omega | (simp <;> omega))) | ((with_reducible refine SB.below ?_ hbS4 ?_); (rotate_left); (first | omega | (simp <;> omega))) | ((with_reducible refine SB.below ?_ hbS5 ?_); (rotate_left); (first | omega | (simp <;> omega))) | ((with_reducible refine SB.below ?_ hbS6 ?_); (rotate_left); (first | omega | (simp <;> omega))) | ((with_reducible refine SB.below ?_ hbS7 ?_); (rotate_left); (first | omega | (simp <;> omega))) | (with_reducible refine SB.undrew ?_) | ((with_reducible refine SB.congr ?_ ?_); (rotate_left); (focus (simp; done))) | ((with_reducible refine SB.realloc ?_ ?_ ?_); (rotate_left); (focus (simp; done)); (focus (simp; done)))))
    clear hK K
    (try simp only [Act.put, putS])
    refine wpAnyH_ready (rs := [9]) (by kernel_rfl) (by simp) ?_
    refine ord_run (i := 9) (preB 10 4) rfl (by kernel_rfl) (by rfl) (fun K hK => ?_) AllReadyH.nil
    go_simp
    refine hK.out _ _ ?_ (fun hHeld => ?_)
    ·(repeat (first | (with_reducible exact SB.refl) | (with_reducible exact hHeld) | (with_reducible assumption) | (with_reducible refine SB.drew ?_) | (with_reducible refine SB.drewN ?_ _) | ((with_reducible refine SB.alloc ?_ ?_ _); (rotate_left); (first | omega | (simp <;> omega))) | ((with_reducible refine SB.setCell ?_ ?_ _); (rotate_left); (focus (first | (simp; done) | (right; first | omega | (simp <;> omega))))) | ((with_reducible refine SB.below ?_ hbS ?_); (rotate_left); (first | omega | (simp <;> omega))) | ((with_reducible refine SB.below ?_ hbS1 ?_); (rotate_left); (first | omega | (simp <;> omega))) | ((with_reducible refine SB.below ?_ hbS2 ?_); (rotate_left); (first | omega | (simp <;> omega))) | ((with_reducible refine SB.below ?_ hbS3 ?_); (rotate_left); (first | omega | (simp <;> omega))) | ((with_reducible refine SB.below ?_ hbS4 ?_); (rotate_left); (first | omega | (simp <;> omega))) | ((with_reducible refine SB.below ?_ hbS5 ?_); (rotate_left); (first | omega | (simp <;> omega))) | ((with_reducible refine SB.below ?_ hbS6 ?_); (rotate_left); (first | omega | (simp <;> omega))) | ((with_reducible refine SB.below ?_ hbS7 ?_); (rotate_left); (first | omega | (simp <;> omega))) | (with_reducible refine SB.undrew ?_) | ((with_reducible refine SB.congr ?_ ?_); (rotate_left); (focus (simp; done))) | ((with_reducible refine SB.realloc ?_ ?_ ?_); (rotate_left); (focus (simp; done)); (focus (simp; done)))))
    clear hK K
    (try simp only [Act.put, putS])
    refine wpAnyH_ready (rs := [10]) (by kernel_rfl) (by simp) ?_
    refine ord_run (i := 10) (preB 11 3) rfl (by kernel_rfl) (by rfl) (fun K hK => ?_) AllReadyH.nil
    go_simp
    go_wp2_with (go_at_call 192; refine (wpk_any (some ⟨w2.heap.size, 0, none⟩) 3 3 21 (by decide) (by decide) _ (srow3 (blk_new rfl) hu0 hu1 (by omega)) (by first | exact hTq | exact hTq.below belT | exact HTW.out | exact HTW.out.below belT)).mono ?_; rintro r w3 ⟨tp, htp, rfl, hb⟩; have hbS2 := hb; have zz3 := hb.size; (simp at zz3); have hB3 := hb; have BT := hide (show Below wr.heap.size wr w3 from Below.trans (by (repeat (first | (with_reducible first | exact Below.refl _ _ | assumption | refine Below.drew ?_) | ((with_reducible first | refine Below.alloc ?_ ?_ _ | refine Below.setCell ?_ ?_ _); rotate_left; (first | omega | (simp <;> omega))))) : Below wr.heap.size wr _) ((hB1.mono (by simp)).trans ((hB2.mono (by omega)).trans (Below.trans (by (repeat (first | (with_reducible first | exact Below.refl _ _ | assumption | refine Below.drew ?_) | ((with_reducible first | refine Below.alloc ?_ ?_ _ | refine Below.setCell ?_ ?_ _); rotate_left; (first | omega | (simp <;> omega))))) : Below wr.heap.size w2 _) (hB3.mono (by simp; omega)))))))
    refine hK.out _ _ ?_ (fun hHeld => ?_)
    ·(repeat (first | (with_reducible exact SB.refl) | (with_reducible exact hHeld) | (with_reducible assumption) | (with_reducible refine SB.drew ?_) | (with_reducible refine SB.drewN ?_ _) | ((with_reducible refine SB.alloc ?_ ?_ _); (rotate_left); (first | omega | (simp <;> omega))) | ((with_reducible refine SB.setCell ?_ ?_ _); (rotate_left); (focus (first | (simp; done) | (right; first | omega | (simp <;> omega))))) | ((with_reducible refine SB.below ?_ hbS ?_); (rotate_left); (first | omega | (simp <;> omega))) | ((with_reducible refine SB.below ?_ hbS1 ?_); (rotate_left); (first | omega | (simp <;> omega))) | ((with_reducible refine SB.below ?_ hbS2 ?_); (rotate_left); (first | omega | (simp <;> omega))) | ((with_reducible refine SB.below ?_ hbS3 ?_); (rotate_left); (first | omega | (simp <;> omega))) | ((with_reducible refine SB.below ?_ hbS4 ?_); (rotate_left); (first | omega | (simp <;> omega))) | ((with_reducible refine SB.below ?_ hbS5 ?_); (rotate_left); (first | omega | (simp <;> omega))) | ((with_reducible refine SB.below ?_ hbS6 ?_); (rotate_left); (first | omega | (simp <;> omega))) | ((with_reducible refine SB.below ?_ hbS7 ?_); (rotate_left); (first | omega | (simp <;> omega))) | (with_reducible refine SB.undrew ?_) | ((with_reducible refine SB.congr ?_ ?_); (rotate_left); (focus (simp; done))) | ((with_reducible refine SB.realloc ?_ ?_ ?_); (rotate_left); (focus (simp; done)); (focus (simp; done)))))
    clear hK K
    (try simp only [Act.put, putS])
    refine wpAnyH_ready (rs := [11]) (by kernel_rfl) (by simp) ?_
    refine ord_run (i := 11) (preB 12 2) rfl (by kernel_rfl) (by rfl) (fun K hK => ?_) AllReadyH.nil
    go_simp
    refine hK.out _ _ ?_ (fun hHeld => ?_)
    ·(repeat (first | (with_reducible exact SB.refl) | (with_reducible exact hHeld) | (with_reducible assumption) | (with_reducible refine SB.drew ?_) | (with_reducible refine SB.drewN ?_ _) | ((with_reducible refine SB.alloc ?_ ?_ _); (rotate_left); (first | omega | (simp <;> omega))) | ((with_reducible refine SB.setCell ?_ ?_ _); (rotate_left); (focus (first | (simp; done) | (right; first | omega | (simp <;> omega))))) | ((with_reducible refine SB.below ?_ hbS ?_); (rotate_left); (first | omega | (simp <;> omega))) | ((with_reducible refine SB.below ?_ hbS1 ?_); (rotate_left); (first | omega | (simp <;> omega))) | ((with_reducible refine SB.below ?_ hbS2 ?_); (rotate_left); (first | omega | (simp <;> omega))) | ((with_reducible refine SB.below ?_ hbS3 ?_); (rotate_left); (first | omega | (simp <;> omega))) | ((with_reducible refine SB.below ?_ hbS4 ?_); (rotate_left); (first | omega | (simp <;> omega))) | ((with_reducible refine SB.below ?_ hbS5 ?_); (rotate_left); (first | omega | (simp <;> omega))) | ((with_reducible refine SB.below ?_ hbS6 ?_); (rotate_left); (first | omega | (simp <;> omega))) | ((with_reducible refine SB.below ?_ hbS7 ?_); (rotate_left); (first | omega | (simp <;> omega))) | (with_reducible refine SB.undrew ?_) | ((with_reducible refine SB.congr ?_ ?_); (rotate_left); (focus (simp; done))) | ((with_reducible refine SB.realloc ?_ ?_ ?_); (rotate_left); (focus (simp; done)); (focus (simp; done)))))
    clear hK K
    (try simp only [Act.put, putS])
    refine wpAnyH_ready (rs := [12]) (by kernel_rfl) (by simp) ?_
    refine ord_run (i := 12) (preB 13 1) rfl (by kernel_rfl) (by rfl) (fun K hK => ?_) AllReadyH.nil
    (refine wp_append_own2 (.tmp 16) (.tmp 27) 173 rfl (w.heap.size + 1) 9 i0' (.string ⟨#[]⟩) 1 16 Tryz.underlying173 hi0 hz00 hz1 hz2 rfl (by decide) _ _ _ rfl ((owns_below HO.out BT.out).alloc _) ⟨w3.heap.size, 0, none⟩ 1 1 (strs [tp]) rfl rfl (news1 (by simp [go_sem])) (strs_ones _) (by have := HLT.out; simp only [maxLen]; omega) (by have := HLT.out; omega) (by simp; omega) ?_; intro A4 c4 w4 ho4 hg4; have hs4 := hg4.size; (try simp at hs4); have HO4 := hide (show w4.ownsRow (w.heap.size + 1) 9 1 (.slice A4 (k + 1) c4) (k + 1) (strs (l ++ [tp])) from by rw [strs_app]; exact ho4); have B4 := hide (H0.out.trans ((BT.out.mono zH).trans (Below.trans (by (repeat (first | (with_reducible first | exact Below.refl _ _ | assumption | refine Below.drew ?_) | ((with_reducible first | refine Below.alloc ?_ ?_ _ | refine Below.setCell ?_ ?_ _); rotate_left; (first | omega | (simp <;> omega))))) : Below (w.heap.size + 1) w3 _) (below_grown (B := w.heap.size + 1) hg4 (by simp; omega) (own_ge HO.out))))); refine hK.out _ _ ?_ (fun hHeld => ?_); (rotate_left); (clear ho4); (rotate_left); (exact SB.grownX hHeld hg4 (by simp; omega) (fun k hk => by injection hk with hk; subst hk; exact .inl (List.mem_singleton.2 rfl))); (clear hK K hg4))
    (try simp only [Act.put, putS])
    refine oS (i := 13) (preB 14 0) rfl hHeld ?_
    (try simp only [Act.put, putS])
    refine wpAnyH_done (by kernel_rfl) ?_ _
    go_wp2_with fail
    go_roundw
    case rel => exact ⟨k + 1, c4, A4, l ++ [tp], HLT.out, by go_num, rfl, HO4.out, fun s hs => by
     rcases List.mem_append.1 hs with h | h
     ·exact HL.out s h
     ·rw [List.mem_singleton.1 h]; omega, B4.out⟩
    case measure => have := HLT.out; simp [intOf]; omega
  ·obtain rfl : k = n := by omega
   clear hlt hkn
   have HP := hide ((own_trow HO.out HL.out).2)
   have HTW := hide (HT.out.below QL.out)
   clear HO HL H0 HAM HCU HA
   go_wp2_with fail
   obtain ⟨x0, x1, x2, x3, x4, x5⟩ : (∀ w, _) ∧ (∀ w, _) ∧ (∀ w, _) ∧ (∀ w, _) ∧ (∀ w, _) ∧ (∀ w, _) := ⟨fun w => (ix6 (id, bk, va, ki, au, pe) w).1, fun w => (ix6 (id, bk, va, ki, au, pe) w).2.1, fun w => (ix6 (id, bk, va, ki, au, pe) w).2.2.1, fun w => (ix6 (id, bk, va, ki, au, pe) w).2.2.2.1, fun w => (ix6 (id, bk, va, ki, au, pe) w).2.2.2.2.1, fun w => (ix6 (id, bk, va, ki, au, pe) w).2.2.2.2.2⟩
   dsimp only at x0 x1 x2 x3 x4 x5
   refine wp_loopN 7 ?_
   unfold LoopN
   have O0 := hide (show wr.ownsRow wr.heap.size 9 1 (.slice none 0 0) 0 (strs []) from ⟨rfl, .inl ⟨rfl, rfl⟩⟩)
   have X0 := hide (Below.refl wr.heap.size wr)
   go_wp2_with fail
   refine (winti_any _ HI.out.1.1 HI.out.1.2 _ (HTW.out.below (X0.out.trans belT))).mono ?_
   rintro r v0 ⟨s0, hs0, rfl, hb⟩
   have Y0 := hide (X0.out.trans (hb.mono (by have := X0.out.size; omega)))
   have P0 := hide (owns_below O0.out hb)
   have zy0 := Y0.out.size
   clear hb
   go_wp2_with (at_builtin; go_loud (refine wpList_append_own2 _ rfl (.tmp 46) (.tmp 49) 173 rfl wr.heap.size 9 i0' (.string ⟨#[]⟩) 1 16 Tryz.underlying173 hi0 hz00 hz1 hz2 rfl (by decide) _ _ _ rfl (P0.out.alloc _) ⟨v0.heap.size, 0, none⟩ 1 1 (strs [s0]) rfl rfl (news1 (by simp [go_sem])) (strs_ones _) (by simp only [maxLen]; omega) (by omega) (by simp; omega) ?_); intro A1 c1 f1 ho hg _; refine Hid.out ?_)
   refine Lib.hid ?_
   have O1 := hide (show f1.ownsRow wr.heap.size 9 1 (.slice A1 1 c1) 1 (strs [s0]) from ho)
   have X1 := hide (Y0.out.trans ((show Below wr.heap.size v0 _ from by (repeat (first | (with_reducible first | exact Below.refl _ _ | assumption | refine Below.drew ?_) | ((with_reducible first | refine Below.alloc ?_ ?_ _ | refine Below.setCell ?_ ?_ _); rotate_left; (first | omega | (simp <;> omega)))))).trans (below_grown (B := wr.heap.size) hg (by simp; omega) (own_ge P0.out))))
   clear ho hg O0 P0 Y0 zy0
   have zx1 := X1.out.size
   go_wp2_with fail
   unfold LoopN
   go_wp2_with fail
   refine (winti_any _ HI.out.2.1.1 HI.out.2.1.2 _ (HTW.out.below (X1.out.trans belT))).mono ?_
   rintro r v1 ⟨s1, hs1, rfl, hb⟩
   have Y1 := hide (X1.out.trans (hb.mono (by have := X1.out.size; omega)))
   have P1 := hide (owns_below O1.out hb)
   have zy1 := Y1.out.size
   clear hb
   go_wp2_with (at_builtin; go_loud (refine wpList_append_own2 _ rfl (.tmp 46) (.tmp 49) 173 rfl wr.heap.size 9 i0' (.string ⟨#[]⟩) 1 16 Tryz.underlying173 hi0 hz00 hz1 hz2 rfl (by decide) _ _ _ rfl (P1.out.alloc _) ⟨v1.heap.size, 0, none⟩ 1 1 (strs [s1]) rfl rfl (news1 (by simp [go_sem])) (strs_ones _) (by simp only [maxLen]; omega) (by omega) (by simp; omega) ?_); intro A2 c2 f2 ho hg _; refine Hid.out ?_)
   refine Lib.hid ?_
   have O2 := hide (show f2.ownsRow wr.heap.size 9 1 (.slice A2 2 c2) 2 (strs [s0, s1]) from ho)
   have X2 := hide (Y1.out.trans ((show Below wr.heap.size v1 _ from by (repeat (first | (with_reducible first | exact Below.refl _ _ | assumption | refine Below.drew ?_) | ((with_reducible first | refine Below.alloc ?_ ?_ _ | refine Below.setCell ?_ ?_ _); rotate_left; (first | omega | (simp <;> omega)))))).trans (below_grown (B := wr.heap.size) hg (by simp; omega) (own_ge P1.out))))
   clear ho hg O1 P1 Y1 zy1
   have zx2 := X2.out.size
   go_wp2_with fail
   unfold LoopN
   go_wp2_with fail
   refine (winti_any _ HI.out.2.2.1.1 HI.out.2.2.1.2 _ (HTW.out.below (X2.out.trans belT))).mono ?_
   rintro r v2 ⟨s2, hs2, rfl, hb⟩
   have Y2 := hide (X2.out.trans (hb.mono (by have := X2.out.size; omega)))
   have P2 := hide (owns_below O2.out hb)
   have zy2 := Y2.out.size
   clear hb
   go_wp2_with (at_builtin; go_loud (refine wpList_append_own2 _ rfl (.tmp 46) (.tmp 49) 173 rfl wr.heap.size 9 i0' (.string ⟨#[]⟩) 1 16 Tryz.underlying173 hi0 hz00 hz1 hz2 rfl (by decide) _ _ _ rfl (P2.out.alloc _) ⟨v2.heap.size, 0, none⟩ 1 1 (strs [s2]) rfl rfl (news1 (by simp [go_sem])) (strs_ones _) (by simp only [maxLen]; omega) (by omega) (by simp; omega) ?_); intro A3 c3 f3 ho hg _; refine Hid.out ?_)
   refine Lib.hid ?_
   have O3 := hide (show f3.ownsRow wr.heap.size 9 1 (.slice A3 3 c3) 3 (strs [s0, s1, s2]) from ho)
   have X3 := hide (Y2.out.trans ((show Below wr.heap.size v2 _ from by (repeat (first | (with_reducible first | exact Below.refl _ _ | assumption | refine Below.drew ?_) | ((with_reducible first | refine Below.alloc ?_ ?_ _ | refine Below.setCell ?_ ?_ _); rotate_left; (first | omega | (simp <;> omega)))))).trans (below_grown (B := wr.heap.size) hg (by simp; omega) (own_ge P2.out))))
   clear ho hg O2 P2 Y2 zy2
   have zx3 := X3.out.size
   go_wp2_with fail
   unfold LoopN
   go_wp2_with fail
   refine (winti_any _ HI.out.2.2.2.1.1 HI.out.2.2.2.1.2 _ (HTW.out.below (X3.out.trans belT))).mono ?_
   rintro r v3 ⟨s3, hs3, rfl, hb⟩
   have Y3 := hide (X3.out.trans (hb.mono (by have := X3.out.size; omega)))
   have P3 := hide (owns_below O3.out hb)
   have zy3 := Y3.out.size
   clear hb
   go_wp2_with (at_builtin; go_loud (refine wpList_append_own2 _ rfl (.tmp 46) (.tmp 49) 173 rfl wr.heap.size 9 i0' (.string ⟨#[]⟩) 1 16 Tryz.underlying173 hi0 hz00 hz1 hz2 rfl (by decide) _ _ _ rfl (P3.out.alloc _) ⟨v3.heap.size, 0, none⟩ 1 1 (strs [s3]) rfl rfl (news1 (by simp [go_sem])) (strs_ones _) (by simp only [maxLen]; omega) (by omega) (by simp; omega) ?_); intro A4 c4 f4 ho hg _; refine Hid.out ?_)
   refine Lib.hid ?_
   have O4 := hide (show f4.ownsRow wr.heap.size 9 1 (.slice A4 4 c4) 4 (strs [s0, s1, s2, s3]) from ho)
   have X4 := hide (Y3.out.trans ((show Below wr.heap.size v3 _ from by (repeat (first | (with_reducible first | exact Below.refl _ _ | assumption | refine Below.drew ?_) | ((with_reducible first | refine Below.alloc ?_ ?_ _ | refine Below.setCell ?_ ?_ _); rotate_left; (first | omega | (simp <;> omega)))))).trans (below_grown (B := wr.heap.size) hg (by simp; omega) (own_ge P3.out))))
   clear ho hg O3 P3 Y3 zy3
   have zx4 := X4.out.size
   go_wp2_with fail
   unfold LoopN
   go_wp2_with fail
   refine (winti_any _ HI.out.2.2.2.2.1.1 HI.out.2.2.2.2.1.2 _ (HTW.out.below (X4.out.trans belT))).mono ?_
   rintro r v4 ⟨s4, hs4, rfl, hb⟩
   have Y4 := hide (X4.out.trans (hb.mono (by have := X4.out.size; omega)))
   have P4 := hide (owns_below O4.out hb)
   have zy4 := Y4.out.size
   clear hb
   go_wp2_with (at_builtin; go_loud (refine wpList_append_own2 _ rfl (.tmp 46) (.tmp 49) 173 rfl wr.heap.size 9 i0' (.string ⟨#[]⟩) 1 16 Tryz.underlying173 hi0 hz00 hz1 hz2 rfl (by decide) _ _ _ rfl (P4.out.alloc _) ⟨v4.heap.size, 0, none⟩ 1 1 (strs [s4]) rfl rfl (news1 (by simp [go_sem])) (strs_ones _) (by simp only [maxLen]; omega) (by omega) (by simp; omega) ?_); intro A5 c5 f5 ho hg _; refine Hid.out ?_)
   refine Lib.hid ?_
   have O5 := hide (show f5.ownsRow wr.heap.size 9 1 (.slice A5 5 c5) 5 (strs [s0, s1, s2, s3, s4]) from ho)
   have X5 := hide (Y4.out.trans ((show Below wr.heap.size v4 _ from by (repeat (first | (with_reducible first | exact Below.refl _ _ | assumption | refine Below.drew ?_) | ((with_reducible first | refine Below.alloc ?_ ?_ _ | refine Below.setCell ?_ ?_ _); rotate_left; (first | omega | (simp <;> omega)))))).trans (below_grown (B := wr.heap.size) hg (by simp; omega) (own_ge P4.out))))
   clear ho hg O4 P4 Y4 zy4
   have zx5 := X5.out.size
   go_wp2_with fail
   unfold LoopN
   go_wp2_with fail
   refine (winti_any _ HI.out.2.2.2.2.2.1 HI.out.2.2.2.2.2.2 _ (HTW.out.below (X5.out.trans belT))).mono ?_
   rintro r v5 ⟨s5, hs5, rfl, hb⟩
   have Y5 := hide (X5.out.trans (hb.mono (by have := X5.out.size; omega)))
   have P5 := hide (owns_below O5.out hb)
   have zy5 := Y5.out.size
   clear hb
   go_wp2_with (at_builtin; go_loud (refine wpList_append_own2 _ rfl (.tmp 46) (.tmp 49) 173 rfl wr.heap.size 9 i0' (.string ⟨#[]⟩) 1 16 Tryz.underlying173 hi0 hz00 hz1 hz2 rfl (by decide) _ _ _ rfl (P5.out.alloc _) ⟨v5.heap.size, 0, none⟩ 1 1 (strs [s5]) rfl rfl (news1 (by simp [go_sem])) (strs_ones _) (by simp only [maxLen]; omega) (by omega) (by simp; omega) ?_); intro A6 c6 f6 ho hg _; refine Hid.out ?_)
   refine Lib.hid ?_
   have O6 := hide (show f6.ownsRow wr.heap.size 9 1 (.slice A6 6 c6) 6 (strs [s0, s1, s2, s3, s4, s5]) from ho)
   have X6 := hide (Y5.out.trans ((show Below wr.heap.size v5 _ from by (repeat (first | (with_reducible first | exact Below.refl _ _ | assumption | refine Below.drew ?_) | ((with_reducible first | refine Below.alloc ?_ ?_ _ | refine Below.setCell ?_ ?_ _); rotate_left; (first | omega | (simp <;> omega)))))).trans (below_grown (B := wr.heap.size) hg (by simp; omega) (own_ge P5.out))))
   clear ho hg O5 P5 Y5 zy5
   have zx6 := X6.out.size
   have k6_6 := X6.out.cell (p := ⟨w.heap.size, 6, none⟩) (by omega)
   have k6_7 := X6.out.cell (p := ⟨w.heap.size, 7, none⟩) (by omega)
   go_wp2_with fail
   unfold LoopN
   go_wp2_with fail
   refine ord_start (SB (wr.heap.size) [] _) 11 (preB 0 11) (by kernel_rfl) (by kernel_rfl) (by kernel_rfl) SB.refl.drew (fun hHeld => ?_)
   refine oS (i := 0) (preB 1 10) rfl hHeld ?_
   (try simp only [Act.put, putS])
   refine oS (i := 1) (preB 2 9) rfl hHeld ?_
   (try simp only [Act.put, putS])
   refine oS (i := 2) (preB 3 8) rfl hHeld ?_
   (try simp only [Act.put, putS])
   refine oS (i := 3) (preB 4 7) rfl hHeld ?_
   (try simp only [Act.put, putS])
   refine oS (i := 4) (preB 5 6) rfl hHeld ?_
   (try simp only [Act.put, putS])
   refine oS (i := 5) (preB 6 5) rfl hHeld ?_
   (try simp only [Act.put, putS])
   refine wpAnyH_ready (rs := [6]) (by kernel_rfl) (by simp) ?_
   refine ord_run (i := 6) (preB 7 4) rfl (by kernel_rfl) (by rfl) (fun K hK => ?_) AllReadyH.nil
   go_simp
   go_wp2_with (go_at_call 192; refine (wpk_any B k p 200 (by omega) (by decide) _ (HP.out.below (X6.out.trans belT)) (HTW.out.below (X6.out.trans belT))).mono ?_; rintro r g1 ⟨tp, htp, rfl, hb⟩; have hbS := hb.mono (show wr.heap.size ≤ _ by simp; omega); have yz1 := hb.size; (try simp at yz1); have OP := hide (owns_below O6.out (undrew hb)); have BP := hide (show Below wr.heap.size wr g1 from X6.out.trans (Below.trans (by (repeat (first | (with_reducible first | exact Below.refl _ _ | assumption | refine Below.drew ?_) | ((with_reducible first | refine Below.alloc ?_ ?_ _ | refine Below.setCell ?_ ?_ _); rotate_left; (first | omega | (simp <;> omega))))) : Below wr.heap.size f6 _) (hb.mono (by simp; omega)))))
   refine hK.out _ _ ?_ (fun hHeld => ?_)
   ·(repeat (first | (with_reducible exact SB.refl) | (with_reducible exact hHeld) | (with_reducible assumption) | (with_reducible refine SB.drew ?_) | (with_reducible refine SB.drewN ?_ _) | ((with_reducible refine SB.alloc ?_ ?_ _); (rotate_left); (first | omega | (simp <;> omega))) | ((with_reducible refine SB.setCell ?_ ?_ _); (rotate_left); (focus (first | (simp; done) | (right; first | omega | (simp <;> omega))))) | ((with_reducible refine SB.below ?_ hbS ?_); (rotate_left); (first | omega | (simp <;> omega))) | ((with_reducible refine SB.below ?_ hbS1 ?_); (rotate_left); (first | omega | (simp <;> omega))) | ((with_reducible refine SB.below ?_ hbS2 ?_); (rotate_left); (first | omega | (simp <;> omega))) | ((with_reducible refine SB.below ?_ hbS3 ?_); (rotate_left); (first | omega | (simp <;> omega))) | ((with_reducible refine SB.below ?_ hbS4 ?_); (rotate_left); (first | omega | (simp <;> omega))) | ((with_reducible refine SB.below ?_ hbS5 ?_); (rotate_left); (first | omega | (simp <;> omega))) | ((with_reducible refine SB.below ?_ hbS6 ?_); (rotate_left); (first | omega | (simp <;> omega))) | ((with_reducible refine SB.below ?_ hbS7 ?_); (rotate_left); (first | omega | (simp <;> omega))) | (with_reducible refine SB.undrew ?_) | ((with_reducible refine SB.congr ?_ ?_); (rotate_left); (focus (simp; done))) | ((with_reducible refine SB.realloc ?_ ?_ ?_); (rotate_left); (focus (simp; done)); (focus (simp; done)))))
   clear hK K
   (try simp only [Act.put, putS])
   refine wpAnyH_ready (rs := [7]) (by kernel_rfl) (by simp) ?_
   refine ord_run (i := 7) (preB 8 3) rfl (by kernel_rfl) (by rfl) (fun K hK => ?_) AllReadyH.nil
   go_simp
   refine hK.out _ _ ?_ (fun hHeld => ?_)
   ·(repeat (first | (with_reducible exact SB.refl) | (with_reducible exact hHeld) | (with_reducible assumption) | (with_reducible refine SB.drew ?_) | (with_reducible refine SB.drewN ?_ _) | ((with_reducible refine SB.alloc ?_ ?_ _); (rotate_left); (first | omega | (simp <;> omega))) | ((with_reducible refine SB.setCell ?_ ?_ _); (rotate_left); (focus (first | (simp; done) | (right; first | omega | (simp <;> omega))))) | ((with_reducible refine SB.below ?_ hbS ?_); (rotate_left); (first | omega | (simp <;> omega))) | ((with_reducible refine SB.below ?_ hbS1 ?_); (rotate_left); (first | omega | (simp <;> omega))) | ((with_reducible refine SB.below ?_ hbS2 ?_); (rotate_left); (first | omega | (simp <;> omega))) | ((with_reducible refine SB.below ?_ hbS3 ?_); (rotate_left); (first | omega | (simp <;> omega))) | ((with_reducible refine SB.below ?_ hbS4 ?_); (rotate_left); (first | omega | (simp <;> omega))) | ((with_reducible refine SB.below ?_ hbS5 ?_); (rotate_left); (first | omega | (simp <;> omega))) | ((with_reducible refine SB.below ?_ hbS6 ?_); (rotate_left); (first | omega | (simp <;> omega))) | ((with_reducible refine SB.below ?_ hbS7 ?_); (rotate_left); (first | omega | (simp <;> omega))) | (with_reducible refine SB.undrew ?_) | ((with_reducible refine SB.congr ?_ ?_); (rotate_left); (focus (simp; done))) | ((with_reducible refine SB.realloc ?_ ?_ ?_); (rotate_left); (focus (simp; done)); (focus (simp; done)))))
   clear hK K
   (try simp only [Act.put, putS])
   refine wpAnyH_ready (rs := [8]) (by kernel_rfl) (by simp) ?_
   refine ord_run (i := 8) (preB 9 2) rfl (by kernel_rfl) (by rfl) (fun K hK => ?_) AllReadyH.nil
   (refine wp_append_own2 (.tmp 52) (.tmp 59) 173 rfl wr.heap.size 9 i0' (.string ⟨#[]⟩) 1 16 Tryz.underlying173 hi0 hz00 hz1 hz2 rfl (by decide) _ _ _ rfl (OP.out.alloc _) ⟨g1.heap.size, 0, none⟩ 3 3 (strs [key, tx, tp]) rfl rfl (news_new (cs := ⟨strs [key, tx, tp]⟩) rfl) (strs_ones _) (by simp only [maxLen]; omega) (by omega) (by simp; omega) ?_; intro A4 c4 w4 ho4 hg4; have hs4 := hg4.size; (try simp at hs4); have HO4 := hide (show w4.ownsRow wr.heap.size 9 1 (.slice A4 9 c4) 9 (strs [s0, s1, s2, s3, s4, s5, key, tx, tp]) from ho4); have B4 := hide (show Below wr.heap.size wr w4 from BP.out.trans (Below.trans (by (repeat (first | (with_reducible first | exact Below.refl _ _ | assumption | refine Below.drew ?_) | ((with_reducible first | refine Below.alloc ?_ ?_ _ | refine Below.setCell ?_ ?_ _); rotate_left; (first | omega | (simp <;> omega))))) : Below wr.heap.size g1 _) (below_grown (B := wr.heap.size) hg4 (by simp; omega) (own_ge O6.out)))); refine hK.out _ _ ?_ (fun hHeld => ?_); (rotate_left); (clear ho4); (rotate_left); (exact SB.grownX hHeld hg4 (by simp; omega) (fun k hk => .inr (own_ge O6.out k hk))); (clear hK K hg4))
   (try simp only [Act.put, putS])
   refine wpAnyH_ready (rs := [9]) (by kernel_rfl) (by simp) ?_
   refine ord_run (i := 9) (preB 10 1) rfl (by kernel_rfl) (by rfl) (fun K hK => ?_) AllReadyH.nil
   go_simp
   go_wp2_with (go_at_call 192; refine (wpk_any A4 9 c4 2664 (by decide) (by decide) _ ((own_trow HO4.out (fun s hs => by simp at hs; rcases hs with rfl | rfl | rfl | rfl | rfl | rfl | rfl | rfl | rfl <;> (have := HKT.out; omega))).2) (HTW.out.below B4.out)).mono ?_; rintro r g2 ⟨tq, htq, rfl, hb⟩; have hbS1 := hb; have BF := hide (B4.out.trans (hb.mono (by have := B4.out.size; omega))))
   refine hK.out _ _ ?_ (fun hHeld => ?_)
   ·(repeat (first | (with_reducible exact SB.refl) | (with_reducible exact hHeld) | (with_reducible assumption) | (with_reducible refine SB.drew ?_) | (with_reducible refine SB.drewN ?_ _) | ((with_reducible refine SB.alloc ?_ ?_ _); (rotate_left); (first | omega | (simp <;> omega))) | ((with_reducible refine SB.setCell ?_ ?_ _); (rotate_left); (focus (first | (simp; done) | (right; first | omega | (simp <;> omega))))) | ((with_reducible refine SB.below ?_ hbS ?_); (rotate_left); (first | omega | (simp <;> omega))) | ((with_reducible refine SB.below ?_ hbS1 ?_); (rotate_left); (first | omega | (simp <;> omega))) | ((with_reducible refine SB.below ?_ hbS2 ?_); (rotate_left); (first | omega | (simp <;> omega))) | ((with_reducible refine SB.below ?_ hbS3 ?_); (rotate_left); (first | omega | (simp <;> omega))) | ((with_reducible refine SB.below ?_ hbS4 ?_); (rotate_left); (first | omega | (simp <;> omega))) | ((with_reducible refine SB.below ?_ hbS5 ?_); (rotate_left); (first | omega | (simp <;> omega))) | ((with_reducible refine SB.below ?_ hbS6 ?_); (rotate_left); (first | omega | (simp <;> omega))) | ((with_reducible refine SB.below ?_ hbS7 ?_); (rotate_left); (first | omega | (simp <;> omega))) | (with_reducible refine SB.undrew ?_) | ((with_reducible refine SB.congr ?_ ?_); (rotate_left); (focus (simp; done))) | ((with_reducible refine SB.realloc ?_ ?_ ?_); (rotate_left); (focus (simp; done)); (focus (simp; done)))))
   clear hK K
   (try simp only [Act.put, putS])
   refine oS (i := 10) (preB 11 0) rfl hHeld ?_
   (try simp only [Act.put, putS])
   refine wpAnyH_done (by kernel_rfl) ?_ _
   go_wp2_with fail
   go_ret
   exact ⟨_, by omega, rfl, QL.out.trans (BF.out.mono QL.out.size)⟩
end Go.Proofs.YtpghciiifnjimaaGreatDoor
