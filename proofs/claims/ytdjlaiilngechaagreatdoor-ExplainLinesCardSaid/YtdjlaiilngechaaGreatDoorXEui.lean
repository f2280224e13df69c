/- Texts laid together: Eui. -/
import Derived.Test.YtdjlaiilngechaaGreatDoorXEuh
import Derived.Test.YtdjlaiilngechaaGreatDoorXEys
import Derived.Test.YtdjlaiilngechaaGreatDoorXK0
namespace Go.Proofs.YtdjlaiilngechaaGreatDoor
set_option maxRecDepth 4000
set_option linter.unusedSimpArgs false
set_option linter.unusedVariables false
open Go.RowKit
theorem same_atZ {l m : List LnR} (h : l.map (·.1) = m.map (·.1)) : decide (sameX l.length m.length (atX l) (atX m)) = true := by
 have hl : l.length = m.length := by have := congrArg List.length h; simpa using this
 refine decide_eq_true ⟨hl, fun k hk => eqLn_eq.2 ?_⟩
 rw [atX_at hk, atX_at (by omega)]
 have h1 := congrArg (fun z => z[k]?) h
 simp only [List.getElem?_map] at h1
 rw [List.getElem?_eq_getElem hk, List.getElem?_eq_getElem (by omega)] at h1
 simpa using h1
theorem lnsL_bd {B : LBk} {id f t : Int} {l : List LnR} (hn : serE B id f t = 0 → t - f ≤ 199) (hl : l.map (·.1) = lnsL B id f t) : l.length ≤ 200 ∧ ∀ k, k < l.length → (atX l k).1.sl.length ≤ 1000000 := by
 have hlen : l.length = (lnsL B id f t).length := by rw [← hl, List.length_map]
 by_cases h : serE B id f t = 0
 ·have e : lnsL B id f t = lnL (fun k => oneP B (acrN B id f k)) (t - f + 1).toNat := if_pos h
  have h1 := lnL_len (fun k => oneP B (acrN B id f k)) (t - f + 1).toNat
  have h2 := hn h
  rw [e] at hlen hl
  refine ⟨by omega, fun k hk => ?_⟩
  rw [atX_at hk]
  refine lnL_sl (f := fun k => oneP B (acrN B id f k)) (n := (t - f + 1).toNat) (P := fun s => s.length ≤ 1000000) (fun i _ => ?_) l[k].1 ?_
  ·have := (oneS_good (B := B) (id := (acrN B id f i).ac) (day := (acrN B id f i).dy) (acrN_fine B id f i).2).1
   show (oneS B _ _ _).length ≤ _
   omega
  ·rw [← hl]; exact List.mem_map.2 ⟨_, List.getElem_mem hk, rfl⟩
 ·have e : lnsL B id f t = [] := if_neg h
  rw [e] at hlen
  have h0 : l.length = 0 := hlen
  exact ⟨by omega, fun k hk => by omega⟩
theorem ser_span {B : LBk} {id f t d : Int} (hd : IntKind.i64.wrap (t - f) = d) (h : ¬ (0 ≤ f ∧ t ≤ 73048 ∧ 120 < d ∧ d < 4000)) (h0 : serE B id f t = 0) : t - f ≤ 199 := by
 have hf := ser_fine h0
 rw [vday_iff, vday_iff] at hf
 have h3 : ¬ 4000 ≤ t - f := by
  intro h4
  obtain ⟨a1, a2, a3⟩ := ser_fine h0
  unfold serE at h0
  rw [if_neg (by rw [a1]; decide), if_neg (by rw [a2]; decide), if_neg (by rw [a3]; decide)] at h0
  split at h0 <;> cases h0
 have hw : IntKind.i64.wrap (t - f) = t - f := by rw [IntKind.wrap_i64]; omega
 omega
set_option maxRecDepth 8000 in
set_option maxHeartbeats 16000000 in
theorem walk_lines (C : Array Value) (ck : Nat → Tr) (id f t : Int) (w : World) (kn : KnOK 15 ck) (hX : ElT (Old w) w 15 ck C) (ht : Tab w) :
  Calls Tryz.prog 3 #[.agg C, .agg #[.int .i64 id, .int .i64 f, .int .i64 t]] w fun e w' => e = .returned (.bool true) ∧ Below w.heap.size w w' := by
 have HT := hide ht
 have HX := hide hX
 have HK := hide kn
 have HS := hide (show (Tryz.prog.info? 33).map (·.size) = some C.size by rw [show C.size = 22 from hX.size]; kernel_rfl)
 clear ht hX kn
 go_enter Tryz.func3, Tryz.ntmps3
 go_wp2_with (with_reducible refine wpList_load_row rfl 33 (.tmp 2) rfl w.heap.size rfl 33 C (0, 0) _ (blk_under (blk_new rfl)) Tryz.underlying33 rfl HS.out ?_)
 refine (bgr_any HK.out _ C (HX.out.below belT)).mono ?_
 rintro e w1 ⟨b0, rfl, hsm, hb⟩
 have X1 := hide (blk_below hb (by simp; omega) (blk_under (blk_new (k := w.heap.size) rfl)))
 have HSM0 := hide hsm
 clear hsm
 have q1B : Below w.heap.size w w1 := qB hb
 have q1z := hb.size
 try simp at q1z
 have q1t : w.heap.size ≤ w1.heap.size := (by omega)
 obtain ⟨q1s0, q1n0_0, q1n0_1, q1n0_2⟩ := kB w1.heap.size (w.heap.size + 1)
 obtain ⟨q1c0_0, q1c0_1, q1c0_2, q1f0⟩ := kC3 hb (w.heap.size + 1)
 simp [go_sem, *] at q1c0_0 q1c0_1 q1c0_2 q1f0
 have q1o := belO q1B
 clear hb
 have Q1 := hide q1B
 cases b0 with
 | true =>
  go_wp2_with fail
  go_ret
  exact ⟨rfl, Q1.out⟩
 | false =>
  obtain ⟨B, rfl, hB, hW⟩ := bk_of HK.out (HSM0.out (by first | rfl | trivial)) HX.out
  have HB := hide hB
  have HW := hide hW
  have hws : w.heap.size < w1.heap.size := by omega
  clear hB hW
  obtain ⟨E, hE⟩ : ∃ E, E = serE B id f t := ⟨_, rfl⟩
  have HEE := hide hE
  clear hE
  obtain ⟨d, hd⟩ : ∃ d, IntKind.i64.wrap (t - f) = d := ⟨_, rfl⟩
  by_cases c1 : 0 ≤ f
  ·by_cases c2 : t ≤ 73048
   ·by_cases c3 : 120 < d
    ·by_cases c4 : d < 4000
     ·go_wp2_with fail
      go_ret
      exact ⟨rfl, Q1.out⟩
     ·have HN := hide (fun h => ser_span (B := B) (id := id) hd (by omega) h)
      have c4' := Int.not_lt.1 c4
      clear c4
      go_wp2_with (with_reducible refine wpList_load_row rfl 33 (.tmp 2) rfl w.heap.size rfl 33 B.C (0, 0) _ X1.out Tryz.underlying33 rfl HS.out ?_)
      refine (lines_any B HB.out id f t HN.out _ (HW.out.below Q1.out)).mono ?_
      rintro e w2 ⟨A, c, l, rfl, hrl, hl, hb⟩
      rw [← HEE.out]
      have X2 := hide (blk_below hb (by omega) X1.out)
      have HRL := hide hrl
      have HL := hide hl
      have HBD := hide (lnsL_bd HN.out hl)
      have q2B : Below w1.heap.size w1 w2 := qB hb
      have q2z := hb.size
      try simp at q2z
      have q2t : w1.heap.size ≤ w2.heap.size := (by omega)
      obtain ⟨q2s0, q2n0_0, q2n0_1, q2n0_2⟩ := kB w2.heap.size (w.heap.size + 1)
      obtain ⟨q2c0_0, q2c0_1, q2c0_2, q2f0⟩ := kC3 hb (w.heap.size + 1)
      simp [go_sem, *] at q2c0_0 q2c0_1 q2c0_2 q2f0
      have q2o := belO q2B
      clear hb
      have B2 := hide (show Below w1.heap.size w1 w2 from q2B)
      have Q2 := hide (Q1.out.trans (B2.out.mono Q1.out.size))
      clear hrl hl
      go_wp2_with (with_reducible refine wpList_load_row rfl 33 (.tmp 2) rfl w.heap.size rfl 33 B.C (0, 0) _ X2.out Tryz.underlying33 rfl HS.out ?_)
      refine (rlines_any B HB.out id f t HN.out _ (HW.out.below Q2.out)).mono ?_
      rintro e w3 ⟨A2, c2, l2, rfl, hrl, hl, hb⟩
      rw [← HEE.out]
      have HRL2 := hide hrl
      have HSM := hide (same_atZ (HL.out.trans hl.symm))
      have B3 := hide hb
      have Q3 := hide (Q2.out.trans (hb.mono Q2.out.size))
      clear hrl hl hb
      go_wp2_with fail
      refine (rsameX_any A A2 l.length l2.length c c2 (atX l) (atX l2) (by have := HBD.out.1; omega) (fun k hk => by have := HBD.out.2 k hk; omega) _ (HRL.out.below B3.out) HRL2.out).mono ?_
      rintro e w4 ⟨rfl, hb⟩
      rw [HSM.out]
      have Q4 := hide (Q3.out.trans (hb.mono Q3.out.size))
      clear hb
      go_wp2_with fail
      refine (live_any _ (HT.out.below Q4.out)).mono ?_
      rintro e w7 ⟨rfl, hb⟩
      go_wp2_with fail
      go_ret
      exact ⟨rfl, Q4.out.trans (hb.mono Q4.out.size)⟩
    ·have HN := hide (fun h => ser_span (B := B) (id := id) hd (by omega) h)
     have c3' := Int.not_lt.1 c3
     clear c3
     go_wp2_with (with_reducible refine wpList_load_row rfl 33 (.tmp 2) rfl w.heap.size rfl 33 B.C (0, 0) _ X1.out Tryz.underlying33 rfl HS.out ?_)
     refine (lines_any B HB.out id f t HN.out _ (HW.out.below Q1.out)).mono ?_
     rintro e w2 ⟨A, c, l, rfl, hrl, hl, hb⟩
     rw [← HEE.out]
     have X2 := hide (blk_below hb (by omega) X1.out)
     have HRL := hide hrl
     have HL := hide hl
     have HBD := hide (lnsL_bd HN.out hl)
     have q2B : Below w1.heap.size w1 w2 := qB hb
     have q2z := hb.size
     try simp at q2z
     have q2t : w1.heap.size ≤ w2.heap.size := (by omega)
     obtain ⟨q2s0, q2n0_0, q2n0_1, q2n0_2⟩ := kB w2.heap.size (w.heap.size + 1)
     obtain ⟨q2c0_0, q2c0_1, q2c0_2, q2f0⟩ := kC3 hb (w.heap.size + 1)
     simp [go_sem, *] at q2c0_0 q2c0_1 q2c0_2 q2f0
     have q2o := belO q2B
     clear hb
     have B2 := hide (show Below w1.heap.size w1 w2 from q2B)
     have Q2 := hide (Q1.out.trans (B2.out.mono Q1.out.size))
     clear hrl hl
     go_wp2_with (with_reducible refine wpList_load_row rfl 33 (.tmp 2) rfl w.heap.size rfl 33 B.C (0, 0) _ X2.out Tryz.underlying33 rfl HS.out ?_)
     refine (rlines_any B HB.out id f t HN.out _ (HW.out.below Q2.out)).mono ?_
     rintro e w3 ⟨A2, c2, l2, rfl, hrl, hl, hb⟩
     rw [← HEE.out]
     have HRL2 := hide hrl
     have HSM := hide (same_atZ (HL.out.trans hl.symm))
     have B3 := hide hb
     have Q3 := hide (Q2.out.trans (hb.mono Q2.out.size))
     clear hrl hl hb
     go_wp2_with fail
     refine (rsameX_any A A2 l.length l2.length c c2 (atX l) (atX l2) (by have := HBD.out.1; omega) (fun k hk => by have := HBD.out.2 k hk; omega) _ (HRL.out.below B3.out) HRL2.out).mono ?_
     rintro e w4 ⟨rfl, hb⟩
     rw [HSM.out]
     have Q4 := hide (Q3.out.trans (hb.mono Q3.out.size))
     clear hb
     go_wp2_with fail
     refine (live_any _ (HT.out.below Q4.out)).mono ?_
     rintro e w7 ⟨rfl, hb⟩
     go_wp2_with fail
     go_ret
     exact ⟨rfl, Q4.out.trans (hb.mono Q4.out.size)⟩
   ·have HN := hide (fun h => ser_span (B := B) (id := id) hd (by omega) h)
    have c2' := Int.not_le.1 c2
    clear c2
    go_wp2_with (with_reducible refine wpList_load_row rfl 33 (.tmp 2) rfl w.heap.size rfl 33 B.C (0, 0) _ X1.out Tryz.underlying33 rfl HS.out ?_)
    refine (lines_any B HB.out id f t HN.out _ (HW.out.below Q1.out)).mono ?_
    rintro e w2 ⟨A, c, l, rfl, hrl, hl, hb⟩
    rw [← HEE.out]
    have X2 := hide (blk_below hb (by omega) X1.out)
    have HRL := hide hrl
    have HL := hide hl
    have HBD := hide (lnsL_bd HN.out hl)
    have q2B : Below w1.heap.size w1 w2 := qB hb
    have q2z := hb.size
    try simp at q2z
    have q2t : w1.heap.size ≤ w2.heap.size := (by omega)
    obtain ⟨q2s0, q2n0_0, q2n0_1, q2n0_2⟩ := kB w2.heap.size (w.heap.size + 1)
    obtain ⟨q2c0_0, q2c0_1, q2c0_2, q2f0⟩ := kC3 hb (w.heap.size + 1)
    simp [go_sem, *] at q2c0_0 q2c0_1 q2c0_2 q2f0
    have q2o := belO q2B
    clear hb
    have B2 := hide (show Below w1.heap.size w1 w2 from q2B)
    have Q2 := hide (Q1.out.trans (B2.out.mono Q1.out.size))
    clear hrl hl
    go_wp2_with (with_reducible refine wpList_load_row rfl 33 (.tmp 2) rfl w.heap.size rfl 33 B.C (0, 0) _ X2.out Tryz.underlying33 rfl HS.out ?_)
    refine (rlines_any B HB.out id f t HN.out _ (HW.out.below Q2.out)).mono ?_
    rintro e w3 ⟨A2, c2, l2, rfl, hrl, hl, hb⟩
    rw [← HEE.out]
    have HRL2 := hide hrl
    have HSM := hide (same_atZ (HL.out.trans hl.symm))
    have B3 := hide hb
    have Q3 := hide (Q2.out.trans (hb.mono Q2.out.size))
    clear hrl hl hb
    go_wp2_with fail
    refine (rsameX_any A A2 l.length l2.length c c2 (atX l) (atX l2) (by have := HBD.out.1; omega) (fun k hk => by have := HBD.out.2 k hk; omega) _ (HRL.out.below B3.out) HRL2.out).mono ?_
    rintro e w4 ⟨rfl, hb⟩
    rw [HSM.out]
    have Q4 := hide (Q3.out.trans (hb.mono Q3.out.size))
    clear hb
    go_wp2_with fail
    refine (live_any _ (HT.out.below Q4.out)).mono ?_
    rintro e w7 ⟨rfl, hb⟩
    go_wp2_with fail
    go_ret
    exact ⟨rfl, Q4.out.trans (hb.mono Q4.out.size)⟩
  ·have HN := hide (fun h => ser_span (B := B) (id := id) hd (by omega) h)
   have c1' := Int.not_le.1 c1
   clear c1
   go_wp2_with (with_reducible refine wpList_load_row rfl 33 (.tmp 2) rfl w.heap.size rfl 33 B.C (0, 0) _ X1.out Tryz.underlying33 rfl HS.out ?_)
   refine (lines_any B HB.out id f t HN.out _ (HW.out.below Q1.out)).mono ?_
   rintro e w2 ⟨A, c, l, rfl, hrl, hl, hb⟩
   rw [← HEE.out]
   have X2 := hide (blk_below hb (by omega) X1.out)
   have HRL := hide hrl
   have HL := hide hl
   have HBD := hide (lnsL_bd HN.out hl)
   have q2B : Below w1.heap.size w1 w2 := qB hb
   have q2z := hb.size
   try simp at q2z
   have q2t : w1.heap.size ≤ w2.heap.size := (by omega)
   obtain ⟨q2s0, q2n0_0, q2n0_1, q2n0_2⟩ := kB w2.heap.size (w.heap.size + 1)
   obtain ⟨q2c0_0, q2c0_1, q2c0_2, q2f0⟩ := kC3 hb (w.heap.size + 1)
   simp [go_sem, *] at q2c0_0 q2c0_1 q2c0_2 q2f0
   have q2o := belO q2B
   clear hb
   have B2 := hide (show Below w1.heap.size w1 w2 from q2B)
   have Q2 := hide (Q1.out.trans (B2.out.mono Q1.out.size))
   clear hrl hl
   go_wp2_with (with_reducible refine wpList_load_row rfl 33 (.tmp 2) rfl w.heap.size rfl 33 B.C (0, 0) _ X2.out Tryz.underlying33 rfl HS.out ?_)
   refine (rlines_any B HB.out id f t HN.out _ (HW.out.below Q2.out)).mono ?_
   rintro e w3 ⟨A2, c2, l2, rfl, hrl, hl, hb⟩
   rw [← HEE.out]
   have HRL2 := hide hrl
   have HSM := hide (same_atZ (HL.out.trans hl.symm))
   have B3 := hide hb
   have Q3 := hide (Q2.out.trans (hb.mono Q2.out.size))
   clear hrl hl hb
   go_wp2_with fail
   refine (rsameX_any A A2 l.length l2.length c c2 (atX l) (atX l2) (by have := HBD.out.1; omega) (fun k hk => by have := HBD.out.2 k hk; omega) _ (HRL.out.below B3.out) HRL2.out).mono ?_
   rintro e w4 ⟨rfl, hb⟩
   rw [HSM.out]
   have Q4 := hide (Q3.out.trans (hb.mono Q3.out.size))
   clear hb
   go_wp2_with fail
   refine (live_any _ (HT.out.below Q4.out)).mono ?_
   rintro e w7 ⟨rfl, hb⟩
   go_wp2_with fail
   go_ret
   exact ⟨rfl, Q4.out.trans (hb.mono Q4.out.size)⟩
end Go.Proofs.YtdjlaiilngechaaGreatDoor
