/- Texts laid together: Ezi. -/
import Derived.Test.YtdjlaiilngechaaGreatDoorVEzh
import Derived.Deep.DeepCutAuto
import Derived.Deep.QuietTactic
import Derived.BigQuiet
import Derived.Test.YtdjlaiilngechaaGreatDoorVK0
namespace Go.Proofs.YtdjlaiilngechaaGreatDoor
set_option maxRecDepth 4000
set_option linter.unusedSimpArgs false
set_option linter.unusedVariables false
open Go.RowKit
def CvI (f : Int) (l : List LnR) (w2 : World) (fuel : Nat) (v7 v8 : Value) (wr : World) : Prop :=
  ∃ k : Nat, k ≤ l.length ∧ fuel = l.length - k ∧ v8 = .int .i64 k ∧ v7 = .int .i64 (nxt f l k) ∧ Below w2.heap.size w2 wr
/-- Behind the day's accrual: its box. -/
def CvX (bl : Int) (wr : World) (v9 v10 : Value) (wx : World) : Prop :=
  ∃ p, v9 = .pointer (some ⟨p, 0, none⟩) ∧ v10 = .int .i64 0 ∧ Below wr.heap.size wr wx ∧ wr.heap.size ≤ p ∧ p < wx.heap.size ∧ wx.cell? ⟨p, 2, none⟩ = some (.int .i64 bl)
def CvN (wr : World) (v : Value) (wx : World) : Prop := v = .bool false ∧ Below wr.heap.size wr wx
theorem row_none {w : World} {x : Nat → LnR} : RowLn w none 0 x := ⟨fun h => absurd h (Nat.lt_irrefl _), fun k hk => absurd hk (Nat.not_lt_zero _)⟩
theorem diff_self (A : Option Addr) (l : List LnR) (c : Nat) (hn : l.length ≤ 200) (hs : ∀ k, k < l.length → (atX l k).1.sl.length ≤ 1000000) (w : World) (hr : RowLn w A l.length (atX l)) :
    Calls Tryz.prog 18 #[.slice A l.length c, .slice A l.length c] w fun e w' => (∃ A' c', e = .returned (.slice A' 0 c')) ∧ Below w.heap.size w w' := by
  refine (diff_any A A l.length l.length c c (atX l) (atX l) (by omega) (by omega) hs w hr hr).mono ?_
  rw [df_self l.length (Nat.le_refl _)]
  rintro e w' ⟨A5, c5, l5, rfl, hr5, hl5, hb⟩
  obtain rfl : l5 = [] := by cases l5 with | nil => rfl | cons x l => cases hl5
  exact ⟨⟨A5, c5, rfl⟩, hb⟩
theorem diff_none (A : Option Addr) (l : List LnR) (c : Nat) (hn : l.length ≤ 200) (hs : ∀ k, k < l.length → (atX l k).1.sl.length ≤ 1000000) (w : World) (hr : RowLn w A l.length (atX l)) :
    Calls Tryz.prog 18 #[.slice none 0 0, .slice A l.length c] w fun e w' => ∃ A' c' l', e = .returned (.slice A' l'.length c') ∧ RowLn w' A' l'.length (atX l') ∧ l'.map (·.1) = l.map (·.1) ∧ Below w.heap.size w w' := by
  refine (diff_any A none 0 l.length c 0 (atX l) (atX []) (by omega) (by omega) hs w hr row_none).mono ?_
  rw [df_nil, map_atX]
  exact fun _ _ h => h
theorem same_lines (A B : Option Addr) (l m : List LnR) (c d : Nat) (hm : m.map (·.1) = l.map (·.1)) (hn : l.length ≤ 200) (hs : ∀ k, k < l.length → (atX l k).1.sl.length ≤ 1000000) (w : World) (ha : RowLn w A m.length (atX m)) (hb : RowLn w B l.length (atX l)) :
    Calls Tryz.prog 10 #[.slice A m.length c, .slice B l.length d] w fun e w' => e = .returned (.bool true) ∧ Below w.heap.size w w' := by
  have hlen : m.length = l.length := by have := congrArg List.length hm; simpa using this
  refine (rsameX_any A B m.length l.length c d (atX m) (atX l) (by omega) (fun j hj => ?_) w ha hb).mono ?_
  · have h1 := atX_map hj
    have h2 := atX_map (l := l) (k := j) (by omega)
    unfold linOf at h1 h2
    rw [h1, hm, ← h2]
    have := hs j (by omega)
    omega
  · rw [same_atX hm]
    exact fun _ _ h => h
theorem day_line (B : LBk) (hB : BkOK B) (id t b : Int) (he : dayE B id t = 0) (hb0 : (dayV B id t).bl = b) (w : World) (hw : BkIn w B) :
    Calls Tryz.prog 21 #[.agg B.C, .int .i64 id, .int .i64 t] w fun e w' => (∃ a d h1 l1 h2 l2, e = .returned (.tuple #[.agg #[.int .i64 a, .int .i64 d, .int .i64 b, .int .i64 h1, .int .u64 l1, .int .i64 h2, .int .u64 l2], .int .i64 0])) ∧ Below w.heap.size w w' := by
  refine (day_any B hB id t w hw).mono ?_
  rintro e w' ⟨rfl, hb⟩
  rw [he]
  exact ⟨⟨_, _, _, _, _, _, by rw [← hb0]⟩, hb⟩
set_option maxRecDepth 8000 in
set_option maxHeartbeats 40000000 in
theorem walk_covers (C : Array Value) (ck : Nat → Tr) (id f t : Int) (w : World) (kn : KnOK 15 ck) (hX : ElT (Old w) w 15 ck C) (ht : Tab w) :
    Calls Tryz.prog 5 #[.agg C, .agg #[.int .i64 id, .int .i64 f, .int .i64 t]] w fun e w' => e = .returned (.bool true) ∧ Below w.heap.size w w' := by
  have HT := hide ht
  have HX := hide hX
  have HK := hide kn
  have HS := hide (show (Tryz.prog.info? 33).map (·.size) = some C.size by rw [show C.size = 22 from hX.size]; kernel_rfl)
  clear ht hX kn
  go_enter Tryz.func5, Tryz.ntmps5
  go_wp2_with (with_reducible refine wpList_load_row rfl 33 (.tmp 2) rfl w.heap.size rfl 33 C (0, 0) _ (blk_under (blk_new rfl)) Tryz.underlying33 rfl HS.out ?_)
  refine (bgr_any HK.out _ C (HX.out.below belT)).mono ?_
  rintro e w1 ⟨b0, rfl, hsm, hb⟩
  have X1 := hide (blk_below hb (by simp; omega) (blk_under (blk_new (k := w.heap.size) rfl)))
  have HSM := hide hsm
  clear hsm
  have q1B : Below w.heap.size w w1 := qB hb
  have q1z := hb.size
  try simp at q1z
  have q1t : w.heap.size ≤ w1.heap.size := (by omega)
  have q1s0 : w.heap.size + 1 < w1.heap.size := (by omega)
  have q1n0_0 : ¬ w1.heap.size = w.heap.size + 1 := (by omega)
  have q1n0_1 : ¬ w1.heap.size + 1 = w.heap.size + 1 := (by omega)
  have q1n0_2 : ¬ w1.heap.size + 2 = w.heap.size + 1 := (by omega)
  have q1c0_0 := cel hb (w.heap.size + 1) 0
  simp [go_sem, *] at q1c0_0
  have q1c0_1 := cel hb (w.heap.size + 1) 1
  simp [go_sem, *] at q1c0_1
  have q1c0_2 := cel hb (w.heap.size + 1) 2
  simp [go_sem, *] at q1c0_2
  have q1f0 := fun o => fro hb (w.heap.size + 1) o
  simp [go_sem, *] at q1f0
  have q1o := belO q1B
  clear hb
  have Q1 := hide q1B
  cases b0 with
  | true =>
    go_wp2_with fail
    go_ret
    exact ⟨rfl, Q1.out⟩
  | false =>
    obtain ⟨B, rfl, hB, hW⟩ := bk_of HK.out (HSM.out (by first | rfl | trivial)) HX.out
    have HB := hide hB
    have HW := hide hW
    clear hB hW
    by_cases c1 : f < 0
    · go_wp2_with fail
      go_ret
      exact ⟨rfl, Q1.out⟩
    by_cases c2 : t < f
    · go_wp2_with fail
      go_ret
      exact ⟨rfl, Q1.out⟩
    by_cases c3 : 73048 < t
    · go_wp2_with fail
      go_ret
      exact ⟨rfl, Q1.out⟩
    have c4 : -9223372036854775808 ≤ t - f ∧ t - f ≤ 9223372036854775807 := by omega
    by_cases c5 : 120 < t - f
    · go_wp2_with fail
      go_ret
      exact ⟨rfl, Q1.out⟩
    by_cases h0 : serE B id f t = 0
    · obtain ⟨n, hn⟩ : ∃ n : Nat, (n : Int) = t - f + 1 := ⟨(t - f + 1).toNat, by omega⟩
      have hn2 : n ≤ 200 := by omega
      have HL := hide (fun W h => by have z := lines_any B HB.out id f t (by omega) W h; unfold LinesRet lnsL at z; rw [h0, if_pos rfl, show (t - f + 1).toNat = n by omega] at z; exact z)
      have HF := hide (fun (l : List LnR) h => cov_fine (l := l) h0 (by omega) (by omega) (by omega) hn hn2 h)
      have HTB := hide (show t ≤ 73048 by omega)
      clear h0 hn hn2
      go_wp2_with (with_reducible refine wpList_load_row rfl 33 (.tmp 2) rfl w.heap.size rfl 33 B.C (0, 0) _ X1.out Tryz.underlying33 rfl HS.out ?_)
      refine (HL.out _ (HW.out.below Q1.out)).mono ?_
      rintro e w2 ⟨A, c, l, rfl, hrl, hl, hb⟩
      have hws : w.heap.size < w1.heap.size := by omega
      have X2 := hide (blk_below hb (by omega) X1.out)
      have B2 := hide hb
      have q2B : Below w1.heap.size w1 w2 := qB hb
      have q2z := hb.size
      try simp at q2z
      have q2t : w1.heap.size ≤ w2.heap.size := (by omega)
      have q2s0 : w.heap.size + 1 < w2.heap.size := (by omega)
      have q2n0_0 : ¬ w2.heap.size = w.heap.size + 1 := (by omega)
      have q2n0_1 : ¬ w2.heap.size + 1 = w.heap.size + 1 := (by omega)
      have q2n0_2 : ¬ w2.heap.size + 2 = w.heap.size + 1 := (by omega)
      have q2c0_0 := cel hb (w.heap.size + 1) 0
      simp [go_sem, *] at q2c0_0
      have q2c0_1 := cel hb (w.heap.size + 1) 1
      simp [go_sem, *] at q2c0_1
      have q2c0_2 := cel hb (w.heap.size + 1) 2
      simp [go_sem, *] at q2c0_2
      have q2f0 := fun o => fro hb (w.heap.size + 1) o
      simp [go_sem, *] at q2f0
      have q2o := belO q2B
      clear hb q1o q1f0 q1c0_2 q1c0_1 q1c0_0 q1s0 q1z q1B
      have Q2 := hide (Q1.out.trans (B2.out.mono Q1.out.size))
      have hwt : w.heap.size < w2.heap.size := by omega
      have HRL := hide hrl
      have HFL := hide (HF.out l hl)
      clear hrl hl
      go_upto_region 6 with fail
      go_cut [7] from 11 (fun v7 wx => v7 = .int .i64 f ∧ w2 = wx)
      case first =>
        go_wp2_with fail
        go_meet
        exact ⟨rfl, rfl⟩
      case rest =>
        obtain ⟨rfl, rfl⟩ := hcut
        go_wp2_with fail
        have hln : l.length ≤ 200 := HFL.out.len
        go_loopg [7, 8] l.length (fun fuel v7 v8 wr => CvI f l w2 fuel v7 v8 wr)
        case atStart => exact ⟨0, by omega, by omega, rfl, rfl, Below.refl _ _⟩
        case round =>
          obtain ⟨k, hk, hfu, rfl, rfl, hb⟩ := hrel
          have HFU := hide hfu
          have H0 := hide hb
          have X3 := hide (blk_below hb hwt X2.out)
          have q3B : Below w2.heap.size w2 wr := qB hb
          have q3z := hb.size
          try simp at q3z
          have q3t : w2.heap.size ≤ wr.heap.size := (by omega)
          have q3s0 : w.heap.size + 1 < wr.heap.size := (by omega)
          have q3n0_0 : ¬ wr.heap.size = w.heap.size + 1 := (by omega)
          have q3n0_1 : ¬ wr.heap.size + 1 = w.heap.size + 1 := (by omega)
          have q3n0_2 : ¬ wr.heap.size + 2 = w.heap.size + 1 := (by omega)
          have q3c0_0 := cel hb (w.heap.size + 1) 0
          simp [go_sem, *] at q3c0_0
          have q3c0_1 := cel hb (w.heap.size + 1) 1
          simp [go_sem, *] at q3c0_1
          have q3c0_2 := cel hb (w.heap.size + 1) 2
          simp [go_sem, *] at q3c0_2
          have q3f0 := fun o => fro hb (w.heap.size + 1) o
          simp [go_sem, *] at q3f0
          have q3o := belO q3B
          clear hb
          have QR := hide (Q2.out.trans (H0.out.mono Q2.out.size))
          have hwr : w.heap.size < wr.heap.size := by omega
          clear hfu
          by_cases hlt : k < l.length
          · have hm : (k : Int) < l.length := by omega
            have hk0 : (0 : Int) ≤ k := by omega
            have HLT := hide hlt
            obtain ⟨g1, g2, g3, g4, g5, g6, g7⟩ := HFL.out.each k hlt
            have G2 := hide g2
            have G45 := hide (And.intro g4 g5)
            have HRR := hide (HRL.out.below H0.out)
            obtain ⟨b, off, hA, hbl, d0, d1, d2, d3, d4, d5, d6⟩ := HRR.out.at hlt
            rw [g1] at d0
            subst hA
            have HBL := hide hbl
            have HD := hide (And.intro d1 d2)
            have hki : (k : Int) ≤ 200 := by omega
            go_upto_region 10 with fail
            go_cut [116] (fun v116 wx => CvN wr v116 wx)
            case first =>
              by_cases hz : (0 : Int) < k
              · obtain ⟨j, hj⟩ : ∃ j, k = j + 1 := ⟨k - 1, by omega⟩
                have hj1 : (k : Int) - 1 = (j : Int) := by omega
                have hj2 : (j : Int) < l.length := by omega
                have hj3 : (0 : Int) ≤ j := by omega
                have hj4 : IntKind.i64.wrap (j : Int) = j := by rw [IntKind.wrap_i64]; omega
                have hjl : j < l.length := by omega
                have HJ := hide hj
                clear hj
                obtain ⟨b', off', hA, hbl', f0, f1, f2, f3, f4, f5, f6⟩ := HRR.out.at hjl
                injection hA with hA
                injection hA with e1 e2 _
                subst e1 e2
                by_cases hbe : (atX l k).1.bl = (atX l j).1.bl
                · have HSS := hide (G2.out j HJ.out hbe)
                  rw [← hbe] at f2
                  clear g2 g4 g5 d3 d5 d6 f0 f1 f3 f5 f6
                  have hd : decide ((0 : Int) < k) = true := decide_eq_true hz
                  have hdn : decide (0 < k) = true := decide_eq_true (by omega)
                  have HC := hide (fun n => show Calls Tryz.prog 20 #[.slice (atX l k).2.1 (atX l k).1.sl.length (atX l k).2.2, .slice (atX l j).2.1 (atX l j).1.sl.length (atX l j).2.2] (wr.drewN n) fun e w' => e = .returned (.bool false) ∧ ∃ q, w' = (wr.drewN n).drewN q from by
                    have z := rsamelq_any (atX l k).2.1 (atX l j).2.1 (atX l k).1.sl (atX l j).1.sl (atX l k).2.2 (atX l j).2.2 (by have := HFL.out.sl k HLT.out; omega) (wr.drewN n) ((HRR.out.sl k HLT.out).below (below_drewN (Below.refl _ _) _)) ((HRR.out.sl j hjl).below (below_drewN (Below.refl _ _) _))
                    rw [HSS.out] at z
                    exact z)
                  go_quiet ((exact Calls.quiet_of (HC.out _)))
                  go_wp2_with fail
                  go_meet
                  exact ⟨rfl, by (repeat (first | (with_reducible first | exact Below.refl _ _ | assumption | refine Below.drew ?_ | refine below_drewN ?_ _) | ((with_reducible first | refine Below.alloc ?_ ?_ _ | refine Below.setCell ?_ ?_ _); rotate_left; (first | omega | (simp <;> omega)))))⟩
                · clear g2 g4 g5 d3 d5 d6 f0 f1 f3 f5 f6
                  have hd : decide ((0 : Int) < k) = true := decide_eq_true hz
                  have hdn : decide (0 < k) = true := decide_eq_true (by omega)
                  have hd2 : decide ((atX l k).1.bl = (atX l j).1.bl) = false := decide_eq_false hbe
                  have hd3 : ((atX l k).1.bl == (atX l j).1.bl) = false := by simpa using hbe
                  go_quiet (fail)
                  go_wp2_with fail
                  go_meet
                  exact ⟨rfl, by (repeat (first | (with_reducible first | exact Below.refl _ _ | assumption | refine Below.drew ?_ | refine below_drewN ?_ _) | ((with_reducible first | refine Below.alloc ?_ ?_ _ | refine Below.setCell ?_ ?_ _); rotate_left; (first | omega | (simp <;> omega)))))⟩
              · clear g2 g4 g5 d3 d5 d6
                have hd : decide ((0 : Int) < k) = false := decide_eq_false hz
                have hdn : decide (0 < k) = false := decide_eq_false (by omega)
                go_quiet (fail)
                go_wp2_with fail
                go_meet
                exact ⟨rfl, by (repeat (first | (with_reducible first | exact Below.refl _ _ | assumption | refine Below.drew ?_ | refine below_drewN ?_ _) | ((with_reducible first | refine Below.alloc ?_ ?_ _ | refine Below.setCell ?_ ?_ _); rotate_left; (first | omega | (simp <;> omega)))))⟩
            case rest =>
              rename World => wd
              obtain ⟨rfl, hB10⟩ := hcut
              have B10 := hide hB10
              have X4 := hide (blk_below hB10 hwr X3.out)
              have e1 := hB10.cell (p := ⟨b, off + k * 7 + 1, none⟩) HBL.out
              have e2 := hB10.cell (p := ⟨b, off + k * 7 + 2, none⟩) HBL.out
              rw [HD.out.1] at e1
              rw [HD.out.2] at e2
              have hbw : b < wd.heap.size := by have := hB10.size; have := HBL.out; omega
              have HBL2 := hide hbw
              have hb := hB10
              clear g2 g4 g5 d0 d1 d2 d3 d4 d5 d6 hbl
              have q4B : Below wr.heap.size wr wd := qB hb
              have q4z := hb.size
              try simp at q4z
              have q4t : wr.heap.size ≤ wd.heap.size := (by omega)
              have q4s0 : w.heap.size + 1 < wd.heap.size := (by omega)
              have q4n0_0 : ¬ wd.heap.size = w.heap.size + 1 := (by omega)
              have q4n0_1 : ¬ wd.heap.size + 1 = w.heap.size + 1 := (by omega)
              have q4n0_2 : ¬ wd.heap.size + 2 = w.heap.size + 1 := (by omega)
              have q4c0_0 := cel hb (w.heap.size + 1) 0
              simp [go_sem, *] at q4c0_0
              have q4c0_1 := cel hb (w.heap.size + 1) 1
              simp [go_sem, *] at q4c0_1
              have q4c0_2 := cel hb (w.heap.size + 1) 2
              simp [go_sem, *] at q4c0_2
              have q4f0 := fun o => fro hb (w.heap.size + 1) o
              simp [go_sem, *] at q4f0
              have q4o := belO q4B
              clear hb q3o q3f0 q3c0_2 q3c0_1 q3c0_0 q3s0 q3z q3B
              clear hB10
              have hwd : w.heap.size < wd.heap.size := by omega
              have Q4 := hide (QR.out.trans (B10.out.mono QR.out.size))
              have HDY := hide (day_line B HB.out id (atX l k).1.tt (atX l k).1.bl G45.out.1 G45.out.2)
              have HN := hide (show (atX l k).1.tt + 1 = nxt f l (k + 1) from rfl)
              have HTI := hide (show IntKind.i64.wrap ((atX l k).1.tt + 1) = (atX l k).1.tt + 1 by rw [IntKind.wrap_i64]; omega)
              go_upto_region 12 with fail
              go_cut [9, 10] (fun v9 v10 wx => CvX (atX l k).1.bl wd v9 v10 wx)
              case first =>
                refine ord_start (SB (wd.heap.size) [] _) 15 (preB 0 15) (by kernel_rfl) (by kernel_rfl) (by kernel_rfl) SB.refl.drew (fun hHeld => ?_)
                refine oT (i := 0) (preB 1 14) (.agg B.C) rfl hHeld (fun wx hSx => tk_row _ _ rfl w.heap.size 0 rfl B.C _ (rg_rowX hSx hwd (by simp) X4.out) Tryz.underlying33 rfl HS.out) ?_
                (try simp only [Act.put, putS])
                refine oT (i := 1) (preB 2 13) ?_ rfl hHeld (fun wx hSx => ?_) ?_
                rotate_left
                · (unfold SB at hSx; go_simp; (try with_reducible rfl))
                (try simp only [Act.put, putS])
                refine oT (i := 2) (preB 3 12) ?_ rfl hHeld (fun wx hSx => ?_) ?_
                rotate_left
                · (unfold SB at hSx; go_simp; (try with_reducible rfl))
                (try simp only [Act.put, putS])
                refine oT (i := 3) (preB 4 11) ?_ rfl hHeld (fun wx hSx => ?_) ?_
                rotate_left
                · (unfold SB at hSx; go_simp; (try with_reducible rfl))
                (try simp only [Act.put, putS])
                refine oT (i := 4) (preB 5 10) ?_ rfl hHeld (fun wx hSx => ?_) ?_
                rotate_left
                · (unfold SB at hSx; go_simp; (try with_reducible rfl))
                (try simp only [Act.put, putS])
                refine oT (i := 5) (preB 6 9) ?_ rfl hHeld (fun wx hSx => ?_) ?_
                rotate_left
                · (unfold SB at hSx; go_simp; (try with_reducible rfl))
                (try simp only [Act.put, putS])
                refine oT (i := 6) (preB 7 8) ?_ rfl hHeld (fun wx hSx => ?_) ?_
                rotate_left
                · (unfold SB at hSx; go_simp; (try with_reducible rfl))
                (try simp only [Act.put, putS])
                refine oT (i := 7) (preB 8 7) ?_ rfl hHeld (fun wx hSx => ?_) ?_
                rotate_left
                · (unfold SB at hSx; go_simp; (try with_reducible rfl))
                (try simp only [Act.put, putS])
                refine wpAnyH_ready (rs := [8, 12]) (by kernel_rfl) (by simp) ?_
                refine ord_run (i := 8) (preB 9 6) rfl (by kernel_rfl) (by rfl) (fun K hK => ?_) ?_
                · go_simp
                  go_wp2_with (go_at_call 21; refine (HDY.out _ (HW.out.below (Q4.out.trans belT))).mono ?_; rintro e w5 ⟨⟨a5, d5, g5, l5, g6, l6, rfl⟩, hb⟩; (first | (have q5B : Below wd.heap.size wd w5 := qB hb; have q5z := hb.size; (try simp at q5z); have q5t : wd.heap.size ≤ w5.heap.size := (by omega); have q5s0 : w.heap.size + 1 < w5.heap.size := (by omega); have q5n0_0 : ¬ w5.heap.size = w.heap.size + 1 := (by omega); have q5n0_1 : ¬ w5.heap.size + 1 = w.heap.size + 1 := (by omega); have q5n0_2 : ¬ w5.heap.size + 2 = w.heap.size + 1 := (by omega); have q5c0_0 := cel hb (w.heap.size + 1) 0; simp [go_sem, *] at q5c0_0; have q5c0_1 := cel hb (w.heap.size + 1) 1; simp [go_sem, *] at q5c0_1; have q5c0_2 := cel hb (w.heap.size + 1) 2; simp [go_sem, *] at q5c0_2; have q5f0 := fun o => fro hb (w.heap.size + 1) o; simp [go_sem, *] at q5f0; have q5s1 : wd.heap.size < w5.heap.size := (by omega); have q5n1_0 : ¬ w5.heap.size = wd.heap.size := (by omega); have q5n1_1 : ¬ w5.heap.size + 1 = wd.heap.size := (by omega); have q5n1_2 : ¬ w5.heap.size + 2 = wd.heap.size := (by omega); have q5c1_0 := cel hb wd.heap.size 0; simp [go_sem, *] at q5c1_0; have q5c1_1 := cel hb wd.heap.size 1; simp [go_sem, *] at q5c1_1; have q5c1_2 := cel hb wd.heap.size 2; simp [go_sem, *] at q5c1_2; have q5c1_3 := cel hb wd.heap.size 3; simp [go_sem, *] at q5c1_3; have q5c1_4 := cel hb wd.heap.size 4; simp [go_sem, *] at q5c1_4; have q5c1_5 := cel hb wd.heap.size 5; simp [go_sem, *] at q5c1_5; have q5c1_6 := cel hb wd.heap.size 6; simp [go_sem, *] at q5c1_6; have q5f1 := fun o => fro hb wd.heap.size o; simp [go_sem, *] at q5f1; have q5o := belO q5B; have hbS := hb; have hbS5 := hb; clear hb) | (have q5B : Below wd.heap.size wd w5 := qB hb; have q5z := hb.size; (try simp at q5z); have q5t : wd.heap.size ≤ w5.heap.size := (by omega); have q5s0 : w.heap.size + 1 < w5.heap.size := (by omega); have q5n0_0 : ¬ w5.heap.size = w.heap.size + 1 := (by omega); have q5n0_1 : ¬ w5.heap.size + 1 = w.heap.size + 1 := (by omega); have q5n0_2 : ¬ w5.heap.size + 2 = w.heap.size + 1 := (by omega); have q5c0_0 := cel hb (w.heap.size + 1) 0; simp [go_sem, *] at q5c0_0; have q5c0_1 := cel hb (w.heap.size + 1) 1; simp [go_sem, *] at q5c0_1; have q5c0_2 := cel hb (w.heap.size + 1) 2; simp [go_sem, *] at q5c0_2; have q5f0 := fun o => fro hb (w.heap.size + 1) o; simp [go_sem, *] at q5f0; have q5o := belO q5B; have hbS := hb; have hbS5 := hb; clear hb)))
                  refine hK.out _ _ ?_ (fun hHeld => ?_)
                  · (repeat (first | (with_reducible exact SB.refl) | (with_reducible exact hHeld) | (with_reducible refine SB.drew ?_) | (with_reducible refine SB.drewN ?_ _) | ((with_reducible refine SB.alloc ?_ ?_ _); (rotate_left); (first | omega | (simp <;> omega))) | ((with_reducible refine SB.setCell ?_ ?_ _); (rotate_left); (focus (first | (simp; done) | (right; first | omega | (simp <;> omega))))) | ((with_reducible refine SB.below ?_ hbS ?_); (rotate_left); (first | omega | (simp <;> omega))) | ((with_reducible refine SB.below ?_ hbS1 ?_); (rotate_left); (first | omega | (simp <;> omega))) | ((with_reducible refine SB.below ?_ hbS2 ?_); (rotate_left); (first | omega | (simp <;> omega))) | ((with_reducible refine SB.below ?_ hbS3 ?_); (rotate_left); (first | omega | (simp <;> omega))) | ((with_reducible refine SB.below ?_ hbS4 ?_); (rotate_left); (first | omega | (simp <;> omega))) | (with_reducible refine SB.undrew ?_) | ((with_reducible refine SB.congr ?_ ?_); (rotate_left); (focus (simp; done))) | ((with_reducible refine SB.realloc ?_ ?_ ?_); (rotate_left); (focus (simp; done)); (focus (simp; done)))))
                  clear hK K
                  (try simp only [Act.put, putS])
                  refine oT (i := 9) (preB 10 5) ?_ rfl hHeld (fun wx hSx => ?_) ?_
                  rotate_left
                  · (unfold SB at hSx; go_simp; (try with_reducible rfl))
                  (try simp only [Act.put, putS])
                  refine oT (i := 10) (preB 11 4) ?_ rfl hHeld (fun wx hSx => ?_) ?_
                  rotate_left
                  · (unfold SB at hSx; go_simp; (try with_reducible rfl))
                  (try simp only [Act.put, putS])
                  refine oT (i := 11) (preB 12 3) ?_ rfl hHeld (fun wx hSx => ?_) ?_
                  rotate_left
                  · (unfold SB at hSx; go_simp; (try with_reducible rfl))
                  (try simp only [Act.put, putS])
                  refine wpAnyH_ready (rs := [12]) (by kernel_rfl) (by simp) ?_
                  refine ord_run (i := 12) (preB 13 2) rfl (by kernel_rfl) (by rfl) (fun K hK => ?_) AllReadyH.nil
                  go_simp
                  refine hK.out _ _ ?_ (fun hHeld => ?_)
                  · (repeat (first | (with_reducible exact SB.refl) | (with_reducible exact hHeld) | (with_reducible refine SB.drew ?_) | (with_reducible refine SB.drewN ?_ _) | ((with_reducible refine SB.alloc ?_ ?_ _); (rotate_left); (first | omega | (simp <;> omega))) | ((with_reducible refine SB.setCell ?_ ?_ _); (rotate_left); (focus (first | (simp; done) | (right; first | omega | (simp <;> omega))))) | ((with_reducible refine SB.below ?_ hbS ?_); (rotate_left); (first | omega | (simp <;> omega))) | ((with_reducible refine SB.below ?_ hbS1 ?_); (rotate_left); (first | omega | (simp <;> omega))) | ((with_reducible refine SB.below ?_ hbS2 ?_); (rotate_left); (first | omega | (simp <;> omega))) | ((with_reducible refine SB.below ?_ hbS3 ?_); (rotate_left); (first | omega | (simp <;> omega))) | ((with_reducible refine SB.below ?_ hbS4 ?_); (rotate_left); (first | omega | (simp <;> omega))) | (with_reducible refine SB.undrew ?_) | ((with_reducible refine SB.congr ?_ ?_); (rotate_left); (focus (simp; done))) | ((with_reducible refine SB.realloc ?_ ?_ ?_); (rotate_left); (focus (simp; done)); (focus (simp; done)))))
                  clear hK K
                  (try simp only [Act.put, putS])
                  refine wpAnyH_ready (rs := [13]) (by kernel_rfl) (by simp) ?_
                  refine ord_run (i := 13) (preB 14 1) rfl (by kernel_rfl) (by rfl) (fun K hK => ?_) AllReadyH.nil
                  go_simp
                  refine hK.out _ _ ?_ (fun hHeld => ?_)
                  · (repeat (first | (with_reducible exact SB.refl) | (with_reducible exact hHeld) | (with_reducible refine SB.drew ?_) | (with_reducible refine SB.drewN ?_ _) | ((with_reducible refine SB.alloc ?_ ?_ _); (rotate_left); (first | omega | (simp <;> omega))) | ((with_reducible refine SB.setCell ?_ ?_ _); (rotate_left); (focus (first | (simp; done) | (right; first | omega | (simp <;> omega))))) | ((with_reducible refine SB.below ?_ hbS ?_); (rotate_left); (first | omega | (simp <;> omega))) | ((with_reducible refine SB.below ?_ hbS1 ?_); (rotate_left); (first | omega | (simp <;> omega))) | ((with_reducible refine SB.below ?_ hbS2 ?_); (rotate_left); (first | omega | (simp <;> omega))) | ((with_reducible refine SB.below ?_ hbS3 ?_); (rotate_left); (first | omega | (simp <;> omega))) | ((with_reducible refine SB.below ?_ hbS4 ?_); (rotate_left); (first | omega | (simp <;> omega))) | (with_reducible refine SB.undrew ?_) | ((with_reducible refine SB.congr ?_ ?_); (rotate_left); (focus (simp; done))) | ((with_reducible refine SB.realloc ?_ ?_ ?_); (rotate_left); (focus (simp; done)); (focus (simp; done)))))
                  clear hK K
                  (try simp only [Act.put, putS])
                  refine oT (i := 14) (preB 15 0) ?_ rfl hHeld (fun wx hSx => ?_) ?_
                  rotate_left
                  · (unfold SB at hSx; go_simp; (try with_reducible rfl))
                  (try simp only [Act.put, putS])
                  refine wpAnyH_done (by kernel_rfl) ?_ _
                  go_wp2_with fail; go_meet; exact ⟨_, rfl, rfl, belT, (by first | omega | (simp; done) | (simp <;> omega)), (by first | omega | (simp <;> omega)), (by simp [go_sem, *])⟩
                refine ord_run (i := 12) #[true, true, true, true, true, true, true, true, false, false, false, false, true, false, false] rfl (by kernel_rfl) (by rfl) (fun K hK => ?_) ?_
                · go_simp
                  refine hK.out _ _ ?_ (fun hHeld => ?_)
                  · (repeat (first | (with_reducible exact SB.refl) | (with_reducible exact hHeld) | (with_reducible refine SB.drew ?_) | (with_reducible refine SB.drewN ?_ _) | ((with_reducible refine SB.alloc ?_ ?_ _); (rotate_left); (first | omega | (simp <;> omega))) | ((with_reducible refine SB.setCell ?_ ?_ _); (rotate_left); (focus (first | (simp; done) | (right; first | omega | (simp <;> omega))))) | ((with_reducible refine SB.below ?_ hbS ?_); (rotate_left); (first | omega | (simp <;> omega))) | ((with_reducible refine SB.below ?_ hbS1 ?_); (rotate_left); (first | omega | (simp <;> omega))) | ((with_reducible refine SB.below ?_ hbS2 ?_); (rotate_left); (first | omega | (simp <;> omega))) | ((with_reducible refine SB.below ?_ hbS3 ?_); (rotate_left); (first | omega | (simp <;> omega))) | ((with_reducible refine SB.below ?_ hbS4 ?_); (rotate_left); (first | omega | (simp <;> omega))) | (with_reducible refine SB.undrew ?_) | ((with_reducible refine SB.congr ?_ ?_); (rotate_left); (focus (simp; done))) | ((with_reducible refine SB.realloc ?_ ?_ ?_); (rotate_left); (focus (simp; done)); (focus (simp; done)))))
                  clear hK K
                  (try simp only [Act.put, putS])
                  refine wpAnyH_ready (rs := [8]) (by kernel_rfl) (by simp) ?_
                  refine ord_run (i := 8) #[true, true, true, true, true, true, true, true, true, false, false, false, true, false, false] rfl (by kernel_rfl) (by rfl) (fun K hK => ?_) AllReadyH.nil
                  go_simp
                  go_wp2_with (go_at_call 21; refine (HDY.out _ (HW.out.below (Q4.out.trans belT))).mono ?_; rintro e w5 ⟨⟨a5, d5, g5, l5, g6, l6, rfl⟩, hb⟩; (first | (have q5B : Below wd.heap.size wd w5 := qB hb; have q5z := hb.size; (try simp at q5z); have q5t : wd.heap.size ≤ w5.heap.size := (by omega); have q5s0 : w.heap.size + 1 < w5.heap.size := (by omega); have q5n0_0 : ¬ w5.heap.size = w.heap.size + 1 := (by omega); have q5n0_1 : ¬ w5.heap.size + 1 = w.heap.size + 1 := (by omega); have q5n0_2 : ¬ w5.heap.size + 2 = w.heap.size + 1 := (by omega); have q5c0_0 := cel hb (w.heap.size + 1) 0; simp [go_sem, *] at q5c0_0; have q5c0_1 := cel hb (w.heap.size + 1) 1; simp [go_sem, *] at q5c0_1; have q5c0_2 := cel hb (w.heap.size + 1) 2; simp [go_sem, *] at q5c0_2; have q5f0 := fun o => fro hb (w.heap.size + 1) o; simp [go_sem, *] at q5f0; have q5s1 : wd.heap.size < w5.heap.size := (by omega); have q5n1_0 : ¬ w5.heap.size = wd.heap.size := (by omega); have q5n1_1 : ¬ w5.heap.size + 1 = wd.heap.size := (by omega); have q5n1_2 : ¬ w5.heap.size + 2 = wd.heap.size := (by omega); have q5c1_0 := cel hb wd.heap.size 0; simp [go_sem, *] at q5c1_0; have q5c1_1 := cel hb wd.heap.size 1; simp [go_sem, *] at q5c1_1; have q5c1_2 := cel hb wd.heap.size 2; simp [go_sem, *] at q5c1_2; have q5c1_3 := cel hb wd.heap.size 3; simp [go_sem, *] at q5c1_3; have q5c1_4 := cel hb wd.heap.size 4; simp [go_sem, *] at q5c1_4; have q5c1_5 := cel hb wd.heap.size 5; simp [go_sem, *] at q5c1_5; have q5c1_6 := cel hb wd.heap.size 6; simp [go_sem, *] at q5c1_6; have q5f1 := fun o => fro hb wd.heap.size o; simp [go_sem, *] at q5f1; have q5o := belO q5B; have hbS := hb; have hbS5 := hb; clear hb) | (have q5B : Below wd.heap.size wd w5 := qB hb; have q5z := hb.size; (try simp at q5z); have q5t : wd.heap.size ≤ w5.heap.size := (by omega); have q5s0 : w.heap.size + 1 < w5.heap.size := (by omega); have q5n0_0 : ¬ w5.heap.size = w.heap.size + 1 := (by omega); have q5n0_1 : ¬ w5.heap.size + 1 = w.heap.size + 1 := (by omega); have q5n0_2 : ¬ w5.heap.size + 2 = w.heap.size + 1 := (by omega); have q5c0_0 := cel hb (w.heap.size + 1) 0; simp [go_sem, *] at q5c0_0; have q5c0_1 := cel hb (w.heap.size + 1) 1; simp [go_sem, *] at q5c0_1; have q5c0_2 := cel hb (w.heap.size + 1) 2; simp [go_sem, *] at q5c0_2; have q5f0 := fun o => fro hb (w.heap.size + 1) o; simp [go_sem, *] at q5f0; have q5o := belO q5B; have hbS := hb; have hbS5 := hb; clear hb)))
                  refine hK.out _ _ ?_ (fun hHeld => ?_)
                  · (repeat (first | (with_reducible exact SB.refl) | (with_reducible exact hHeld) | (with_reducible refine SB.drew ?_) | (with_reducible refine SB.drewN ?_ _) | ((with_reducible refine SB.alloc ?_ ?_ _); (rotate_left); (first | omega | (simp <;> omega))) | ((with_reducible refine SB.setCell ?_ ?_ _); (rotate_left); (focus (first | (simp; done) | (right; first | omega | (simp <;> omega))))) | ((with_reducible refine SB.below ?_ hbS ?_); (rotate_left); (first | omega | (simp <;> omega))) | ((with_reducible refine SB.below ?_ hbS1 ?_); (rotate_left); (first | omega | (simp <;> omega))) | ((with_reducible refine SB.below ?_ hbS2 ?_); (rotate_left); (first | omega | (simp <;> omega))) | ((with_reducible refine SB.below ?_ hbS3 ?_); (rotate_left); (first | omega | (simp <;> omega))) | ((with_reducible refine SB.below ?_ hbS4 ?_); (rotate_left); (first | omega | (simp <;> omega))) | (with_reducible refine SB.undrew ?_) | ((with_reducible refine SB.congr ?_ ?_); (rotate_left); (focus (simp; done))) | ((with_reducible refine SB.realloc ?_ ?_ ?_); (rotate_left); (focus (simp; done)); (focus (simp; done)))))
                  clear hK K
                  (try simp only [Act.put, putS])
                  refine oT (i := 9) #[true, true, true, true, true, true, true, true, true, true, false, false, true, false, false] ?_ rfl hHeld (fun wx hSx => ?_) ?_
                  rotate_left
                  · (unfold SB at hSx; go_simp; (try with_reducible rfl))
                  (try simp only [Act.put, putS])
                  refine oT (i := 10) #[true, true, true, true, true, true, true, true, true, true, true, false, true, false, false] ?_ rfl hHeld (fun wx hSx => ?_) ?_
                  rotate_left
                  · (unfold SB at hSx; go_simp; (try with_reducible rfl))
                  (try simp only [Act.put, putS])
                  refine oT (i := 11) (preB 13 2) ?_ rfl hHeld (fun wx hSx => ?_) ?_
                  rotate_left
                  · (unfold SB at hSx; go_simp; (try with_reducible rfl))
                  (try simp only [Act.put, putS])
                  refine wpAnyH_ready (rs := [13]) (by kernel_rfl) (by simp) ?_
                  refine ord_run (i := 13) (preB 14 1) rfl (by kernel_rfl) (by rfl) (fun K hK => ?_) AllReadyH.nil
                  go_simp
                  refine hK.out _ _ ?_ (fun hHeld => ?_)
                  · (repeat (first | (with_reducible exact SB.refl) | (with_reducible exact hHeld) | (with_reducible refine SB.drew ?_) | (with_reducible refine SB.drewN ?_ _) | ((with_reducible refine SB.alloc ?_ ?_ _); (rotate_left); (first | omega | (simp <;> omega))) | ((with_reducible refine SB.setCell ?_ ?_ _); (rotate_left); (focus (first | (simp; done) | (right; first | omega | (simp <;> omega))))) | ((with_reducible refine SB.below ?_ hbS ?_); (rotate_left); (first | omega | (simp <;> omega))) | ((with_reducible refine SB.below ?_ hbS1 ?_); (rotate_left); (first | omega | (simp <;> omega))) | ((with_reducible refine SB.below ?_ hbS2 ?_); (rotate_left); (first | omega | (simp <;> omega))) | ((with_reducible refine SB.below ?_ hbS3 ?_); (rotate_left); (first | omega | (simp <;> omega))) | ((with_reducible refine SB.below ?_ hbS4 ?_); (rotate_left); (first | omega | (simp <;> omega))) | (with_reducible refine SB.undrew ?_) | ((with_reducible refine SB.congr ?_ ?_); (rotate_left); (focus (simp; done))) | ((with_reducible refine SB.realloc ?_ ?_ ?_); (rotate_left); (focus (simp; done)); (focus (simp; done)))))
                  clear hK K
                  (try simp only [Act.put, putS])
                  refine oT (i := 14) (preB 15 0) ?_ rfl hHeld (fun wx hSx => ?_) ?_
                  rotate_left
                  · (unfold SB at hSx; go_simp; (try with_reducible rfl))
                  (try simp only [Act.put, putS])
                  refine wpAnyH_done (by kernel_rfl) ?_ _
                  go_wp2_with fail; go_meet; exact ⟨_, rfl, rfl, belT, (by first | omega | (simp; done) | (simp <;> omega)), (by first | omega | (simp <;> omega)), (by simp [go_sem, *])⟩
                exact AllReadyH.nil
              case rest =>
                rename World => we
                obtain ⟨p, rfl, rfl, hBx, hp1, hp2, hpc⟩ := hcut
                have B11 := hide hBx
                have X5 := hide (blk_below hBx hwd X4.out)
                have i1 := hBx.cell (p := ⟨b, off + k * 7 + 1, none⟩) HBL2.out
                have i2 := hBx.cell (p := ⟨b, off + k * 7 + 2, none⟩) HBL2.out
                rw [e1] at i1
                rw [e2] at i2
                have hb := hBx
                clear e1 e2
                have q5B : Below wd.heap.size wd we := qB hb
                have q5z := hb.size
                try simp at q5z
                have q5t : wd.heap.size ≤ we.heap.size := (by omega)
                have q5s0 : w.heap.size + 1 < we.heap.size := (by omega)
                have q5n0_0 : ¬ we.heap.size = w.heap.size + 1 := (by omega)
                have q5n0_1 : ¬ we.heap.size + 1 = w.heap.size + 1 := (by omega)
                have q5n0_2 : ¬ we.heap.size + 2 = w.heap.size + 1 := (by omega)
                have q5c0_0 := cel hb (w.heap.size + 1) 0
                simp [go_sem, *] at q5c0_0
                have q5c0_1 := cel hb (w.heap.size + 1) 1
                simp [go_sem, *] at q5c0_1
                have q5c0_2 := cel hb (w.heap.size + 1) 2
                simp [go_sem, *] at q5c0_2
                have q5f0 := fun o => fro hb (w.heap.size + 1) o
                simp [go_sem, *] at q5f0
                have q5o := belO q5B
                clear hb q5o q5f0 q5c0_2 q5c0_1 q5c0_0 q5s0 q5z q5B
                clear hBx
                go_upto_region 13 with fail
                go_quiet (fail)
                go_wp2_with fail
                go_roundg (l.length - (k + 1))
                case rel => exact ⟨k + 1, by have := HLT.out; omega, rfl, by go_num, by first | rfl | (rw [← HN.out]; first | rfl | (rw [HTI.out])), (H0.out.trans (B10.out.mono H0.out.size)).trans (Below.trans (B11.out.mono (by have := H0.out.size; have := B10.out.size; omega)) belT)⟩
                case measure => have := HFU.out; have := HLT.out; omega
          · obtain rfl : k = l.length := by omega
            have hnx : nxt f l l.length = t + 1 := HFL.out.full
            have HRR := hide (HRL.out.below H0.out)
            rw [hnx]
            clear hnx hlt hk
            go_wp2_with fail
            refine (diff_self A l c hln HFL.out.sl _ (HRR.out.below belT)).mono ?_
            rintro e w5 ⟨⟨A5, c5, rfl⟩, hb⟩
            have B5 := hide (show Below wr.heap.size wr w5 from Below.trans belT hb)
            clear hb
            go_wp2_with fail
            refine (diff_none A l c hln HFL.out.sl _ (HRR.out.below (B5.out.trans (by have := B5.out.size; (repeat (first | (with_reducible first | exact Below.refl _ _ | assumption | refine Below.drew ?_ | refine below_drewN ?_ _) | ((with_reducible first | refine Below.alloc ?_ ?_ _ | refine Below.setCell ?_ ?_ _); rotate_left; (first | omega | (simp <;> omega))))))))).mono ?_
            rintro e w6 ⟨A6, c6, l6, rfl, hr6, hl6, hb⟩
            have B6 := hide (B5.out.trans (Below.trans (by have := B5.out.size; (repeat (first | (with_reducible first | exact Below.refl _ _ | assumption | refine Below.drew ?_ | refine below_drewN ?_ _) | ((with_reducible first | refine Below.alloc ?_ ?_ _ | refine Below.setCell ?_ ?_ _); rotate_left; (first | omega | (simp <;> omega)))))) (hb.mono (by have := B5.out.size; simp; omega))))
            have HR6 := hide hr6
            have HL6 := hide hl6
            clear hr6 hl6 hb
            go_wp2_with fail
            refine (same_lines A6 A l l6 c6 c HL6.out hln HFL.out.sl _ (HR6.out.below belT) (HRR.out.below (B6.out.trans (by have := B6.out.size; (repeat (first | (with_reducible first | exact Below.refl _ _ | assumption | refine Below.drew ?_ | refine below_drewN ?_ _) | ((with_reducible first | refine Below.alloc ?_ ?_ _ | refine Below.setCell ?_ ?_ _); rotate_left; (first | omega | (simp <;> omega))))))))).mono ?_
            rintro e w7 ⟨rfl, hb⟩
            have B7 := hide (B6.out.trans (Below.trans (by have := B6.out.size; (repeat (first | (with_reducible first | exact Below.refl _ _ | assumption | refine Below.drew ?_ | refine below_drewN ?_ _) | ((with_reducible first | refine Below.alloc ?_ ?_ _ | refine Below.setCell ?_ ?_ _); rotate_left; (first | omega | (simp <;> omega)))))) (hb.mono (by have := B6.out.size; simp; omega))))
            clear hb
            go_wp2_with fail
            refine (live_any _ (HT.out.below ((QR.out.trans (B7.out.mono QR.out.size)).trans (by have := (QR.out.trans (B7.out.mono QR.out.size)).size; (repeat (first | (with_reducible first | exact Below.refl _ _ | assumption | refine Below.drew ?_ | refine below_drewN ?_ _) | ((with_reducible first | refine Below.alloc ?_ ?_ _ | refine Below.setCell ?_ ?_ _); rotate_left; (first | omega | (simp <;> omega))))))))).mono ?_
            rintro e w8 ⟨rfl, hb⟩
            go_wp2_with fail
            go_ret
            exact ⟨rfl, (QR.out.trans (B7.out.mono QR.out.size)).trans (Below.trans (by have := (QR.out.trans (B7.out.mono QR.out.size)).size; (repeat (first | (with_reducible first | exact Below.refl _ _ | assumption | refine Below.drew ?_ | refine below_drewN ?_ _) | ((with_reducible first | refine Below.alloc ?_ ?_ _ | refine Below.setCell ?_ ?_ _); rotate_left; (first | omega | (simp <;> omega)))))) (hb.mono (by have := (QR.out.trans (B7.out.mono QR.out.size)).size; simp; omega)))⟩
    · obtain ⟨hE, hV⟩ := ser_bad h0 (by omega) (by omega) (by omega) (by omega)
      have hE : serE B id f t = 11 := by rcases hE with h | h; exact h; omega
      have HL := hide (fun W h => by have z := lines_any B HB.out id f t (by omega) W h; unfold LinesRet lnsL at z; rw [if_neg h0, hE] at z; exact z)
      clear h0 hE hV
      go_wp2_with (with_reducible refine wpList_load_row rfl 33 (.tmp 2) rfl w.heap.size rfl 33 B.C (0, 0) _ X1.out Tryz.underlying33 rfl HS.out ?_)
      refine (HL.out _ (HW.out.below Q1.out)).mono ?_
      rintro e w2 ⟨A, c, l, rfl, hrl, hl, hb⟩
      obtain rfl : l = [] := by cases l with | nil => rfl | cons x l => cases hl
      have Q2 := hide (Q1.out.trans (hb.mono Q1.out.size))
      clear hrl hl hb
      go_wp2_with fail
      refine (live_any _ (HT.out.below Q2.out)).mono ?_
      rintro e w7 ⟨rfl, hb⟩
      go_wp2_with fail
      go_ret
      exact ⟨rfl, Q2.out.trans (hb.mono Q2.out.size)⟩
end Go.Proofs.YtdjlaiilngechaaGreatDoor
