/- Texts laid together: TxW. -/
import Derived.Test.YtpghciiifnjimaaGreatDoorXStI
import Derived.Test.YtpghciiifnjimaaGreatDoorXStO
import Derived.Test.YtpghciiifnjimaaGreatDoorXK0
namespace Go.Proofs.YtpghciiifnjimaaGreatDoor
set_option maxRecDepth 4000
set_option linter.unusedSimpArgs false
set_option linter.unusedVariables false
open Go.RowKit
def TxLo (P : Nat → LPos) (h0 : List UInt8) (d : Int) (b0 : Bool) (n : Nat) (W : World) (b g : Nat) (v : Value) (wr : World) : Prop :=
 ∃ k : Nat, k ≤ n ∧ v = .int .i64 k ∧ TxS W b g (b0 || badL P d k) (h0 ++ linesL P d k) wr
theorem txt_err {ac no f t op cl : Int} {P : Nat → LPos} {n : Nat} {d : Int} (h : chkS ac no f t op cl P n ≠ 0) : txtE ac no f t op cl P n d = chkS ac no f t op cl P n ∧ txtR ac no f t op cl P n d = [] := by
 have e : txtE ac no f t op cl P n d = chkS ac no f t op cl P n := if_neg h
 exact ⟨e, if_neg (by rw [e]; exact h)⟩
theorem txt_bad {ac no f t op cl : Int} {P : Nat → LPos} {n : Nat} {d : Int} (h : chkS ac no f t op cl P n = 0) (hb : badS op cl P n d = true) : txtE ac no f t op cl P n d = 1 ∧ txtR ac no f t op cl P n d = [] := by
 have e : txtE ac no f t op cl P n d = 1 := by unfold txtE; rw [if_pos h, hb]; rfl
 exact ⟨e, if_neg (by rw [e]; decide)⟩
theorem txt_ok {ac no f t op cl : Int} {P : Nat → LPos} {n : Nat} {d : Int} (h : chkS ac no f t op cl P n = 0) (hb : badS op cl P n d = false) : txtE ac no f t op cl P n d = 0 ∧ txtR ac no f t op cl P n d = txtL ac no f t op cl P n d := by
 have e : txtE ac no f t op cl P n d = 0 := by unfold txtE; rw [if_pos h, hb]; rfl
 exact ⟨e, if_pos e⟩
theorem bad_places {op cl : Int} {P : Nat → LPos} {n : Nat} {d : Int} (h : ¬ (0 ≤ d ∧ d ≤ 4)) : badS op cl P n d = true := by
 have e : mnB op d = false := by unfold mnB; simp; omega
 unfold badS; rw [e]; simp
theorem chk_pos {ac no f t op cl : Int} {P : Nat → LPos} {n : Nat} (h : chkS ac no f t op cl P n = 0) : 1000 ≤ ac ∧ 1 ≤ no := by
 unfold chkS at h
 constructor
 ·rcases Int.lt_or_le ac 1000 with h1 | h1
  ·rw [if_pos h1] at h; cases h
  ·exact h1
 ·rcases Int.lt_or_le no 1 with h1 | h1
  ·rw [if_pos h1] at h; split at h <;> cases h
  ·exact h1
set_option maxRecDepth 4000 in
set_option maxHeartbeats 4000000 in
theorem text_any (ac no f t op cl : Int) (lA : Option Addr) (ln lc : Nat) (P : Nat → LPos) (d : Int) (hn : ln ≤ 80) (htx : ∀ k, k < ln → (P k).tx.size ≤ 200) (i1 : IIn ac) (i2 : IIn no) (w : World) (hr : RowPos w lA ln P) (ht : Tab w) :
  Calls Tryz.prog 51 #[.agg #[.int .i64 ac, .int .i64 no, .int .i64 f, .int .i64 t, .int .i64 op, .int .i64 cl, .slice lA ln lc], .int .i64 d] w fun e w' => e = .returned (.tuple #[.string ⟨(txtR ac no f t op cl P ln d).toArray⟩, .int .i64 (txtE ac no f t op cl P ln d)]) ∧ Below w.heap.size w w' := by
 have HR := hide hr
 have HT := hide ht
 have HX := hide htx
 clear hr ht htx
 go_enter Tryz.func51, Tryz.ntmps51
 go_wp2_with fail
 refine (check_any ac no f t op cl lA ln lc P (by omega) _ (HR.out.below belT)).mono ?_
 rintro e w1 ⟨rfl, hb⟩
 have q1B : Below w.heap.size w w1 := qB hb
 have q1z := hb.size
 try simp at q1z
 have q1t : w.heap.size ≤ w1.heap.size := (by omega)
 obtain ⟨q1s0, q1n0_0, q1n0_1, q1n0_2⟩ := kB w1.heap.size w.heap.size
 obtain ⟨q1c0_0, q1c0_1, q1c0_2, q1c0_3, q1c0_4, q1c0_5, q1c0_6, q1f0⟩ := kC7 hb w.heap.size
 simp [go_sem, *] at q1c0_0 q1c0_1 q1c0_2 q1c0_3 q1c0_4 q1c0_5 q1c0_6 q1f0
 obtain ⟨q1s1, q1n1_0, q1n1_1, q1n1_2⟩ := kB w1.heap.size (w.heap.size + 1)
 obtain ⟨q1c1_0, q1f1⟩ := kC1 hb (w.heap.size + 1)
 simp [go_sem, *] at q1c1_0 q1f1
 have q1o := belO q1B
 clear hb
 by_cases hc : chkS ac no f t op cl P ln = 0
 ·have HC := hide hc
  obtain ⟨j1, j2⟩ := chk_pos hc
  rw [hc]
  clear hc
  unfold IIn at i1 i2
  by_cases hd0 : d < 0
  ·have HE := hide (txt_bad (d := d) HC.out (bad_places (by omega)))
   go_wp2_with fail
   refine bodyPost_ret (by simp [results, Tryz.results51, go_sem, *] <;> rfl) rfl ⟨?_, ?_⟩
   ·rw [HE.out.1, HE.out.2]
   ·(repeat (first | (with_reducible first | exact Below.refl _ _ | assumption | refine Below.drew ?_) | ((with_reducible first | refine Below.alloc ?_ ?_ _ | refine Below.setCell ?_ ?_ _); rotate_left; (first | omega | (simp <;> omega)))))
  ·have hd0' := Int.not_lt.1 hd0
   clear hd0
   by_cases hd4 : d > 4
   ·have HE := hide (txt_bad (d := d) HC.out (bad_places (by omega)))
    have hd4' : 4 < d := hd4
    clear hd4
    go_wp2_with fail
    refine bodyPost_ret (by simp [results, Tryz.results51, go_sem, *] <;> rfl) rfl ⟨?_, ?_⟩
    ·rw [HE.out.1, HE.out.2]
    ·(repeat (first | (with_reducible first | exact Below.refl _ _ | assumption | refine Below.drew ?_) | ((with_reducible first | refine Below.alloc ?_ ?_ _ | refine Below.setCell ?_ ?_ _); rotate_left; (first | omega | (simp <;> omega)))))
   ·have hd4' := Int.not_lt.1 hd4
    clear hd4
    have HTb := hide (HT.out.below q1B)
    have HRb := hide (HR.out.below q1B)
    have H1 := hide q1B
    have hl1 := headL_len (ac := ac) (no := no) (f := f) (t := t) (op := op) (d := d) (by omega) (by omega) (by omega) (by omega)
    have hl2 := linesL_len (P := P) d HX.out
    have hl3 := closing_len cl d
    have HL := hide hl1
    have HL2 := hide hl2
    clear hl1 hl2
    go_wp2_with fail
    have hT := (TxS.start w1).drew
    have hdc := q1c1_0
    have s1 : w.heap.size < w1.heap.size := by omega
    have s2 : w.heap.size + 1 < w1.heap.size := by omega
    have HQ := hide (And.intro q1c0_0 (And.intro q1c0_1 (And.intro q1c0_2 (And.intro q1c0_3 (And.intro q1c0_4 (And.intro q1c0_5 (And.intro q1c0_6 (And.intro q1c1_0 (And.intro q1f0 q1f1)))))))))
    have HD := hide hdc
    have hA := hide (show ([] : List UInt8).length + (wJ [wStatement, Lib.itoa no, wAccount, Lib.itoa ac]).length ≤ 200 by have := HL.out; unfold headL at this; simp only [List.length_append, List.length_nil] at this ⊢; omega)
    have hB := hide (show (([] : List UInt8) ++ wJ [wStatement, Lib.itoa no, wAccount, Lib.itoa ac]).length + (wJ [fmtL f, wTo, fmtL t]).length ≤ 200 by have := HL.out; unfold headL at this; simp only [List.length_append, List.length_nil] at this ⊢; omega)
    have hCc := hide (show (([] : List UInt8) ++ wJ [wStatement, Lib.itoa no, wAccount, Lib.itoa ac] ++ wJ [fmtL f, wTo, fmtL t]).length + (wJ [wOpening, amtL op d]).length ≤ 200 by have := HL.out; unfold headL at this; simp only [List.length_append, List.length_nil] at this ⊢; omega)
    refine ord_start (SC (w1.heap.size) [] _) 9 (preB 0 9) (by kernel_rfl) (by kernel_rfl) (by kernel_rfl) SC.refl.drew (fun hHeld => ?_)
    refine oT (i := 0) (preB 1 8) ?_ rfl hHeld (fun wx hSx => ?_) ?_
    rotate_left
    ·(have hSx := SC.cell hSx; go_simp; (try with_reducible rfl))
    (try simp only [Act.put, putS])
    refine oT (i := 1) (preB 2 7) ?_ rfl hHeld (fun wx hSx => ?_) ?_
    rotate_left
    ·(have hSx := SC.cell hSx; go_simp; (try with_reducible rfl))
    (try simp only [Act.put, putS])
    refine oT (i := 2) (preB 3 6) ?_ rfl hHeld (fun wx hSx => ?_) ?_
    rotate_left
    ·(have hSx := SC.cell hSx; go_simp; (try with_reducible rfl))
    (try simp only [Act.put, putS])
    refine oT (i := 4) #[true, true, true, false, true, false, false, false, false] ?_ rfl hHeld (fun wx hSx => ?_) ?_
    rotate_left
    ·(have hSx := SC.cell hSx; go_simp; (try with_reducible rfl))
    (try simp only [Act.put, putS])
    refine oT (i := 5) #[true, true, true, false, true, true, false, false, false] ?_ rfl hHeld (fun wx hSx => ?_) ?_
    rotate_left
    ·(have hSx := SC.cell hSx; go_simp; (try with_reducible rfl))
    (try simp only [Act.put, putS])
    refine wpAnyH_ready (rs := [3]) (by kernel_rfl) (by simp) ?_
    refine ord_run (i := 3) (preB 6 3) rfl (by kernel_rfl) (by rfl) (fun K hK => ?_) AllReadyH.nil
    go_simp
    go_wp2_with (go_at_call 106; refine (itoa_any no (by omega) (by omega) _ (hT.tab HTb.out)).mono ?_; rintro e w2 ⟨rfl, hb2⟩; have hHeld := hHeld.below hb2 hT.bel.size (by simp); have hT := hT.below hb2; have z2 := hT.bel.size)
    refine hK.out _ _ ?_ (fun hHeld => ?_)
    ·(repeat (first | (with_reducible exact SC.refl) | (with_reducible exact hHeld) | (with_reducible refine SC.drew ?_) | ((with_reducible refine SC.alloc ?_ ?_ ?_ _); (rotate_left); (focus (first | omega | (simp <;> omega))); (focus (first | omega | (simp <;> omega))))))
    clear hK K
    (try simp only [Act.put, putS])
    refine wpAnyH_ready (rs := [6]) (by kernel_rfl) (by simp) ?_
    refine ord_run (i := 6) (preB 7 2) rfl (by kernel_rfl) (by rfl) (fun K hK => ?_) AllReadyH.nil
    go_simp
    go_wp2_with (go_at_call 106; refine (itoa_any ac (by omega) (by omega) _ (hT.tab HTb.out)).mono ?_; rintro e w3 ⟨rfl, hb3⟩; have hHeld := hHeld.below hb3 hT.bel.size (by simp); have hT := hT.below hb3; have z3 := hT.bel.size)
    refine hK.out _ _ ?_ (fun hHeld => ?_)
    ·(repeat (first | (with_reducible exact SC.refl) | (with_reducible exact hHeld) | (with_reducible refine SC.drew ?_) | ((with_reducible refine SC.alloc ?_ ?_ ?_ _); (rotate_left); (focus (first | omega | (simp <;> omega))); (focus (first | omega | (simp <;> omega))))))
    clear hK K
    (try simp only [Act.put, putS])
    refine wpAnyH_ready (rs := [7]) (by kernel_rfl) (by simp) ?_
    refine ord_run (i := 7) (preB 8 1) rfl (by kernel_rfl) (by rfl) (fun K hK => ?_) AllReadyH.nil
    go_simp
    refine hK.out _ _ ?_ (fun hHeld => ?_)
    ·(repeat (first | (with_reducible exact SC.refl) | (with_reducible exact hHeld) | (with_reducible refine SC.drew ?_) | ((with_reducible refine SC.alloc ?_ ?_ ?_ _); (rotate_left); (focus (first | omega | (simp <;> omega))); (focus (first | omega | (simp <;> omega))))))
    clear hK K
    (try simp only [Act.put, putS])
    refine wpAnyH_ready (rs := [8]) (by kernel_rfl) (by simp) ?_
    refine ord_run (i := 8) (preB 9 0) rfl (by kernel_rfl) (by rfl) (fun K hK => ?_) AllReadyH.nil
    go_simp
    go_wp2_with (go_at_call 101; refine (put_any w1 _ _ _ _ w3.heap.size 4 [wStatement, Lib.itoa no, wAccount, Lib.itoa ac] _ (hT.alloc _) (by exact words_new rfl) (by first | (simp; done) | (simp; omega)) (by simp) (by simp) (by have := hA.out; omega)).mono ?_; rintro e w4 ⟨rfl, hT4, hk⟩; have hHeld := hHeld.tx (hT.alloc _) hT4 hk (Nat.le_refl _) (by simp))
    refine hK.out _ _ ?_ (fun hHeld => ?_)
    ·(repeat (first | (with_reducible exact SC.refl) | (with_reducible exact hHeld) | (with_reducible refine SC.drew ?_) | ((with_reducible refine SC.alloc ?_ ?_ ?_ _); (rotate_left); (focus (first | omega | (simp <;> omega))); (focus (first | omega | (simp <;> omega))))))
    clear hK K
    (try simp only [Act.put, putS])
    refine wpAnyH_done (by kernel_rfl) ?_ _
    have hT := hT4
    clear hT4 hk hHeld hb2 hb3 z2 z3
    have hb := hT.bel
    obtain ⟨p0, p1, p2, p3, p4, p5, p6, p7, p8, p9⟩ := HQ.out
    have q2B : Below w1.heap.size w1 w4 := qB hb
    have q2z := hb.size
    try simp at q2z
    have q2t : w1.heap.size ≤ w4.heap.size := (by omega)
    obtain ⟨q2s0, q2n0_0, q2n0_1, q2n0_2⟩ := kB w4.heap.size w.heap.size
    obtain ⟨q2c0_0, q2c0_1, q2c0_2, q2c0_3, q2c0_4, q2c0_5, q2c0_6, q2f0⟩ := kC7 hb w.heap.size
    simp [go_sem, *] at q2c0_0 q2c0_1 q2c0_2 q2c0_3 q2c0_4 q2c0_5 q2c0_6 q2f0
    obtain ⟨q2s1, q2n1_0, q2n1_1, q2n1_2⟩ := kB w4.heap.size (w.heap.size + 1)
    obtain ⟨q2c1_0, q2f1⟩ := kC1 hb (w.heap.size + 1)
    simp [go_sem, *] at q2c1_0 q2f1
    have q2o := belO q2B
    clear hb q1o q1f1 q1c1_0 q1s1 q1f0 q1c0_6 q1c0_5 q1c0_4 q1c0_3 q1c0_2 q1c0_1 q1c0_0 q1s0 q1z q1B
    clear p0 p1 p2 p3 p4 p5 p6 p7 p8 p9
    go_wp2_with fail
    have hT := hT.drew
    refine ord_start (SC (w1.heap.size) [] _) 9 (preB 0 9) (by kernel_rfl) (by kernel_rfl) (by kernel_rfl) SC.refl.drew (fun hHeld => ?_)
    refine oT (i := 0) (preB 1 8) ?_ rfl hHeld (fun wx hSx => ?_) ?_
    rotate_left
    ·(have hSx := SC.cell hSx; go_simp; (try with_reducible rfl))
    (try simp only [Act.put, putS])
    refine oT (i := 1) (preB 2 7) ?_ rfl hHeld (fun wx hSx => ?_) ?_
    rotate_left
    ·(have hSx := SC.cell hSx; go_simp; (try with_reducible rfl))
    (try simp only [Act.put, putS])
    refine oT (i := 2) (preB 3 6) ?_ rfl hHeld (fun wx hSx => ?_) ?_
    rotate_left
    ·(have hSx := SC.cell hSx; go_simp; (try with_reducible rfl))
    (try simp only [Act.put, putS])
    refine oT (i := 4) #[true, true, true, false, true, false, false, false, false] ?_ rfl hHeld (fun wx hSx => ?_) ?_
    rotate_left
    ·(have hSx := SC.cell hSx; go_simp; (try with_reducible rfl))
    (try simp only [Act.put, putS])
    refine oT (i := 5) #[true, true, true, false, true, true, false, false, false] ?_ rfl hHeld (fun wx hSx => ?_) ?_
    rotate_left
    ·(have hSx := SC.cell hSx; go_simp; (try with_reducible rfl))
    (try simp only [Act.put, putS])
    refine wpAnyH_ready (rs := [3]) (by kernel_rfl) (by simp) ?_
    refine ord_run (i := 3) (preB 6 3) rfl (by kernel_rfl) (by rfl) (fun K hK => ?_) AllReadyH.nil
    go_simp
    go_wp2_with (go_at_call 107; refine (format_any f _ (hT.tab HTb.out)).mono ?_; rintro e w5 ⟨rfl, hb5⟩; have hHeld := hHeld.below hb5 hT.bel.size (by simp); have hT := hT.below hb5; have z5 := hT.bel.size)
    refine hK.out _ _ ?_ (fun hHeld => ?_)
    ·(repeat (first | (with_reducible exact SC.refl) | (with_reducible exact hHeld) | (with_reducible refine SC.drew ?_) | ((with_reducible refine SC.alloc ?_ ?_ ?_ _); (rotate_left); (focus (first | omega | (simp <;> omega))); (focus (first | omega | (simp <;> omega))))))
    clear hK K
    (try simp only [Act.put, putS])
    refine wpAnyH_ready (rs := [6]) (by kernel_rfl) (by simp) ?_
    refine ord_run (i := 6) (preB 7 2) rfl (by kernel_rfl) (by rfl) (fun K hK => ?_) AllReadyH.nil
    go_simp
    go_wp2_with (go_at_call 107; refine (format_any t _ (hT.tab HTb.out)).mono ?_; rintro e w6 ⟨rfl, hb6⟩; have hHeld := hHeld.below hb6 hT.bel.size (by simp); have hT := hT.below hb6; have z6 := hT.bel.size)
    refine hK.out _ _ ?_ (fun hHeld => ?_)
    ·(repeat (first | (with_reducible exact SC.refl) | (with_reducible exact hHeld) | (with_reducible refine SC.drew ?_) | ((with_reducible refine SC.alloc ?_ ?_ ?_ _); (rotate_left); (focus (first | omega | (simp <;> omega))); (focus (first | omega | (simp <;> omega))))))
    clear hK K
    (try simp only [Act.put, putS])
    refine wpAnyH_ready (rs := [7]) (by kernel_rfl) (by simp) ?_
    refine ord_run (i := 7) (preB 8 1) rfl (by kernel_rfl) (by rfl) (fun K hK => ?_) AllReadyH.nil
    go_simp
    refine hK.out _ _ ?_ (fun hHeld => ?_)
    ·(repeat (first | (with_reducible exact SC.refl) | (with_reducible exact hHeld) | (with_reducible refine SC.drew ?_) | ((with_reducible refine SC.alloc ?_ ?_ ?_ _); (rotate_left); (focus (first | omega | (simp <;> omega))); (focus (first | omega | (simp <;> omega))))))
    clear hK K
    (try simp only [Act.put, putS])
    refine wpAnyH_ready (rs := [8]) (by kernel_rfl) (by simp) ?_
    refine ord_run (i := 8) (preB 9 0) rfl (by kernel_rfl) (by rfl) (fun K hK => ?_) AllReadyH.nil
    go_simp
    go_wp2_with (go_at_call 101; refine (put_any w1 _ _ _ _ w6.heap.size 3 [fmtL f, wTo, fmtL t] _ (hT.alloc _) (by exact words_new rfl) (by first | (simp; done) | (simp; omega)) (by simp) (by simp) (by have := hB.out; omega)).mono ?_; rintro e w7 ⟨rfl, hT4, hk⟩; have hHeld := hHeld.tx (hT.alloc _) hT4 hk (Nat.le_refl _) (by simp))
    refine hK.out _ _ ?_ (fun hHeld => ?_)
    ·(repeat (first | (with_reducible exact SC.refl) | (with_reducible exact hHeld) | (with_reducible refine SC.drew ?_) | ((with_reducible refine SC.alloc ?_ ?_ ?_ _); (rotate_left); (focus (first | omega | (simp <;> omega))); (focus (first | omega | (simp <;> omega))))))
    clear hK K
    (try simp only [Act.put, putS])
    refine wpAnyH_done (by kernel_rfl) ?_ _
    have hT := hT4
    clear hT4 hk hHeld hb5 hb6 z5 z6
    have hb := hT.bel
    obtain ⟨p0, p1, p2, p3, p4, p5, p6, p7, p8, p9⟩ := HQ.out
    have q3B : Below w1.heap.size w1 w7 := qB hb
    have q3z := hb.size
    try simp at q3z
    have q3t : w1.heap.size ≤ w7.heap.size := (by omega)
    obtain ⟨q3s0, q3n0_0, q3n0_1, q3n0_2⟩ := kB w7.heap.size w.heap.size
    obtain ⟨q3c0_0, q3c0_1, q3c0_2, q3c0_3, q3c0_4, q3c0_5, q3c0_6, q3f0⟩ := kC7 hb w.heap.size
    simp [go_sem, *] at q3c0_0 q3c0_1 q3c0_2 q3c0_3 q3c0_4 q3c0_5 q3c0_6 q3f0
    obtain ⟨q3s1, q3n1_0, q3n1_1, q3n1_2⟩ := kB w7.heap.size (w.heap.size + 1)
    obtain ⟨q3c1_0, q3f1⟩ := kC1 hb (w.heap.size + 1)
    simp [go_sem, *] at q3c1_0 q3f1
    have q3o := belO q3B
    clear hb q2o q2f1 q2c1_0 q2s1 q2f0 q2c0_6 q2c0_5 q2c0_4 q2c0_3 q2c0_2 q2c0_1 q2c0_0 q2s0 q2z q2B
    clear p0 p1 p2 p3 p4 p5 p6 p7 p8 p9
    go_wp2_with fail
    refine (amount_any w1 _ _ _ _ (w.heap.size + 1) op d _ hT HTb.out (by omega) HD.out).mono ?_
    rintro e w8 ⟨rfl, hT8, hk⟩
    have z8 := hT8.bel.size
    go_wp2_with fail
    refine (put_any w1 _ _ _ _ w8.heap.size 2 [wOpening, amtL op d] _ (hT8.alloc _) (by exact words_new rfl) (by first | (simp; done) | (simp; omega)) (by simp) (by simp) (by have := hCc.out; omega)).mono ?_; rintro e w9 ⟨rfl, hT4, hk⟩
    have hT := hT4
    clear hT4 hk hT8 z8
    have hb := hT.bel
    obtain ⟨p0, p1, p2, p3, p4, p5, p6, p7, p8, p9⟩ := HQ.out
    have q4B : Below w1.heap.size w1 w9 := qB hb
    have q4z := hb.size
    try simp at q4z
    have q4t : w1.heap.size ≤ w9.heap.size := (by omega)
    obtain ⟨q4s0, q4n0_0, q4n0_1, q4n0_2⟩ := kB w9.heap.size w.heap.size
    obtain ⟨q4c0_0, q4c0_1, q4c0_2, q4c0_3, q4c0_4, q4c0_5, q4c0_6, q4f0⟩ := kC7 hb w.heap.size
    simp [go_sem, *] at q4c0_0 q4c0_1 q4c0_2 q4c0_3 q4c0_4 q4c0_5 q4c0_6 q4f0
    obtain ⟨q4s1, q4n1_0, q4n1_1, q4n1_2⟩ := kB w9.heap.size (w.heap.size + 1)
    obtain ⟨q4c1_0, q4f1⟩ := kC1 hb (w.heap.size + 1)
    simp [go_sem, *] at q4c1_0 q4f1
    have q4o := belO q4B
    clear hb q3o q3f1 q3c1_0 q3s1 q3f0 q3c0_6 q3c0_5 q3c0_4 q3c0_3 q3c0_2 q3c0_1 q3c0_0 q3s0 q3z q3B
    clear p0 p1 p2 p3 p4 p5 p6 p7 p8 p9
    go_wp2_with fail
    go_loopw [54] (fun v wr => TxLo P (headL ac no f t op d) d (false || !mnB op d) ln w1 w1.heap.size (w1.heap.size + 1) v wr) (fun v _ => ln - (intOf v).toNat)
    case atStart => exact ⟨0, by omega, rfl, by have := hT; simpa [badL, linesL, headL] using this⟩
    case round =>
     obtain ⟨k, hk, rfl, hT⟩ := hrel
     have hb := hT.bel
     obtain ⟨p0, p1, p2, p3, p4, p5, p6, p7, p8, p9⟩ := HQ.out
     have q5B : Below w1.heap.size w1 wr := qB hb
     have q5z := hb.size
     try simp at q5z
     have q5t : w1.heap.size ≤ wr.heap.size := (by omega)
     obtain ⟨q5s0, q5n0_0, q5n0_1, q5n0_2⟩ := kB wr.heap.size w.heap.size
     obtain ⟨q5c0_0, q5c0_1, q5c0_2, q5c0_3, q5c0_4, q5c0_5, q5c0_6, q5f0⟩ := kC7 hb w.heap.size
     simp [go_sem, *] at q5c0_0 q5c0_1 q5c0_2 q5c0_3 q5c0_4 q5c0_5 q5c0_6 q5f0
     obtain ⟨q5s1, q5n1_0, q5n1_1, q5n1_2⟩ := kB wr.heap.size (w.heap.size + 1)
     obtain ⟨q5c1_0, q5f1⟩ := kC1 hb (w.heap.size + 1)
     simp [go_sem, *] at q5c1_0 q5f1
     have q5o := belO q5B
     clear hb q4o q4f1 q4c1_0 q4s1 q4f0 q4c0_6 q4c0_5 q4c0_4 q4c0_3 q4c0_2 q4c0_1 q4c0_0 q4s0 q4z q4B
     clear p0 p1 p2 p3 p4 p5 p6 p7 p8 p9
     by_cases hlt : k < ln
     ·have hm : (k : Int) < ln := by omega
      have HK := hide hlt
      have hk0 : (0 : Int) ≤ k := by omega
      obtain ⟨b, off, rfl, hbl, c0, c1, c2, c3⟩ := (HRb.out.below hT.bel).at hlt
      clear hlt hk
      have hlt1 := hT.lt
      have hlg := heap_lt hT.bad
      have hlen := hide (show ((headL ac no f t op d) ++ linesL P d k).length + (lineL (P k) d).length ≤ 1000000 by have h1 := HL.out; have h2 := linesL_len (P := P) d (n := k) (fun i hi => HX.out i (by have := HK.out; omega)); have h3 := lineL_len d (HX.out k HK.out); have h4 := HK.out; simp only [List.length_append]; omega)
      go_wp2_with fail
      have hbx : (wr.alloc (.cells #[.int .i64 (P k).en, .int .i64 (P k).dy, .int .i64 (P k).am, .string (P k).tx] 68)).heap[wr.heap.size]? = some (.cells #[.int .i64 (P k).en, .int .i64 (P k).dy, .int .i64 (P k).am, .string (P k).tx] 68 (0, 0)) := Go.Deep.blk_alloc_new _ _
      have hLx : ∀ x ∈ [wr.heap.size], x ≠ w1.heap.size ∧ x ≠ w1.heap.size + 1 ∧ ∃ c ty fz, (wr.alloc (.cells #[.int .i64 (P k).en, .int .i64 (P k).dy, .int .i64 (P k).am, .string (P k).tx] 68)).drew.heap[x]? = some (.cells c ty fz) ∧ ty ≠ 5 := fun x hx => by (obtain rfl : x = wr.heap.size := (by simpa using hx)); exact ⟨by omega, by omega, _, _, _, hbx, by decide⟩
      have hT := (hT.alloc (.cells #[.int .i64 (P k).en, .int .i64 (P k).dy, .int .i64 (P k).am, .string (P k).tx] 68)).drew
      refine ord_start (SC (w1.heap.size) [wr.heap.size] _) 12 (preB 0 12) (by kernel_rfl) (by kernel_rfl) (by kernel_rfl) SC.refl.drew (fun hHeld => ?_)
      refine oT (i := 0) (preB 1 11) ?_ rfl hHeld (fun wx hSx => ?_) ?_
      rotate_left
      ·(have hSx := SC.cell hSx; go_simp; (try with_reducible rfl))
      (try simp only [Act.put, putS])
      refine oT (i := 1) (preB 2 10) ?_ rfl hHeld (fun wx hSx => ?_) ?_
      rotate_left
      ·(have hSx := SC.cell hSx; go_simp; (try with_reducible rfl))
      (try simp only [Act.put, putS])
      refine oT (i := 2) (preB 3 9) ?_ rfl hHeld (fun wx hSx => ?_) ?_
      rotate_left
      ·(have hSx := SC.cell hSx; go_simp; (try with_reducible rfl))
      (try simp only [Act.put, putS])
      refine oT (i := 4) #[true, true, true, false, true, false, false, false, false, false, false, false] ?_ rfl hHeld (fun wx hSx => ?_) ?_
      rotate_left
      ·(have hSx := SC.cell hSx; go_simp; (try with_reducible rfl))
      (try simp only [Act.put, putS])
      refine oT (i := 5) #[true, true, true, false, true, true, false, false, false, false, false, false] ?_ rfl hHeld (fun wx hSx => ?_) ?_
      rotate_left
      ·(have hSx := SC.cell hSx; go_simp; (try with_reducible rfl))
      (try simp only [Act.put, putS])
      refine oT (i := 6) #[true, true, true, false, true, true, true, false, false, false, false, false] ?_ rfl hHeld (fun wx hSx => ?_) ?_
      rotate_left
      ·(have hSx := SC.cell hSx; go_simp; (try with_reducible rfl))
      (try simp only [Act.put, putS])
      refine oT (i := 8) #[true, true, true, false, true, true, true, false, true, false, false, false] ?_ rfl hHeld (fun wx hSx => ?_) ?_
      rotate_left
      ·(have hSx := SC.cell hSx; go_simp; (try with_reducible rfl))
      (try simp only [Act.put, putS])
      refine oT (i := 9) #[true, true, true, false, true, true, true, false, true, true, false, false] ?_ rfl hHeld (fun wx hSx => ?_) ?_
      rotate_left
      ·(have hSx := SC.cell hSx; go_simp; (try with_reducible rfl))
      (try simp only [Act.put, putS])
      refine wpAnyH_ready (rs := [3]) (by kernel_rfl) (by simp) ?_
      refine ord_run (i := 3) #[true, true, true, true, true, true, true, false, true, true, false, false] rfl (by kernel_rfl) (by rfl) (fun K hK => ?_) AllReadyH.nil
      go_simp
      go_wp2_with (go_at_call 107; refine (format_any (P k).dy _ (hT.tab HTb.out)).mono ?_; rintro e w10 ⟨rfl, hb2⟩; have z10 := hb2.size; (try simp at z10); have hHeld := hHeld.below hb2 hT.bel.size (by simp); have hT := hT.below hb2)
      refine hK.out _ _ ?_ (fun hHeld => ?_)
      ·(repeat (first | (with_reducible exact SC.refl) | (with_reducible exact hHeld) | (with_reducible refine SC.drew ?_) | ((with_reducible refine SC.alloc ?_ ?_ ?_ _); (rotate_left); (focus (first | omega | (simp <;> omega))); (focus (first | omega | (simp <;> omega))))))
      clear hK K
      (try simp only [Act.put, putS])
      refine wpAnyH_ready (rs := [7]) (by kernel_rfl) (by simp) ?_
      refine ord_run (i := 7) (preB 10 2) rfl (by kernel_rfl) (by rfl) (fun K hK => ?_) AllReadyH.nil
      go_simp
      go_wp2_with (go_at_call 104; refine (amount_any w1 _ _ _ _ (w.heap.size + 1) (P k).am d _ hT HTb.out (by omega) HD.out).mono ?_; rintro e w11 ⟨rfl, hT8, hk⟩; have hHeld := hHeld.tx hT hT8 hk (Nat.le_refl _) hLx; have z11 : wr.heap.size < w11.heap.size := (heap_lt ((hHeld wr.heap.size (.inr (by simp))).trans hbx)); have hT := hT8; have z12 := hT.bel.size)
      refine hK.out _ _ ?_ (fun hHeld => ?_)
      ·(repeat (first | (with_reducible exact SC.refl) | (with_reducible exact hHeld) | (with_reducible refine SC.drew ?_) | ((with_reducible refine SC.alloc ?_ ?_ ?_ _); (rotate_left); (focus (first | omega | (simp <;> omega))); (focus (first | omega | (simp <;> omega))))))
      clear hK K
      (try simp only [Act.put, putS])
      refine wpAnyH_ready (rs := [10]) (by kernel_rfl) (by simp) ?_
      refine ord_run (i := 10) (preB 11 1) rfl (by kernel_rfl) (by rfl) (fun K hK => ?_) AllReadyH.nil
      go_simp
      refine hK.out _ _ ?_ (fun hHeld => ?_)
      ·(repeat (first | (with_reducible exact SC.refl) | (with_reducible exact hHeld) | (with_reducible refine SC.drew ?_) | ((with_reducible refine SC.alloc ?_ ?_ ?_ _); (rotate_left); (focus (first | omega | (simp <;> omega))); (focus (first | omega | (simp <;> omega))))))
      clear hK K
      (try simp only [Act.put, putS])
      refine wpAnyH_ready (rs := [11]) (by kernel_rfl) (by simp) ?_
      refine ord_run (i := 11) (preB 12 0) rfl (by kernel_rfl) (by rfl) (fun K hK => ?_) AllReadyH.nil
      go_simp
      go_wp2_with (go_at_call 101; refine (put_any w1 _ _ _ _ w11.heap.size 3 [fmtL (P k).dy, amtL (P k).am d, (P k).tx.data.toList] _ (hT.alloc _) (by exact words_new rfl) (by first | (simp; done) | (simp; omega)) (by simp) (by simp) (by have := hlen.out; unfold lineL at this; omega)).mono ?_; rintro e w12 ⟨rfl, hT4, hk⟩; have hHeld := hHeld.tx (hT.alloc _) hT4 hk (Nat.le_refl _) hLx)
      refine hK.out _ _ ?_ (fun hHeld => ?_)
      ·(repeat (first | (with_reducible exact SC.refl) | (with_reducible exact hHeld) | (with_reducible refine SC.drew ?_) | ((with_reducible refine SC.alloc ?_ ?_ ?_ _); (rotate_left); (focus (first | omega | (simp <;> omega))); (focus (first | omega | (simp <;> omega))))))
      clear hK K
      (try simp only [Act.put, putS])
      refine wpAnyH_done (by kernel_rfl) ?_ _
      go_wp2_with fail
      go_roundw
      case rel => exact ⟨k + 1, HK.out, by go_num, by rw [show ((false || !mnB op d) || badL P d (k + 1)) = (((false || !mnB op d) || badL P d k) || !mnB (P k).am d) from by rw [show badL P d (k + 1) = (badL P d k || !mnB (P k).am d) from rfl, Bool.or_assoc, Bool.or_assoc, Bool.or_assoc], show headL ac no f t op d ++ linesL P d (k + 1) = (headL ac no f t op d ++ linesL P d k) ++ lineL (P k) d from by rw [List.append_assoc]; rfl]; exact hT4⟩
      case measure => have := HK.out; simp [intOf]; omega
     ·obtain rfl : k = ln := by omega
      clear hlt hk
      have hfin := hide (show ((headL ac no f t op d) ++ linesL P d k).length + (wJ [wClosing, amtL cl d]).length ≤ 1000000 by have h1 := HL.out; have h2 := HL2.out; simp only [List.length_append]; omega)
      go_wp2_with fail
      refine (amount_any w1 _ _ _ _ (w.heap.size + 1) cl d _ hT HTb.out (by omega) HD.out).mono ?_
      rintro e w10 ⟨rfl, hT8, hk⟩
      have z8 := hT8.bel.size
      go_wp2_with fail
      refine (put_any w1 _ _ _ _ w10.heap.size 2 [wClosing, amtL cl d] _ (hT8.alloc _) (by exact words_new rfl) (by first | (simp; done) | (simp; omega)) (by simp) (by simp) (by have := hfin.out; omega)).mono ?_; rintro e w11 ⟨rfl, hT4, hk⟩
      have hB2 := hide hT4.bel
      have hcb := cell_of_one hT4.bad
      have H4 := hide hT4
      clear hT4 hk hT8 z8 hT
      cases hbad : (((false || !mnB op d) || badL P d k) || !mnB cl d) with
      | true =>
       rw [hbad] at hcb
       have HE := hide (txt_bad (d := d) HC.out (show badS op cl P k d = true from by unfold badS; simpa using hbad))
       clear hbad
       go_wp2_with fail
       refine bodyPost_ret (by simp [results, Tryz.results51, go_sem, *] <;> rfl) rfl ⟨?_, ?_⟩
       ·rw [HE.out.1, HE.out.2]
       ·exact H1.out.trans (hB2.out.mono (by omega))
      | false =>
       rw [hbad] at hcb
       have HE := hide (txt_ok (d := d) HC.out (show badS op cl P k d = false from by unfold badS; simpa using hbad))
       clear hbad
       go_wp2_with fail
       refine (Tryz.Builder_String_any_k w1.heap.size w1.heap.size _ _ H4.out.bld (Nat.le_of_lt H4.out.lt)).mono ?_
       rintro e w12 ⟨rfl, _, hb12, _⟩
       go_wp2_with fail
       refine bodyPost_ret (by simp [results, Tryz.results51, go_sem, *] <;> rfl) rfl ⟨?_, ?_⟩
       ·rw [HE.out.1, HE.out.2]; simp only [txtL, List.append_assoc]
       ·exact H1.out.trans ((hB2.out.trans hb12).mono (by omega))
 ·have HE := hide (txt_err (d := d) hc)
  have h1 : (chkS ac no f t op cl P ln != 0) = true := by simpa using hc
  clear hc
  go_wp2_with fail
  refine bodyPost_ret (by simp [results, Tryz.results51, go_sem, *] <;> rfl) rfl ⟨?_, ?_⟩
  ·rw [HE.out.1, HE.out.2]
  ·(repeat (first | (with_reducible first | exact Below.refl _ _ | assumption | refine Below.drew ?_) | ((with_reducible first | refine Below.alloc ?_ ?_ _ | refine Below.setCell ?_ ?_ _); rotate_left; (first | omega | (simp <;> omega)))))
end Go.Proofs.YtpghciiifnjimaaGreatDoor
