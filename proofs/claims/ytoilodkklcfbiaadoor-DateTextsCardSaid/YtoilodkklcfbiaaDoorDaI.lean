/- The walks of the Date laws, 2: texts, steps, round trips. -/
import Derived.Test.YtoilodkklcfbiaaDoorDaH
namespace Go.Proofs.YtoilodkklcfbiaaDoor
open Go.RowKit

theorem list_cat {c0 c1 c2 c3 c4 c5 c6 c7 c8 c9 : UInt8} : [c0, c1, c2, c3] ++ [c4] ++ [c5, c6] ++ [c7] ++ [c8, c9] = [c0, c1, c2, c3, c4, c5, c6, c7, c8, c9] := rfl
/-- A text that is read is the text of its day. -/
theorem pr_fmt {l : List UInt8} (h : prE l = 0) : fmtL (prV l) = l := by
  cases hf : fmB l with
  | false => have := (pr_no hf).2; omega
  | true =>
    obtain ⟨e1, e2⟩ := pr_yes hf
    have hd : dyB (prY l) (prM l) (prD l) = true := by
      cases hb : dyB (prY l) (prM l) (prD l) with
      | true => rfl
      | false => rw [e2] at h; unfold dyE at h; rw [hb] at h; simp at h
    have hc := dyB_civ hd
    rw [← e1] at hc
    have hb := hc.bd
    have hv : vday (prV l) = true := vday_iff.2 hb
    obtain ⟨k1, k2, k3⟩ := civ_of hc
    rw [fmt_yes hv, k1, k2, k3]
    have hl : l.length = 10 := by
      rcases Nat.decEq l.length 10 with h | h
      · rw [fmB_len h] at hf; cases hf
      · exact h
    obtain ⟨c0, c1, c2, c3, c4, c5, c6, c7, c8, c9, rfl⟩ := list_ten hl
    simp only [fmB, Bool.and_eq_true, beq_iff_eq] at hf
    obtain ⟨⟨⟨⟨h4, h7⟩, a1⟩, a2⟩, a3⟩ := hf
    have n1 : (prY [c0, c1, c2, c3, c4, c5, c6, c7, c8, c9]).toNat = numL [c0, c1, c2, c3] := rfl
    have n2 : (prM [c0, c1, c2, c3, c4, c5, c6, c7, c8, c9]).toNat = numL [c5, c6] := rfl
    have n3 : (prD [c0, c1, c2, c3, c4, c5, c6, c7, c8, c9]).toNat = numL [c8, c9] := rfl
    rw [n1, n2, n3, d4_num a1, d2_num a2, d2_num a3, h4, h7]
    rfl
/-- The text of a day is read as that day. -/
theorem fmt_pr {day : Int} (h : vday day = true) : prV (fmtL day) = day ∧ prE (fmtL day) = 0 := by
  have hc := civ_is h
  obtain ⟨y1, y2, m1, m2, d1, d2'⟩ := civ_bd h
  have ml := mlen_bd (cY day) m1 m2
  obtain ⟨Y, hY⟩ : ∃ Y : Nat, cY day = Y := ⟨(cY day).toNat, by omega⟩
  obtain ⟨M, hM⟩ : ∃ M : Nat, cM day = M := ⟨(cM day).toNat, by omega⟩
  obtain ⟨D, hD⟩ : ∃ D : Nat, cD day = D := ⟨(cD day).toNat, by omega⟩
  obtain ⟨k1, k2, k3⟩ := civ_dy hc
  have e : fmtL day = [dgt (Y / 1000), dgt (Y / 100), dgt (Y / 10), dgt Y, 45, dgt (M / 10), dgt M, 45, dgt (D / 10), dgt D] := by
    rw [fmt_yes h, hY, hM, hD]; rfl
  obtain ⟨nY, aY⟩ := num_d4 (n := Y) (by omega)
  obtain ⟨nM, aM⟩ := num_d2 (n := M) (by omega)
  obtain ⟨nD, aD⟩ := num_d2 (n := D) (by omega)
  have hf : fmB (fmtL day) = true := by
    rw [e]
    simp only [fmB, Bool.and_eq_true, beq_iff_eq, true_and]
    exact ⟨⟨aY, aM⟩, aD⟩
  obtain ⟨p1, p2⟩ := pr_yes hf
  have q1 : prY (fmtL day) = cY day := by
    rw [hY, e]; show ((numL (d4 Y) : Nat) : Int) = Y; rw [nY]
  have q2 : prM (fmtL day) = cM day := by
    rw [hM, e]; show ((numL (d2 M) : Nat) : Int) = M; rw [nM]
  have q3 : prD (fmtL day) = cD day := by
    rw [hD, e]; show ((numL (d2 D) : Nat) : Int) = D; rw [nD]
  rw [p1, p2, q1, q2, q3]
  exact ⟨k2, k3⟩
set_option maxHeartbeats 1000000 in
theorem walk_texts (s : ByteArray) (w : World) (ht : Tab w) :
    Calls Tryd.prog 6 #[.string s] w fun e w' => e = .returned (.bool true) ∧ Below w.heap.size w w' := by
  obtain ⟨l, rfl⟩ : ∃ l : List UInt8, s = ⟨l.toArray⟩ := ⟨_, blist s⟩
  by_cases he : prE l = 0
  · have HF := hide (pr_fmt he)
    have HE := hide he
    clear he
    go_enter Tryd.func6, Tryd.ntmps6
    go_wp2_with fail
    refine (parse_any l _).mono ?_
    rintro e w1 ⟨rfl, hb1⟩
    rw [HE.out]
    go_wp2_with fail
    refine (rparse_any l _).mono ?_
    rintro e w2 ⟨rfl, hb2⟩
    rw [HE.out]
    have b2 := hb1.trans (hb2.mono hb1.size)
    go_wp2_with fail
    refine (format_any _ _ (ht.below b2)).mono ?_
    rintro e w3 ⟨rfl, hb3⟩
    rw [HF.out]
    have b3 := b2.trans (hb3.mono b2.size)
    go_wp2_with fail
    refine (live_any _ (ht.below b3)).mono ?_
    rintro e w9 ⟨rfl, hb9⟩
    go_wp2_with fail
    go_ret
    exact ⟨rfl, b3.trans (hb9.mono b3.size)⟩
  · have hm : (prE l != 0) = true := by simpa using he
    clear he
    go_enter Tryd.func6, Tryd.ntmps6
    go_wp2_with fail
    refine (parse_any l _).mono ?_
    rintro e w1 ⟨rfl, hb1⟩
    go_wp2_with fail
    refine (rparse_any l _).mono ?_
    rintro e w2 ⟨rfl, hb2⟩
    have b2 := hb1.trans (hb2.mono hb1.size)
    go_wp2_with fail
    refine (live_any _ (ht.below b2)).mono ?_
    rintro e w9 ⟨rfl, hb9⟩
    go_wp2_with fail
    go_ret
    exact ⟨rfl, b2.trans (hb9.mono b2.size)⟩
set_option maxHeartbeats 2000000 in
theorem walk_steps (day : Int) (i1 : -9223372036854775808 ≤ day) (i2 : day ≤ 9223372036854775807) (w : World) (ht : Tab w) :
    Calls Tryd.prog 7 #[.int .i64 day] w fun e w' => e = .returned (.bool true) ∧ Below w.heap.size w w' := by
  by_cases h0 : day < 0
  · have HV := hide (show vday day = false by unfold vday; simp; omega)
    have hm : (day == 73048) = false := beq_eq_false_iff_ne.2 (by omega)
    go_enter Tryd.func7, Tryd.ntmps7
    go_wp2_with fail
    refine (valid_any day _).mono ?_
    rintro e w3 ⟨rfl, rfl⟩
    rw [HV.out]
    go_wp2_with fail
    refine (live_any _ ht).mono ?_
    rintro e w9 ⟨rfl, hb9⟩
    go_wp2_with fail
    go_ret
    exact ⟨rfl, hb9⟩
  by_cases h1 : 73048 ≤ day
  · have HV : Hid (vday day = (day == 73048)) := hide (by
      by_cases h2 : day = 73048
      · subst h2; decide
      · rw [beq_eq_false_iff_ne.2 h2]; unfold vday; simp; omega)
    go_enter Tryd.func7, Tryd.ntmps7
    go_wp2_with fail
    refine (valid_any day _).mono ?_
    rintro e w3 ⟨rfl, rfl⟩
    rw [HV.out]
    go_wp2_with fail
    refine (live_any _ ht).mono ?_
    rintro e w9 ⟨rfl, hb9⟩
    go_wp2_with fail
    go_ret
    exact ⟨rfl, hb9⟩
  have hv : vday day = true := vday_iff.2 (by omega)
  have hv1 : vday (day + 1) = true := vday_iff.2 (by omega)
  have hc := civ_is hv
  obtain ⟨y1, y2, m1, m2, d1, d2'⟩ := civ_bd hv
  have ml := mlen_bd (cY day) m1 m2
  have HW := hide (show wdR (day + 1) = (day + 6) % 7 by rw [wd_yes hv1]; omega)
  have HW0 := hide (show wdR day = (day + 5) % 7 from wd_yes hv)
  have hw1 : (((day + 6) % 7) != ((day + 5) % 7 + 1) % 7) = false := by simp; omega
  rcases hc.next (by omega) with ⟨hd, hn⟩ | ⟨hd, hm, hn⟩ | ⟨hd, hm, hy, hn⟩
  · obtain ⟨k1, k2, k3⟩ := civ_of hn
    have HK := hide (And.intro k1 (And.intro k2 k3))
    have hme : meR day = day + mlen (cY day) (cM day) - cD day := me_yes hv
    have HM := hide hme
    have HM1 := hide (show meR (day + 1) = day + mlen (cY day) (cM day) - cD day by rw [me_yes hv1, k1, k2, k3]; omega)
    have hne : ((day + mlen (cY day) (cM day) - cD day) != day) = true := by simp; omega
    clear k1 k2 k3 hme hn hc hv hv1
    go_enter Tryd.func7, Tryd.ntmps7
    go_wp2_with fail
    refine (civil_any day _).mono ?_
    rintro e w1 ⟨rfl, hb1⟩
    go_wp2_with fail
    refine (civil_any (day + 1) _).mono ?_
    rintro e w2 ⟨rfl, hb2⟩
    rw [HK.out.1, HK.out.2.1, HK.out.2.2]
    have b2 := hb1.trans (hb2.mono hb1.size)
    go_wp2_with fail
    refine (weekday_any (day + 1) _).mono ?_
    rintro e w3 ⟨rfl, hb3⟩
    rw [HW.out]
    have b3 := b2.trans (hb3.mono b2.size)
    go_wp2_with fail
    refine (weekday_any day _).mono ?_
    rintro e w4 ⟨rfl, hb4⟩
    rw [HW0.out]
    have b4 := b3.trans (hb4.mono b3.size)
    go_wp2_with fail
    refine (mend_any day _).mono ?_
    rintro e w5 ⟨rfl, hb5⟩
    rw [HM.out]
    have b5 := b4.trans (hb5.mono b4.size)
    go_wp2_with fail
    refine (mend_any (day + 1) _).mono ?_
    rintro e w6 ⟨rfl, hb6⟩
    rw [HM1.out]
    have b6 := b5.trans (hb6.mono b5.size)
    go_wp2_with fail
    refine (mend_any day _).mono ?_
    rintro e w7 ⟨rfl, hb7⟩
    rw [HM.out]
    have b7 := b6.trans (hb7.mono b6.size)
    go_wp2_with fail
    refine (live_any _ (ht.below b7)).mono ?_
    rintro e w9 ⟨rfl, hb9⟩
    go_wp2_with fail
    go_ret
    exact ⟨rfl, b7.trans (hb9.mono b7.size)⟩
  · obtain ⟨k1, k2, k3⟩ := civ_of hn
    have HK := hide (And.intro k1 (And.intro k2 k3))
    have HM := hide (show meR day = day by rw [me_yes hv]; omega)
    have e1 : ((cM day + 1) == (cM day % 12 + 1)) = true := by simp; omega
    have e2 : (cY day == cY day + cM day / 12) = true := by simp; omega
    clear k1 k2 k3 hn hc hv hv1 hd
    go_enter Tryd.func7, Tryd.ntmps7
    go_wp2_with fail
    refine (civil_any day _).mono ?_
    rintro e w1 ⟨rfl, hb1⟩
    go_wp2_with fail
    refine (civil_any (day + 1) _).mono ?_
    rintro e w2 ⟨rfl, hb2⟩
    rw [HK.out.1, HK.out.2.1, HK.out.2.2]
    have b2 := hb1.trans (hb2.mono hb1.size)
    go_wp2_with fail
    refine (weekday_any (day + 1) _).mono ?_
    rintro e w3 ⟨rfl, hb3⟩
    rw [HW.out]
    have b3 := b2.trans (hb3.mono b2.size)
    go_wp2_with fail
    refine (weekday_any day _).mono ?_
    rintro e w4 ⟨rfl, hb4⟩
    rw [HW0.out]
    have b4 := b3.trans (hb4.mono b3.size)
    go_wp2_with fail
    refine (mend_any day _).mono ?_
    rintro e w5 ⟨rfl, hb5⟩
    rw [HM.out]
    have b5 := b4.trans (hb5.mono b4.size)
    go_wp2_with fail
    refine (live_any _ (ht.below b5)).mono ?_
    rintro e w9 ⟨rfl, hb9⟩
    go_wp2_with fail
    go_ret
    exact ⟨rfl, b5.trans (hb9.mono b5.size)⟩
  · obtain ⟨k1, k2, k3⟩ := civ_of hn
    have HK := hide (And.intro k1 (And.intro k2 k3))
    have HM := hide (show meR day = day by rw [me_yes hv]; omega)
    have e1 : ((1 : Int) == (cM day % 12 + 1)) = true := by simp; omega
    have e2 : (cY day + 1 == cY day + cM day / 12) = true := by simp; omega
    clear k1 k2 k3 hn hc hv hv1 hd hm
    go_enter Tryd.func7, Tryd.ntmps7
    go_wp2_with fail
    refine (civil_any day _).mono ?_
    rintro e w1 ⟨rfl, hb1⟩
    go_wp2_with fail
    refine (civil_any (day + 1) _).mono ?_
    rintro e w2 ⟨rfl, hb2⟩
    rw [HK.out.1, HK.out.2.1, HK.out.2.2]
    have b2 := hb1.trans (hb2.mono hb1.size)
    go_wp2_with fail
    refine (weekday_any (day + 1) _).mono ?_
    rintro e w3 ⟨rfl, hb3⟩
    rw [HW.out]
    have b3 := b2.trans (hb3.mono b2.size)
    go_wp2_with fail
    refine (weekday_any day _).mono ?_
    rintro e w4 ⟨rfl, hb4⟩
    rw [HW0.out]
    have b4 := b3.trans (hb4.mono b3.size)
    go_wp2_with fail
    refine (mend_any day _).mono ?_
    rintro e w5 ⟨rfl, hb5⟩
    rw [HM.out]
    have b5 := b4.trans (hb5.mono b4.size)
    go_wp2_with fail
    refine (live_any _ (ht.below b5)).mono ?_
    rintro e w9 ⟨rfl, hb9⟩
    go_wp2_with fail
    go_ret
    exact ⟨rfl, b5.trans (hb9.mono b5.size)⟩
end Go.Proofs.YtoilodkklcfbiaaDoor
