/- Contracts of package date and its reference, 4: weekdays, ends of months, months later. -/
import Derived.Test.YtoilodkklcfbiaaDoorDaC
namespace Go.Proofs.YtoilodkklcfbiaaDoor
open Go.RowKit

theorem wd_yes {day : Int} (h : vday day = true) : wdR day = (day + 5) % 7 := if_pos h
theorem wd_no {day : Int} (h : vday day = false) : wdR day = -1 := by unfold wdR; rw [h]; rfl
theorem me_yes {day : Int} (h : vday day = true) : meR day = day + mlen (cY day) (cM day) - cD day := if_pos h
theorem me_no {day : Int} (h : vday day = false) : meR day = -1 := by unfold meR; rw [h]; rfl
theorem civ_bd {day : Int} (h : vday day = true) : 2000 ≤ cY day ∧ cY day ≤ 2199 ∧ 1 ≤ cM day ∧ cM day ≤ 12 ∧ 1 ≤ cD day ∧ cD day ≤ mlen (cY day) (cM day) := by
  obtain ⟨a, b, c, d, e, f, _⟩ := civ_is h
  exact ⟨a, b, c, d, e, f⟩
theorem weekday_any (day : Int) (w : World) :
    Calls Tryd.prog 13 #[.int .i64 day] w fun e w' => e = .returned (.int .i64 (wdR day)) ∧ Below w.heap.size w w' := by
  cases hv : vday day with
  | false =>
    have HV := hide hv
    have HD := hide (wd_no hv)
    clear hv
    go_enter Tryd.func13, Tryd.ntmps13
    go_wp2_with fail
    refine (valid_any day _).mono ?_
    rintro e w1 ⟨rfl, rfl⟩
    rw [HV.out]
    go_wp2_with fail
    go_ret
    exact ⟨by rw [HD.out]; rfl, by (repeat (first | (with_reducible exact Below.refl _ _) | (with_reducible assumption) | ((with_reducible refine Below.alloc ?_ ?_ _); (rotate_left); (first | omega | (simp <;> omega))) | ((with_reducible refine Below.setCell ?_ ?_ _); (rotate_left); (first | omega | (simp <;> omega))) | (with_reducible refine Below.drew ?_) | (with_reducible refine below_drewN ?_ _)))⟩
  | true =>
    have HV := hide hv
    have HD := hide (wd_yes hv)
    obtain ⟨v1, v2⟩ := vday_iff.1 hv
    clear hv
    go_enter Tryd.func13, Tryd.ntmps13
    go_wp2_with fail
    refine (valid_any day _).mono ?_
    rintro e w1 ⟨rfl, rfl⟩
    rw [HV.out]
    go_wp2_with fail
    go_ret
    exact ⟨by rw [HD.out]; rfl, by (repeat (first | (with_reducible exact Below.refl _ _) | (with_reducible assumption) | ((with_reducible refine Below.alloc ?_ ?_ _); (rotate_left); (first | omega | (simp <;> omega))) | ((with_reducible refine Below.setCell ?_ ?_ _); (rotate_left); (first | omega | (simp <;> omega))) | (with_reducible refine Below.drew ?_) | (with_reducible refine below_drewN ?_ _)))⟩
set_option maxHeartbeats 1000000 in
theorem mend_any (day : Int) (w : World) :
    Calls Tryd.prog 15 #[.int .i64 day] w fun e w' => e = .returned (.int .i64 (meR day)) ∧ Below w.heap.size w w' := by
  cases hv : vday day with
  | false =>
    have HV := hide hv
    have HD := hide (me_no hv)
    clear hv
    go_enter Tryd.func15, Tryd.ntmps15
    go_wp2_with fail
    refine (valid_any day _).mono ?_
    rintro e w1 ⟨rfl, rfl⟩
    rw [HV.out]
    go_wp2_with fail
    go_ret
    exact ⟨by rw [HD.out]; rfl, by (repeat (first | (with_reducible exact Below.refl _ _) | (with_reducible assumption) | ((with_reducible refine Below.alloc ?_ ?_ _); (rotate_left); (first | omega | (simp <;> omega))) | ((with_reducible refine Below.setCell ?_ ?_ _); (rotate_left); (first | omega | (simp <;> omega))) | (with_reducible refine Below.drew ?_) | (with_reducible refine below_drewN ?_ _)))⟩
  | true =>
    have HV := hide hv
    have HD := hide (show meR day = day - cD day + mlen (cY day) (cM day) by rw [me_yes hv]; omega)
    obtain ⟨v1, v2⟩ := vday_iff.1 hv
    obtain ⟨y1, y2, m1, m2, d1, d2⟩ := civ_bd hv
    have ml := mlen_bd (cY day) m1 m2
    clear hv
    go_enter Tryd.func15, Tryd.ntmps15
    go_wp2_with fail
    refine (valid_any day _).mono ?_
    rintro e w1 ⟨rfl, rfl⟩
    rw [HV.out]
    go_wp2_with fail
    refine (civil_any day _).mono ?_
    rintro e w1 ⟨rfl, hb1⟩
    go_wp2_with fail
    refine (length_any _ _ m1 m2 _).mono ?_
    rintro e w2 ⟨rfl, hb2⟩
    go_wp2_with fail
    go_ret
    exact ⟨by rw [HD.out]; rfl, hb1.trans (hb2.mono hb1.size)⟩
set_option maxHeartbeats 1000000 in
theorem rmend_any (day : Int) (w : World) :
    Calls Tryd.prog 16 #[.int .i64 day] w fun e w' => e = .returned (.int .i64 (meR day)) ∧ Below w.heap.size w w' := by
  cases hv : vday day with
  | false =>
    have HV := hide hv
    have HD := hide (me_no hv)
    clear hv
    go_enter Tryd.func16, Tryd.ntmps16
    go_wp2_with fail
    refine (rvalid_any day _).mono ?_
    rintro e w1 ⟨rfl, rfl⟩
    rw [HV.out]
    go_wp2_with fail
    go_ret
    exact ⟨by rw [HD.out]; rfl, by (repeat (first | (with_reducible exact Below.refl _ _) | (with_reducible assumption) | ((with_reducible refine Below.alloc ?_ ?_ _); (rotate_left); (first | omega | (simp <;> omega))) | ((with_reducible refine Below.setCell ?_ ?_ _); (rotate_left); (first | omega | (simp <;> omega))) | (with_reducible refine Below.drew ?_) | (with_reducible refine below_drewN ?_ _)))⟩
  | true =>
    have HV := hide hv
    have HD := hide (me_yes hv)
    obtain ⟨v1, v2⟩ := vday_iff.1 hv
    obtain ⟨y1, y2, m1, m2, d1, d2⟩ := civ_bd hv
    have ml := mlen_bd (cY day) m1 m2
    clear hv
    go_enter Tryd.func16, Tryd.ntmps16
    go_wp2_with fail
    refine (rvalid_any day _).mono ?_
    rintro e w1 ⟨rfl, rfl⟩
    rw [HV.out]
    go_wp2_with fail
    refine (rcivil_any day _).mono ?_
    rintro e w1 ⟨rfl, hb1⟩
    go_wp2_with fail
    refine (rlength_any _ _ _).mono ?_
    rintro e w2 ⟨rfl, rfl⟩
    go_wp2_with fail
    go_ret
    exact ⟨by rw [HD.out]; rfl, hb1⟩
theorem rweekday_any (day : Int) (w : World) :
    Calls Tryd.prog 14 #[.int .i64 day] w fun e w' => e = .returned (.int .i64 (wdR day)) ∧ Below w.heap.size w w' := by
  cases hv : vday day with
  | false =>
    have HV := hide hv
    have HD := hide (wd_no hv)
    clear hv
    go_enter Tryd.func14, Tryd.ntmps14
    go_wp2_with fail
    refine (rvalid_any day _).mono ?_
    rintro e w1 ⟨rfl, rfl⟩
    rw [HV.out]
    go_wp2_with fail
    go_ret
    exact ⟨by rw [HD.out]; rfl, by (repeat (first | (with_reducible exact Below.refl _ _) | (with_reducible assumption) | ((with_reducible refine Below.alloc ?_ ?_ _); (rotate_left); (first | omega | (simp <;> omega))) | ((with_reducible refine Below.setCell ?_ ?_ _); (rotate_left); (first | omega | (simp <;> omega))) | (with_reducible refine Below.drew ?_) | (with_reducible refine below_drewN ?_ _)))⟩
  | true =>
    have HV := hide hv
    have HD := hide (wd_yes hv)
    obtain ⟨v1, v2⟩ := vday_iff.1 hv
    clear hv
    go_enter Tryd.func14, Tryd.ntmps14
    go_wp2_with fail
    refine (rvalid_any day _).mono ?_
    rintro e w1 ⟨rfl, rfl⟩
    rw [HV.out]
    go_wp2_with fail
    go_ret
    exact ⟨by rw [HD.out]; rfl, by (repeat (first | (with_reducible exact Below.refl _ _) | (with_reducible assumption) | ((with_reducible refine Below.alloc ?_ ?_ _); (rotate_left); (first | omega | (simp <;> omega))) | ((with_reducible refine Below.setCell ?_ ?_ _); (rotate_left); (first | omega | (simp <;> omega))) | (with_reducible refine Below.drew ?_) | (with_reducible refine below_drewN ?_ _)))⟩
theorem am_no {day n a : Int} (h : amB day n a = false) : amV day n a = 0 ∧ amE day n a = 1 := by unfold amV amE; rw [h]; exact ⟨rfl, rfl⟩
theorem amB_off {day n a : Int} (h : vday day = false ∨ n < -2400 ∨ 2400 < n ∨ a < 1 ∨ 31 < a ∨ amMo day n < 24000 ∨ 26400 ≤ amMo day n) : amB day n a = false := by
  cases hb : amB day n a with
  | false => rfl
  | true =>
    unfold amB at hb
    simp at hb
    obtain ⟨h0, hb⟩ := hb
    rcases h with h | h
    · rw [h0] at h; cases h
    · omega
theorem am_fin {day n a : Int} (hok : amB day n a = true) :
    (a ≤ mlen ((12 * cY day + cM day - 1 + n) / 12) ((12 * cY day + cM day - 1 + n) % 12 + 1) → amV day n a = dyV ((12 * cY day + cM day - 1 + n) / 12) ((12 * cY day + cM day - 1 + n) % 12 + 1) a ∧ amE day n a = dyE ((12 * cY day + cM day - 1 + n) / 12) ((12 * cY day + cM day - 1 + n) % 12 + 1) a) ∧
    (¬ a ≤ mlen ((12 * cY day + cM day - 1 + n) / 12) ((12 * cY day + cM day - 1 + n) % 12 + 1) → amV day n a = dyV ((12 * cY day + cM day - 1 + n) / 12) ((12 * cY day + cM day - 1 + n) % 12 + 1) (mlen ((12 * cY day + cM day - 1 + n) / 12) ((12 * cY day + cM day - 1 + n) % 12 + 1)) ∧ amE day n a = dyE ((12 * cY day + cM day - 1 + n) / 12) ((12 * cY day + cM day - 1 + n) % 12 + 1) (mlen ((12 * cY day + cM day - 1 + n) / 12) ((12 * cY day + cM day - 1 + n) % 12 + 1))) := by
  have h : amV day n a = dyV (amY day n) (amM day n) (amD day n a) ∧ amE day n a = dyE (amY day n) (amM day n) (amD day n a) := by
    rw [(am_ok hok).2]; unfold amV amE; rw [if_pos hok, if_pos hok]; exact ⟨rfl, rfl⟩
  rw [h.1, h.2]
  unfold amD amY amM amMo
  generalize mlen ((12 * cY day + cM day - 1 + n) / 12) ((12 * cY day + cM day - 1 + n) % 12 + 1) = x
  constructor
  · intro hc; rw [show min a x = a by omega]; exact ⟨rfl, rfl⟩
  · intro hc; rw [show min a x = x by omega]; exact ⟨rfl, rfl⟩
set_option maxHeartbeats 1000000 in
theorem addm_any (day n a : Int) (w : World) :
    Calls Tryd.prog 24 #[.int .i64 day, .int .i64 n, .int .i64 a] w fun e w' => e = .returned (.tuple #[.int .i64 (amV day n a), .int .i64 (amE day n a)]) ∧ Below w.heap.size w w' := by
  cases hv : vday day with
  | false =>
    have HV := hide hv
    have HD := hide (am_no (amB_off (n := n) (a := a) (.inl hv)))
    clear hv
    go_enter Tryd.func24, Tryd.ntmps24
    go_wp2_with fail
    refine (valid_any day _).mono ?_
    rintro e w1 ⟨rfl, rfl⟩
    rw [HV.out]
    go_wp2_with fail
    refine bodyPost_ret (by simp [results, Tryd.results24, go_sem, *] <;> rfl) rfl ⟨?_, ?_⟩
    · rw [HD.out.1, HD.out.2]
    (repeat (first | (with_reducible exact Below.refl _ _) | (with_reducible assumption) | ((with_reducible refine Below.alloc ?_ ?_ _); (rotate_left); (first | omega | (simp <;> omega))) | ((with_reducible refine Below.setCell ?_ ?_ _); (rotate_left); (first | omega | (simp <;> omega))) | (with_reducible refine Below.drew ?_) | (with_reducible refine below_drewN ?_ _)))
  | true =>
    have HV := hide hv
    obtain ⟨v1, v2⟩ := vday_iff.1 hv
    obtain ⟨y1, y2, m1, m2, d1, d2⟩ := civ_bd hv
    clear hv
    by_cases hn : n < -2400 ∨ 2400 < n ∨ a < 1 ∨ 31 < a
    · have HD := hide (am_no (amB_off (day := day) (n := n) (a := a) (.inr (by omega))))
      rcases hn with hn | hn | hn | hn
      all_goals
        go_enter Tryd.func24, Tryd.ntmps24
        go_wp2_with fail
        refine (valid_any day _).mono ?_
        rintro e w1 ⟨rfl, rfl⟩
        rw [HV.out]
        go_wp2_with fail
        all_goals first
          | (exfalso; omega)
          | (refine bodyPost_ret (by simp [results, Tryd.results24, go_sem, *] <;> rfl) rfl ⟨?_, ?_⟩; (· rw [HD.out.1, HD.out.2]); (· (repeat (first | (with_reducible exact Below.refl _ _) | (with_reducible assumption) | ((with_reducible refine Below.alloc ?_ ?_ _); (rotate_left); (first | omega | (simp <;> omega))) | ((with_reducible refine Below.setCell ?_ ?_ _); (rotate_left); (first | omega | (simp <;> omega))) | (with_reducible refine Below.drew ?_) | (with_reducible refine below_drewN ?_ _)))))
    · have n1 : -2400 ≤ n := by omega
      have n2 : n ≤ 2400 := by omega
      have a1 : 1 ≤ a := by omega
      have a2 : a ≤ 31 := by omega
      clear hn
      by_cases hm : 12 * cY day + cM day - 1 + n < 24000
      · have HD := hide (am_no (amB_off (day := day) (n := n) (a := a) (by unfold amMo; omega)))
        go_enter Tryd.func24, Tryd.ntmps24
        go_wp2_with fail
        refine (valid_any day _).mono ?_
        rintro e w1 ⟨rfl, rfl⟩
        rw [HV.out]
        go_wp2_with fail
        refine (civil_any day _).mono ?_
        rintro e w1 ⟨rfl, hb1⟩
        go_wp2_with fail
        refine bodyPost_ret (by simp [results, Tryd.results24, go_sem, *] <;> rfl) rfl ⟨?_, ?_⟩
        · rw [HD.out.1, HD.out.2]
        exact hb1
      · by_cases hm2 : 26400 ≤ 12 * cY day + cM day - 1 + n
        · have HD := hide (am_no (amB_off (day := day) (n := n) (a := a) (by unfold amMo; omega)))
          go_enter Tryd.func24, Tryd.ntmps24
          go_wp2_with fail
          refine (valid_any day _).mono ?_
          rintro e w1 ⟨rfl, rfl⟩
          rw [HV.out]
          go_wp2_with fail
          refine (civil_any day _).mono ?_
          rintro e w1 ⟨rfl, hb1⟩
          go_wp2_with fail
          refine bodyPost_ret (by simp [results, Tryd.results24, go_sem, *] <;> rfl) rfl ⟨?_, ?_⟩
          · rw [HD.out.1, HD.out.2]
          exact hb1
        · have hok : amB day n a = true := by unfold amB; rw [HV.out]; simp; unfold amMo; omega
          have HD0 := am_fin hok
          have m1' : 24000 ≤ 12 * cY day + cM day - 1 + n := by omega
          have m2' : 12 * cY day + cM day - 1 + n < 26400 := by omega
          have ml := mlen_bd ((12 * cY day + cM day - 1 + n) / 12) (m := (12 * cY day + cM day - 1 + n) % 12 + 1) (by omega) (by omega)
          clear hok hm hm2
          by_cases hc : a ≤ mlen ((12 * cY day + cM day - 1 + n) / 12) ((12 * cY day + cM day - 1 + n) % 12 + 1)
          · have HD := hide (HD0.1 hc)
            clear HD0
            go_enter Tryd.func24, Tryd.ntmps24
            go_wp2_with fail
            refine (valid_any day _).mono ?_
            rintro e w1 ⟨rfl, rfl⟩
            rw [HV.out]
            go_wp2_with fail
            refine (civil_any day _).mono ?_
            rintro e w1 ⟨rfl, hb1⟩
            go_wp2_with fail
            refine (length_any _ _ (by omega) (by omega) _).mono ?_
            rintro e w2 ⟨rfl, hb2⟩
            go_wp2_with fail
            refine (day_any _ _ _ (by omega) (by omega) _).mono ?_
            rintro e w3 ⟨rfl, hb3⟩
            go_wp2_with fail
            refine bodyPost_ret (by simp [results, Tryd.results24, go_sem, *] <;> rfl) rfl ⟨?_, ?_⟩
            · rw [HD.out.1, HD.out.2]
            exact (hb1.trans (hb2.mono hb1.size)).trans (hb3.mono (by have := hb1.size; have := hb2.size; omega))
          · have HD := hide (HD0.2 (by omega))
            clear HD0
            go_enter Tryd.func24, Tryd.ntmps24
            go_wp2_with fail
            refine (valid_any day _).mono ?_
            rintro e w1 ⟨rfl, rfl⟩
            rw [HV.out]
            go_wp2_with fail
            refine (civil_any day _).mono ?_
            rintro e w1 ⟨rfl, hb1⟩
            go_wp2_with fail
            refine (length_any _ _ (by omega) (by omega) _).mono ?_
            rintro e w2 ⟨rfl, hb2⟩
            go_wp2_with fail
            refine (day_any _ _ _ (by omega) (by omega) _).mono ?_
            rintro e w3 ⟨rfl, hb3⟩
            go_wp2_with fail
            refine bodyPost_ret (by simp [results, Tryd.results24, go_sem, *] <;> rfl) rfl ⟨?_, ?_⟩
            · rw [HD.out.1, HD.out.2]
            exact (hb1.trans (hb2.mono hb1.size)).trans (hb3.mono (by have := hb1.size; have := hb2.size; omega))
set_option maxHeartbeats 1000000 in
theorem raddm_any (day n a : Int) (w : World) :
    Calls Tryd.prog 25 #[.int .i64 day, .int .i64 n, .int .i64 a] w fun e w' => e = .returned (.tuple #[.int .i64 (amV day n a), .int .i64 (amE day n a)]) ∧ Below w.heap.size w w' := by
  cases hv : vday day with
  | false =>
    have HV := hide hv
    have HD := hide (am_no (amB_off (n := n) (a := a) (.inl hv)))
    clear hv
    go_enter Tryd.func25, Tryd.ntmps25
    go_wp2_with fail
    refine (rvalid_any day _).mono ?_
    rintro e w1 ⟨rfl, rfl⟩
    rw [HV.out]
    go_wp2_with fail
    refine bodyPost_ret (by simp [results, Tryd.results25, go_sem, *] <;> rfl) rfl ⟨?_, ?_⟩
    · rw [HD.out.1, HD.out.2]
    (repeat (first | (with_reducible exact Below.refl _ _) | (with_reducible assumption) | ((with_reducible refine Below.alloc ?_ ?_ _); (rotate_left); (first | omega | (simp <;> omega))) | ((with_reducible refine Below.setCell ?_ ?_ _); (rotate_left); (first | omega | (simp <;> omega))) | (with_reducible refine Below.drew ?_) | (with_reducible refine below_drewN ?_ _)))
  | true =>
    have HV := hide hv
    obtain ⟨v1, v2⟩ := vday_iff.1 hv
    obtain ⟨y1, y2, m1, m2, d1, d2⟩ := civ_bd hv
    clear hv
    by_cases hn : n < -2400 ∨ 2400 < n ∨ a < 1 ∨ 31 < a
    · have HD := hide (am_no (amB_off (day := day) (n := n) (a := a) (.inr (by omega))))
      rcases hn with hn | hn | hn | hn
      all_goals
        go_enter Tryd.func25, Tryd.ntmps25
        go_wp2_with fail
        refine (rvalid_any day _).mono ?_
        rintro e w1 ⟨rfl, rfl⟩
        rw [HV.out]
        go_wp2_with fail
        all_goals first
          | (exfalso; omega)
          | (refine bodyPost_ret (by simp [results, Tryd.results25, go_sem, *] <;> rfl) rfl ⟨?_, ?_⟩; (· rw [HD.out.1, HD.out.2]); (· (repeat (first | (with_reducible exact Below.refl _ _) | (with_reducible assumption) | ((with_reducible refine Below.alloc ?_ ?_ _); (rotate_left); (first | omega | (simp <;> omega))) | ((with_reducible refine Below.setCell ?_ ?_ _); (rotate_left); (first | omega | (simp <;> omega))) | (with_reducible refine Below.drew ?_) | (with_reducible refine below_drewN ?_ _)))))
    · have n1 : -2400 ≤ n := by omega
      have n2 : n ≤ 2400 := by omega
      have a1 : 1 ≤ a := by omega
      have a2 : a ≤ 31 := by omega
      clear hn
      by_cases hm : 12 * cY day + cM day - 1 + n < 24000
      · have HD := hide (am_no (amB_off (day := day) (n := n) (a := a) (by unfold amMo; omega)))
        go_enter Tryd.func25, Tryd.ntmps25
        go_wp2_with fail
        refine (rvalid_any day _).mono ?_
        rintro e w1 ⟨rfl, rfl⟩
        rw [HV.out]
        go_wp2_with fail
        refine (rcivil_any day _).mono ?_
        rintro e w1 ⟨rfl, hb1⟩
        go_wp2_with fail
        refine bodyPost_ret (by simp [results, Tryd.results25, go_sem, *] <;> rfl) rfl ⟨?_, ?_⟩
        · rw [HD.out.1, HD.out.2]
        exact hb1
      · by_cases hm2 : 26400 ≤ 12 * cY day + cM day - 1 + n
        · have HD := hide (am_no (amB_off (day := day) (n := n) (a := a) (by unfold amMo; omega)))
          have hbig : 2199 < (12 * cY day + cM day - 1 + n) / 12 := by omega
          have ml := mlen_bd ((12 * cY day + cM day - 1 + n) / 12) (m := (12 * cY day + cM day - 1 + n) % 12 + 1) (by omega) (by omega)
          go_enter Tryd.func25, Tryd.ntmps25
          go_wp2_with fail
          refine (rvalid_any day _).mono ?_
          rintro e w1 ⟨rfl, rfl⟩
          rw [HV.out]
          go_wp2_with fail
          refine (rcivil_any day _).mono ?_
          rintro e w1 ⟨rfl, hb1⟩
          go_wp2_with fail
          rw [Int.mul_comm (cY day) 12]
          refine (rlength_any _ _ _).mono ?_
          rintro e w2 ⟨rfl, rfl⟩
          go_wp2_with fail
          all_goals
            refine (rday_any _ _ _ (by omega) (by omega) _).mono ?_
            rintro e w3 ⟨rfl, hb3⟩
            rw [(dy_no (y := (12 * cY day + cM day - 1 + n) / 12) (by omega)).1, (dy_no (y := (12 * cY day + cM day - 1 + n) / 12) (by omega)).2]
            go_wp2_with fail
            refine bodyPost_ret (by simp [results, Tryd.results25, go_sem, *] <;> rfl) rfl ⟨?_, ?_⟩
            · rw [HD.out.1, HD.out.2]
            exact hb1.trans (hb3.mono hb1.size)
        · have hok : amB day n a = true := by unfold amB; rw [HV.out]; simp; unfold amMo; omega
          have HD0 := am_fin hok
          have m1' : 24000 ≤ 12 * cY day + cM day - 1 + n := by omega
          have m2' : 12 * cY day + cM day - 1 + n < 26400 := by omega
          have ml := mlen_bd ((12 * cY day + cM day - 1 + n) / 12) (m := (12 * cY day + cM day - 1 + n) % 12 + 1) (by omega) (by omega)
          clear hok hm
          by_cases hc : a ≤ mlen ((12 * cY day + cM day - 1 + n) / 12) ((12 * cY day + cM day - 1 + n) % 12 + 1)
          · have HD := hide (HD0.1 hc)
            clear HD0
            go_enter Tryd.func25, Tryd.ntmps25
            go_wp2_with fail
            refine (rvalid_any day _).mono ?_
            rintro e w1 ⟨rfl, rfl⟩
            rw [HV.out]
            go_wp2_with fail
            refine (rcivil_any day _).mono ?_
            rintro e w1 ⟨rfl, hb1⟩
            go_wp2_with fail
            rw [Int.mul_comm (cY day) 12]
            refine (rlength_any _ _ _).mono ?_
            rintro e w2 ⟨rfl, rfl⟩
            go_wp2_with fail
            refine (rday_any _ _ _ (by omega) (by omega) _).mono ?_
            rintro e w3 ⟨rfl, hb3⟩
            go_wp2_with fail
            refine bodyPost_ret (by simp [results, Tryd.results25, go_sem, *] <;> rfl) rfl ⟨?_, ?_⟩
            · rw [HD.out.1, HD.out.2]
            exact hb1.trans (hb3.mono hb1.size)
          · have HD := hide (HD0.2 (by omega))
            clear HD0
            go_enter Tryd.func25, Tryd.ntmps25
            go_wp2_with fail
            refine (rvalid_any day _).mono ?_
            rintro e w1 ⟨rfl, rfl⟩
            rw [HV.out]
            go_wp2_with fail
            refine (rcivil_any day _).mono ?_
            rintro e w1 ⟨rfl, hb1⟩
            go_wp2_with fail
            rw [Int.mul_comm (cY day) 12]
            refine (rlength_any _ _ _).mono ?_
            rintro e w2 ⟨rfl, rfl⟩
            go_wp2_with fail
            refine (rday_any _ _ _ (by omega) (by omega) _).mono ?_
            rintro e w3 ⟨rfl, hb3⟩
            go_wp2_with fail
            refine bodyPost_ret (by simp [results, Tryd.results25, go_sem, *] <;> rfl) rfl ⟨?_, ?_⟩
            · rw [HD.out.1, HD.out.2]
            exact hb1.trans (hb3.mono hb1.size)
end Go.Proofs.YtoilodkklcfbiaaDoor
