/- Contracts of package date and its reference, 1: years and months. -/
import Derived.Test.YtodfpfbcjiganaaDoorDaM
import Derived.Test.YtodfpfbcjiganaaDoorNum
import Derived.Test.YtodfpfbcjiganaaDoorProg
import Derived.KernelRfl
import Derived.WalkSpells
import Derived.WalkLawsBesides
namespace Go.Proofs.YtodfpfbcjiganaaDoor
set_option linter.unusedSimpArgs false
set_option linter.unusedVariables false
open Go.RowKit

theorem valid_any (day : Int) (w : World) :
    Calls Tryd.prog 24 #[.int .i64 day] w fun e w' => e = .returned (.bool (vday day)) ∧ w = w' := by
  by_cases h1 : 0 ≤ day
  · by_cases h2 : day ≤ 73048
    · have HD := hide (show vday day = true from decide_eq_true ⟨h1, h2⟩)
      go_enter Tryd.func24, Tryd.ntmps24
      go_wp2_with fail
      go_ret
      exact ⟨by rw [HD.out]; rfl, rfl⟩
    · have HD := hide (show vday day = false from decide_eq_false (fun h => h2 h.2))
      go_enter Tryd.func24, Tryd.ntmps24
      go_wp2_with fail
      go_ret
      exact ⟨by rw [HD.out]; rfl, rfl⟩
  · have HD := hide (show vday day = false from decide_eq_false (fun h => h1 h.1))
    go_enter Tryd.func24, Tryd.ntmps24
    go_wp2_with fail
    go_ret
    exact ⟨by rw [HD.out]; rfl, rfl⟩
theorem leap_any (y : Int) (w : World) :
    Calls Tryd.prog 69 #[.int .i64 y] w fun e w' => e = .returned (.bool (lpB y)) ∧ w = w' := by
  cases h4 : (y.tmod 4 == 0) with
  | false =>
    have HD := hide (show lpB y = false by unfold lpB; rw [h4]; rfl)
    go_enter Tryd.func69, Tryd.ntmps69
    go_wp2_with fail
    go_ret
    exact ⟨by rw [HD.out]; rfl, rfl⟩
  | true =>
    cases h100 : (y.tmod 100 == 0) with
    | false =>
      have HD := hide (show lpB y = true by unfold lpB; rw [h4, h100]; rfl)
      have hn : (y.tmod 100 != 0) = true := by unfold bne; rw [h100]; rfl
      go_enter Tryd.func69, Tryd.ntmps69
      go_wp2_with fail
      go_ret
      exact ⟨by rw [HD.out]; rfl, rfl⟩
    | true =>
      have hn : (y.tmod 100 != 0) = false := by unfold bne; rw [h100]; rfl
      cases h400 : (y.tmod 400 == 0) with
      | false =>
        have HD := hide (show lpB y = false by unfold lpB; rw [h4, h100, h400]; rfl)
        go_enter Tryd.func69, Tryd.ntmps69
        go_wp2_with fail
        go_ret
        exact ⟨by rw [HD.out]; rfl, rfl⟩
      | true =>
        have HD := hide (show lpB y = true by unfold lpB; rw [h4, h100, h400]; rfl)
        go_enter Tryd.func69, Tryd.ntmps69
        go_wp2_with fail
        go_ret
        exact ⟨by rw [HD.out]; rfl, rfl⟩
theorem rvalid_any (day : Int) (w : World) :
    Calls Tryd.prog 26 #[.int .i64 day] w fun e w' => e = .returned (.bool (vday day)) ∧ w = w' := by
  by_cases h1 : 0 ≤ day
  · by_cases h2 : day ≤ 73048
    · have HD := hide (show vday day = true from decide_eq_true ⟨h1, h2⟩)
      go_enter Tryd.func26, Tryd.ntmps26
      go_wp2_with fail
      go_ret
      exact ⟨by rw [HD.out]; rfl, rfl⟩
    · have HD := hide (show vday day = false from decide_eq_false (fun h => h2 h.2))
      go_enter Tryd.func26, Tryd.ntmps26
      go_wp2_with fail
      go_ret
      exact ⟨by rw [HD.out]; rfl, rfl⟩
  · have HD := hide (show vday day = false from decide_eq_false (fun h => h1 h.1))
    go_enter Tryd.func26, Tryd.ntmps26
    go_wp2_with fail
    go_ret
    exact ⟨by rw [HD.out]; rfl, rfl⟩
theorem rleap_any (y : Int) (w : World) :
    Calls Tryd.prog 70 #[.int .i64 y] w fun e w' => e = .returned (.bool (lpB y)) ∧ w = w' := by
  cases h4 : (y.tmod 4 == 0) with
  | false =>
    have HD := hide (show lpB y = false by unfold lpB; rw [h4]; rfl)
    go_enter Tryd.func70, Tryd.ntmps70
    go_wp2_with fail
    go_ret
    exact ⟨by rw [HD.out]; rfl, rfl⟩
  | true =>
    cases h100 : (y.tmod 100 == 0) with
    | false =>
      have HD := hide (show lpB y = true by unfold lpB; rw [h4, h100]; rfl)
      have hn : (y.tmod 100 != 0) = true := by unfold bne; rw [h100]; rfl
      go_enter Tryd.func70, Tryd.ntmps70
      go_wp2_with fail
      go_ret
      exact ⟨by rw [HD.out]; rfl, rfl⟩
    | true =>
      have hn : (y.tmod 100 != 0) = false := by unfold bne; rw [h100]; rfl
      cases h400 : (y.tmod 400 == 0) with
      | false =>
        have HD := hide (show lpB y = false by unfold lpB; rw [h4, h100, h400]; rfl)
        go_enter Tryd.func70, Tryd.ntmps70
        go_wp2_with fail
        go_ret
        exact ⟨by rw [HD.out]; rfl, rfl⟩
      | true =>
        have HD := hide (show lpB y = true by unfold lpB; rw [h4, h100, h400]; rfl)
        go_enter Tryd.func70, Tryd.ntmps70
        go_wp2_with fail
        go_ret
        exact ⟨by rw [HD.out]; rfl, rfl⟩
set_option maxHeartbeats 2000000 in
theorem length_any (y m : Int) (h1 : 1 ≤ m) (h2 : m ≤ 12) (w : World) :
    Calls Tryd.prog 61 #[.int .i64 y, .int .i64 m] w fun e w' => e = .returned (.int .i64 (mlen y m)) ∧ Below w.heap.size w w' := by
  by_cases hm : m = 2
  · subst hm
    cases hl : lpB y with
    | true =>
      have HL := hide hl
      have HM := hide (show mlen y 2 = 29 by unfold mlen; rw [if_pos rfl, lp_yes hl]; rfl)
      clear hl
      go_enter Tryd.func61, Tryd.ntmps61
      go_wp2_with fail
      refine (leap_any y _).mono ?_
      rintro e w1 ⟨rfl, rfl⟩
      rw [HL.out]
      go_wp2_with fail
      go_ret
      exact ⟨by rw [HM.out]; rfl, by (repeat (first | (with_reducible exact Below.refl _ _) | (with_reducible assumption) | ((with_reducible refine Below.alloc ?_ ?_ _); (rotate_left); (first | omega | (simp <;> omega))) | ((with_reducible refine Below.setCell ?_ ?_ _); (rotate_left); (first | omega | (simp <;> omega))) | (with_reducible refine Below.drew ?_) | (with_reducible refine below_drewN ?_ _)))⟩
    | false =>
      have HL := hide hl
      have HM := hide (show mlen y 2 = 28 by unfold mlen; rw [if_pos rfl, lp_no hl]; rfl)
      clear hl
      go_enter Tryd.func61, Tryd.ntmps61
      go_wp2_with fail
      refine (leap_any y _).mono ?_
      rintro e w1 ⟨rfl, rfl⟩
      rw [HL.out]
      go_wp2_with fail
      go_ret
      exact ⟨by rw [HM.out]; rfl, by (repeat (first | (with_reducible exact Below.refl _ _) | (with_reducible assumption) | ((with_reducible refine Below.alloc ?_ ?_ _); (rotate_left); (first | omega | (simp <;> omega))) | ((with_reducible refine Below.setCell ?_ ?_ _); (rotate_left); (first | omega | (simp <;> omega))) | (with_reducible refine Below.drew ?_) | (with_reducible refine below_drewN ?_ _)))⟩
  · rcases month_cases h1 h2 with rfl | rfl | rfl | rfl | rfl | rfl | rfl | rfl | rfl | rfl | rfl | rfl
    case inr.inl => exact absurd rfl hm
    all_goals
      go_enter Tryd.func61, Tryd.ntmps61
      go_wp2_with fail
      go_ret
      exact ⟨rfl, by (repeat (first | (with_reducible exact Below.refl _ _) | (with_reducible assumption) | ((with_reducible refine Below.alloc ?_ ?_ _); (rotate_left); (first | omega | (simp <;> omega))) | ((with_reducible refine Below.setCell ?_ ?_ _); (rotate_left); (first | omega | (simp <;> omega))) | (with_reducible refine Below.drew ?_) | (with_reducible refine below_drewN ?_ _)))⟩
set_option maxHeartbeats 2000000 in
theorem rlength_any (y m : Int) (w : World) :
    Calls Tryd.prog 63 #[.int .i64 y, .int .i64 m] w fun e w' => e = .returned (.int .i64 (mlen y m)) ∧ w = w' := by
  by_cases hr : 1 ≤ m ∧ m ≤ 12
  · obtain ⟨h1, h2⟩ := hr
    by_cases hm : m = 2
    · subst hm
      cases hl : lpB y with
      | true =>
        have HL := hide hl
        have HM := hide (show mlen y 2 = 29 by unfold mlen; rw [if_pos rfl, lp_yes hl]; rfl)
        clear hl
        go_enter Tryd.func63, Tryd.ntmps63
        go_wp2_with fail
        refine (rleap_any y _).mono ?_
        rintro e w1 ⟨rfl, rfl⟩
        rw [HL.out]
        go_wp2_with fail
        go_ret
        exact ⟨by rw [HM.out]; rfl, rfl⟩
      | false =>
        have HL := hide hl
        have HM := hide (show mlen y 2 = 28 by unfold mlen; rw [if_pos rfl, lp_no hl]; rfl)
        clear hl
        go_enter Tryd.func63, Tryd.ntmps63
        go_wp2_with fail
        refine (rleap_any y _).mono ?_
        rintro e w1 ⟨rfl, rfl⟩
        rw [HL.out]
        go_wp2_with fail
        go_ret
        exact ⟨by rw [HM.out]; rfl, rfl⟩
    · rcases month_cases h1 h2 with rfl | rfl | rfl | rfl | rfl | rfl | rfl | rfl | rfl | rfl | rfl | rfl
      case inr.inl => exact absurd rfl hm
      all_goals
        go_enter Tryd.func63, Tryd.ntmps63
        go_wp2_with fail
        go_ret
        exact ⟨rfl, rfl⟩
  · have HM := hide (mlen_out y hr)
    have n1 : (m == 1) = false := beq_eq_false_iff_ne.2 (by omega)
    have n2 : (m == 2) = false := beq_eq_false_iff_ne.2 (by omega)
    have n3 : (m == 3) = false := beq_eq_false_iff_ne.2 (by omega)
    have n4 : (m == 4) = false := beq_eq_false_iff_ne.2 (by omega)
    have n5 : (m == 5) = false := beq_eq_false_iff_ne.2 (by omega)
    have n6 : (m == 6) = false := beq_eq_false_iff_ne.2 (by omega)
    have n7 : (m == 7) = false := beq_eq_false_iff_ne.2 (by omega)
    have n8 : (m == 8) = false := beq_eq_false_iff_ne.2 (by omega)
    have n9 : (m == 9) = false := beq_eq_false_iff_ne.2 (by omega)
    have n10 : (m == 10) = false := beq_eq_false_iff_ne.2 (by omega)
    have n11 : (m == 11) = false := beq_eq_false_iff_ne.2 (by omega)
    have n12 : (m == 12) = false := beq_eq_false_iff_ne.2 (by omega)
    clear hr
    go_enter Tryd.func63, Tryd.ntmps63
    go_wp2_with fail
    go_ret
    exact ⟨by rw [HM.out]; rfl, rfl⟩
theorem ylen_any (y : Int) (w : World) :
    Calls Tryd.prog 62 #[.int .i64 y] w fun e w' => e = .returned (.int .i64 (365 + lp y)) ∧ w = w' := by
  cases hl : lpB y with
  | true =>
    have HL := hide hl
    have HM := hide (lp_yes hl)
    clear hl
    go_enter Tryd.func62, Tryd.ntmps62
    go_wp2_with fail
    refine (rleap_any y _).mono ?_
    rintro e w1 ⟨rfl, rfl⟩
    rw [HL.out]
    go_wp2_with fail
    go_ret
    exact ⟨by rw [HM.out]; rfl, rfl⟩
  | false =>
    have HL := hide hl
    have HM := hide (lp_no hl)
    clear hl
    go_enter Tryd.func62, Tryd.ntmps62
    go_wp2_with fail
    refine (rleap_any y _).mono ?_
    rintro e w1 ⟨rfl, rfl⟩
    rw [HL.out]
    go_wp2_with fail
    go_ret
    exact ⟨by rw [HM.out]; rfl, rfl⟩
theorem begin_any (y : Int) (h1 : 2000 ≤ y) (h2 : y ≤ 2200) (w : World) :
    Calls Tryd.prog 60 #[.int .i64 y] w fun e w' => e = .returned (.int .i64 (dby y)) ∧ w = w' := by
  by_cases hy : y > 2100
  · have HD := hide (show dby y = 365 * (y - 2000) + ((y - 2000 + 3) / 4 - 1) by unfold dby; rw [if_pos hy]; omega)
    go_enter Tryd.func60, Tryd.ntmps60
    go_wp2_with fail
    go_ret
    exact ⟨by rw [HD.out]; rfl, rfl⟩
  · have HD := hide (show dby y = 365 * (y - 2000) + (y - 2000 + 3) / 4 by unfold dby; rw [if_neg hy]; omega)
    go_enter Tryd.func60, Tryd.ntmps60
    go_wp2_with fail
    go_ret
    exact ⟨by rw [HD.out]; rfl, rfl⟩
end Go.Proofs.YtodfpfbcjiganaaDoor
