/- The walks of the Date laws, 1: the chapter's examples, civil dates, days, months, texts. -/
import Derived.Test.YtoilodkklcfbiaaDoorDaG
namespace Go.Proofs.YtoilodkklcfbiaaDoor
open Go.RowKit

theorem civ_0 : cY 0 = 2000 ∧ cM 0 = 1 ∧ cD 0 = 1 := civ_of (by unfold CivIs; decide : CivIs 0 2000 1 1)
theorem civ_30 : cY 30 = 2000 ∧ cM 30 = 1 ∧ cD 30 = 31 := civ_of (by unfold CivIs; decide : CivIs 30 2000 1 31)
theorem civ_59 : cY 59 = 2000 ∧ cM 59 = 2 ∧ cD 59 = 29 := civ_of (by unfold CivIs; decide : CivIs 59 2000 2 29)
theorem am_live : amV 30 1 31 = 59 ∧ amE 30 1 31 = 0 := by
  have hm : amMo 30 1 = 24001 := by unfold amMo; rw [civ_30.1, civ_30.2.1]; rfl
  have hb : amB 30 1 31 = true := by unfold amB; rw [hm]; decide
  unfold amV amE amY amM amD amM amY
  rw [hb, hm]
  decide
theorem me_live : meR 0 = 30 := by unfold meR; rw [civ_0.1, civ_0.2.1, civ_0.2.2]; decide
theorem fmt_live : fmtL 59 = [50, 48, 48, 48, 45, 48, 50, 45, 50, 57] := by unfold fmtL; rw [civ_59.1, civ_59.2.1, civ_59.2.2]; decide +kernel
theorem pr_live : prV [50, 49, 57, 57, 45, 49, 50, 45, 51, 49] = 73048 ∧ prE [50, 49, 57, 57, 45, 49, 50, 45, 51, 49] = 0 ∧ prV [50, 48, 48, 48, 45, 49, 45, 49] = 0 ∧ prE [50, 48, 48, 48, 45, 49, 45, 49] = 2 := by decide +kernel
set_option maxHeartbeats 2000000 in
theorem live_any (w : World) (ht : Tab w) :
    Calls Tryd.prog 21 #[] w fun e w' => e = .returned (.bool true) ∧ Below w.heap.size w w' := by
  go_enter Tryd.func21, Tryd.ntmps21
  go_wp2_with fail
  refine (civil_any 0 _).mono ?_
  rintro e w1 ⟨rfl, hb1⟩
  rw [civ_0.1, civ_0.2.1, civ_0.2.2]
  go_wp2_with fail
  refine (addm_any 30 1 31 _).mono ?_
  rintro e w2 ⟨rfl, hb2⟩
  rw [am_live.1, am_live.2]
  have b2 := hb1.trans (hb2.mono hb1.size)
  go_wp2_with fail
  refine (day_any 2001 2 29 (by decide) (by decide) _).mono ?_
  rintro e w3 ⟨rfl, hb3⟩
  rw [show dyV 2001 2 29 = 0 by decide, show dyE 2001 2 29 = 1 by decide]
  have b3 := b2.trans (hb3.mono b2.size)
  go_wp2_with fail
  refine (parse_any [50, 49, 57, 57, 45, 49, 50, 45, 51, 49] _).mono ?_
  rintro e w4 ⟨rfl, hb4⟩
  rw [pr_live.1, pr_live.2.1]
  have b4 := b3.trans (hb4.mono b3.size)
  go_wp2_with fail
  refine (parse_any [50, 48, 48, 48, 45, 49, 45, 49] _).mono ?_
  rintro e w5 ⟨rfl, hb5⟩
  rw [pr_live.2.2.1, pr_live.2.2.2]
  have b5 := b4.trans (hb5.mono b4.size)
  go_wp2_with fail
  refine (weekday_any 0 _).mono ?_
  rintro e w6 ⟨rfl, hb6⟩
  rw [show wdR 0 = 5 by decide]
  have b6 := b5.trans (hb6.mono b5.size)
  go_wp2_with fail
  refine (format_any 59 _ (ht.below b6)).mono ?_
  rintro e w7 ⟨rfl, hb7⟩
  rw [fmt_live]
  have b7 := b6.trans (hb7.mono b6.size)
  go_wp2_with fail
  refine (mend_any 0 _).mono ?_
  rintro e w8 ⟨rfl, hb8⟩
  rw [me_live]
  have b8 := b7.trans (hb8.mono b7.size)
  go_wp2_with fail
  refine (leap_any 2000 _).mono ?_
  rintro e w9 ⟨rfl, rfl⟩
  rw [show lpB 2000 = true by decide]
  go_wp2_with fail
  refine (leap_any 2100 _).mono ?_
  rintro e w9 ⟨rfl, rfl⟩
  rw [show lpB 2100 = false by decide]
  go_wp2_with fail
  go_ret
  exact ⟨rfl, b8⟩
set_option maxHeartbeats 1000000 in
theorem walk_civils (day year : Int) (w : World) (ht : Tab w) :
    Calls Tryd.prog 3 #[.int .i64 day, .int .i64 year] w fun e w' => e = .returned (.bool true) ∧ Below w.heap.size w w' := by
  go_enter Tryd.func3, Tryd.ntmps3
  go_wp2_with fail
  refine (civil_any day _).mono ?_
  rintro e w1 ⟨rfl, hb1⟩
  go_wp2_with fail
  refine (rcivil_any day _).mono ?_
  rintro e w2 ⟨rfl, hb2⟩
  have b2 := hb1.trans (hb2.mono hb1.size)
  go_wp2_with fail
  refine (valid_any day _).mono ?_
  rintro e w3 ⟨rfl, rfl⟩
  go_wp2_with fail
  refine (rvalid_any day _).mono ?_
  rintro e w3 ⟨rfl, rfl⟩
  go_wp2_with fail
  refine (weekday_any day _).mono ?_
  rintro e w3 ⟨rfl, hb3⟩
  have b3 := b2.trans (hb3.mono b2.size)
  go_wp2_with fail
  refine (rweekday_any day _).mono ?_
  rintro e w4 ⟨rfl, hb4⟩
  have b4 := b3.trans (hb4.mono b3.size)
  go_wp2_with fail
  refine (mend_any day _).mono ?_
  rintro e w5 ⟨rfl, hb5⟩
  have b5 := b4.trans (hb5.mono b4.size)
  go_wp2_with fail
  refine (rmend_any day _).mono ?_
  rintro e w6 ⟨rfl, hb6⟩
  have b6 := b5.trans (hb6.mono b5.size)
  go_wp2_with fail
  refine (format_any day _ (ht.below b6)).mono ?_
  rintro e w7 ⟨rfl, hb7⟩
  have b7 := b6.trans (hb7.mono b6.size)
  go_wp2_with fail
  refine (rformat_any day _).mono ?_
  rintro e w8 ⟨rfl, hb8⟩
  have b8 := b7.trans (hb8.mono b7.size)
  go_wp2_with fail
  refine (leap_any year _).mono ?_
  rintro e w9 ⟨rfl, rfl⟩
  go_wp2_with fail
  refine (rleap_any year _).mono ?_
  rintro e w9 ⟨rfl, rfl⟩
  go_wp2_with fail
  refine (live_any _ (ht.below b8)).mono ?_
  rintro e w9 ⟨rfl, hb9⟩
  go_wp2_with fail
  go_ret
  exact ⟨rfl, b8.trans (hb9.mono b8.size)⟩
theorem walk_days (y m d : Int) (d1 : -9223372036854775808 ≤ d) (d2 : d ≤ 9223372036854775807) (w : World) (ht : Tab w) :
    Calls Tryd.prog 4 #[.int .i64 y, .int .i64 m, .int .i64 d] w fun e w' => e = .returned (.bool true) ∧ Below w.heap.size w w' := by
  go_enter Tryd.func4, Tryd.ntmps4
  go_wp2_with fail
  refine (day_any y m d d1 d2 _).mono ?_
  rintro e w1 ⟨rfl, hb1⟩
  go_wp2_with fail
  refine (rday_any y m d d1 d2 _).mono ?_
  rintro e w2 ⟨rfl, hb2⟩
  have b2 := hb1.trans (hb2.mono hb1.size)
  go_wp2_with fail
  refine (live_any _ (ht.below b2)).mono ?_
  rintro e w9 ⟨rfl, hb9⟩
  go_wp2_with fail
  go_ret
  exact ⟨rfl, b2.trans (hb9.mono b2.size)⟩
theorem walk_months (day n a : Int) (w : World) (ht : Tab w) :
    Calls Tryd.prog 5 #[.int .i64 day, .int .i64 n, .int .i64 a] w fun e w' => e = .returned (.bool true) ∧ Below w.heap.size w w' := by
  go_enter Tryd.func5, Tryd.ntmps5
  go_wp2_with fail
  refine (addm_any day n a _).mono ?_
  rintro e w1 ⟨rfl, hb1⟩
  go_wp2_with fail
  refine (raddm_any day n a _).mono ?_
  rintro e w2 ⟨rfl, hb2⟩
  have b2 := hb1.trans (hb2.mono hb1.size)
  go_wp2_with fail
  refine (live_any _ (ht.below b2)).mono ?_
  rintro e w9 ⟨rfl, hb9⟩
  go_wp2_with fail
  go_ret
  exact ⟨rfl, b2.trans (hb9.mono b2.size)⟩
end Go.Proofs.YtoilodkklcfbiaaDoor
