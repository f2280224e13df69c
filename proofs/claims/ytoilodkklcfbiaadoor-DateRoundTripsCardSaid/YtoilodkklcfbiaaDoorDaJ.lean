/- The walks of the Date laws, 3: round trips. -/
import Derived.Test.YtoilodkklcfbiaaDoorDaI
namespace Go.Proofs.YtoilodkklcfbiaaDoor
open Go.RowKit

set_option maxHeartbeats 2000000 in
theorem walk_trips (day n a : Int) (n1 : -9223372036854775808 ≤ n) (n2 : n ≤ 9223372036854775807) (w : World) (ht : Tab w) :
    Calls Tryd.prog 8 #[.int .i64 day, .int .i64 n, .int .i64 a] w fun e w' => e = .returned (.bool true) ∧ Below w.heap.size w w' := by
  cases hv : vday day with
  | false =>
    have HV := hide hv
    clear hv
    go_enter Tryd.func8, Tryd.ntmps8
    go_wp2_with fail
    refine (valid_any day _).mono ?_
    rintro e w3 ⟨rfl, rfl⟩
    rw [HV.out]
    go_wp2_with fail
    refine (live_any _ ht).mono ?_
    rintro e w9 ⟨rfl, hb9⟩
    go_wp2_with fail
    go_ret
    exact ⟨rfl, hb9⟩
  | true =>
    have HV := hide hv
    have hc := civ_is hv
    obtain ⟨y1, y2, m1, m2, d1, d2'⟩ := civ_bd hv
    have ml := mlen_bd (cY day) m1 m2
    obtain ⟨k1, k2, k3⟩ := civ_dy hc
    have HD := hide (And.intro k2 k3)
    have HP := hide (fmt_pr hv)
    clear hc k1 k2 k3
    cases hb : amB day n a with
    | false =>
      have HA := hide (am_no hb)
      clear hb hv
      go_enter Tryd.func8, Tryd.ntmps8
      go_wp2_with fail
      refine (valid_any day _).mono ?_
      rintro e w3 ⟨rfl, rfl⟩
      rw [HV.out]
      go_wp2_with fail
      refine (civil_any day _).mono ?_
      rintro e w1 ⟨rfl, hb1⟩
      go_wp2_with fail
      refine (day_any _ _ _ (by omega) (by omega) _).mono ?_
      rintro e w2 ⟨rfl, hb2⟩
      rw [HD.out.1, HD.out.2]
      have b2 := hb1.trans (hb2.mono hb1.size)
      go_wp2_with fail
      refine (format_any day _ (ht.below b2)).mono ?_
      rintro e w3 ⟨rfl, hb3⟩
      have b3 := b2.trans (hb3.mono b2.size)
      go_wp2_with fail
      refine (parse_any _ _).mono ?_
      rintro e w4 ⟨rfl, hb4⟩
      rw [HP.out.1, HP.out.2]
      have b4 := b3.trans (hb4.mono b3.size)
      go_wp2_with fail
      refine (addm_any day n a _).mono ?_
      rintro e w5 ⟨rfl, hb5⟩
      rw [HA.out.1, HA.out.2]
      have b5 := b4.trans (hb5.mono b4.size)
      go_wp2_with fail
      refine (live_any _ (ht.below b5)).mono ?_
      rintro e w9 ⟨rfl, hb9⟩
      go_wp2_with fail
      go_ret
      exact ⟨rfl, b5.trans (hb9.mono b5.size)⟩
    | true =>
      have hx := (am_ok hb).1
      obtain ⟨c1, c2, c3⟩ := civ_of hx
      have HC := hide (And.intro c1 (And.intro c2 c3))
      have hxv : vday (amV day n a) = true := vday_iff.2 hx.bd
      have hxb := hx.bd
      have HE := hide (show amE day n a = 0 by unfold amE; rw [hb]; rfl)
      have hbb := hb
      unfold amB at hbb
      simp at hbb
      obtain ⟨_, g1, g2, g3, g4, g5, g6⟩ := hbb
      have HM := hide (show meR (amV day n a) = amV day n a + mlen (amY day n) (amM day n) - amD day n a by rw [me_yes hxv, c1, c2, c3])
      obtain ⟨X, hX⟩ : ∃ X, X = amV day n a := ⟨_, rfl⟩
      obtain ⟨Y, hY⟩ : ∃ Y, Y = amY day n := ⟨_, rfl⟩
      obtain ⟨M, hM⟩ : ∃ M, M = amM day n := ⟨_, rfl⟩
      obtain ⟨D, hD⟩ : ∃ D, D = amD day n a := ⟨_, rfl⟩
      have ymn : Y * 12 + M = cY day * 12 + cM day + n ∧ 2000 ≤ Y ∧ Y ≤ 2199 ∧ 1 ≤ M ∧ M ≤ 12 := by
        rw [hY, hM]; unfold amY amM; unfold amMo at *; omega
      have ml2 := mlen_bd Y (m := M) (by omega) (by omega)
      have hDm : D = min a (mlen Y M) := by rw [hD, hY, hM]; rfl
      have HS := hide ymn.1
      have hyb := ymn.2
      have hDb : 1 ≤ D ∧ D ≤ 31 := by omega
      have HDm := hide hDm
      have e1 : (Y * 12 + M == cY day * 12 + cM day + n) = true := by simpa using ymn.1
      rw [← hX] at HC HM hxb
      rw [← hY, ← hM, ← hD] at HC
      rw [← hY, ← hM, ← hD] at HM
      have HX := hide hX
      clear hb hv hx c1 c2 c3 hxv hX hY hM hD ymn hDm
      go_enter Tryd.func8, Tryd.ntmps8
      go_wp2_with fail
      refine (valid_any day _).mono ?_
      rintro e w3 ⟨rfl, rfl⟩
      rw [HV.out]
      go_wp2_with fail
      refine (civil_any day _).mono ?_
      rintro e w1 ⟨rfl, hb1⟩
      go_wp2_with fail
      refine (day_any _ _ _ (by omega) (by omega) _).mono ?_
      rintro e w2 ⟨rfl, hb2⟩
      rw [HD.out.1, HD.out.2]
      have b2 := hb1.trans (hb2.mono hb1.size)
      go_wp2_with fail
      refine (format_any day _ (ht.below b2)).mono ?_
      rintro e w3 ⟨rfl, hb3⟩
      have b3 := b2.trans (hb3.mono b2.size)
      go_wp2_with fail
      refine (parse_any _ _).mono ?_
      rintro e w4 ⟨rfl, hb4⟩
      rw [HP.out.1, HP.out.2]
      have b4 := b3.trans (hb4.mono b3.size)
      go_wp2_with fail
      refine (addm_any day n a _).mono ?_
      rintro e w5 ⟨rfl, hb5⟩
      rw [← HX.out, HE.out]
      have b5 := b4.trans (hb5.mono b4.size)
      go_wp2_with fail
      refine (civil_any X _).mono ?_
      rintro e w6 ⟨rfl, hb6⟩
      rw [HC.out.1, HC.out.2.1, HC.out.2.2]
      have b6 := b5.trans (hb6.mono b5.size)
      go_wp2_with fail
      refine (mend_any X _).mono ?_
      rintro e w7 ⟨rfl, hb7⟩
      rw [HM.out]
      have b7 := b6.trans (hb7.mono b6.size)
      by_cases hmin : a ≤ mlen Y M
      · have e2 : (D == a) = true := by have := HDm.out; simp; omega
        have e3 : D + (X + mlen Y M - D) - X = mlen Y M := by omega
        go_wp2_with fail
        all_goals first
          | (exfalso; omega)
          | (refine (live_any _ (ht.below b7)).mono ?_
             rintro e w9 ⟨rfl, hb9⟩
             go_wp2_with fail
             go_ret
             exact ⟨rfl, b7.trans (hb9.mono b7.size)⟩)
      · have e2 : (D == mlen Y M) = true := by have := HDm.out; simp; omega
        have e3 : D + (X + mlen Y M - D) - X = mlen Y M := by omega
        go_wp2_with fail
        all_goals first
          | (exfalso; omega)
          | (refine (live_any _ (ht.below b7)).mono ?_
             rintro e w9 ⟨rfl, hb9⟩
             go_wp2_with fail
             go_ret
             exact ⟨rfl, b7.trans (hb9.mono b7.size)⟩)
end Go.Proofs.YtoilodkklcfbiaaDoor
