/- Texts laid together: NaB. -/
import Derived.Test.YtdjhkhadjmndoaaGreatDoorQNuA
namespace Go.Proofs.YtdjhkhadjmndoaaGreatDoor
set_option maxRecDepth 4000
set_option linter.unusedSimpArgs false
set_option linter.unusedVariables false
open Go.RowKit
def NmI1 (s : ByteArray) (w : World) (v : Value) (wr : World) : Prop := ∃ k : Nat, (1 ≤ k ∧ k ≤ s.size) ∧ v = .int .i64 k ∧ (∀ j (h : j < s.size), j < k → okj j s[j].toNat) ∧ w = wr
theorem ne_nil {s : ByteArray} (h : 1 ≤ s.size) : (s.toList == (⟨#[]⟩ : ByteArray).toList) = false := by
  rw [Lib.toList_data, Lib.toList_data]
  have : s.data.size = s.size := rfl
  simp
  intro e
  rw [e] at this
  simp at this
  omega
set_option maxRecDepth 20000 in
set_option maxHeartbeats 2000000 in
theorem name_any (s : ByteArray) (w : World) : Calls Tryz.prog 56 #[.string s] w fun e w' => e = .returned (.bool (nameB s)) ∧ Below w.heap.size w w' := by
  by_cases h1 : 1 ≤ s.size
  · have he := ne_nil h1
    have HN := hide (show ¬ s.toList = [] by
      rw [Lib.toList_data] at he ⊢
      have q : (⟨#[]⟩ : ByteArray).toList = [] := by rw [Lib.toList_data]
      rw [q] at he
      simpa using he)
    have p0 : (0 : Int) < s.size := by omega
    have pn : 0 < s.size := h1
    by_cases h2 : (16 : Int) < s.size
    · have HF := hide (nameB_no (s := s) (fun hh => by have := hh.2.1; omega))
      go_enter Tryz.func56, Tryz.ntmps56
      go_wp2_with fail
      all_goals try (exfalso; first | exact HN.out ‹s.toList = []› | exact HN.out ‹[] = s.toList›.symm | exact HN.out (List.isEmpty_iff.1 ‹s.toList.isEmpty = true›) | omega | (rename_i hz hy; have hq := hz.2; (simp [q4] at hq) <;> fail) | (rename_i hy; (simp [q4] at hy) <;> omega) | (rename_i hz hy; (simp [q4] at hz) <;> omega) | (rename_i hh; simp at hh; omega))
      go_ret
      exact ⟨by rw [HF.out]; rfl, by (repeat (first | (with_reducible first | exact Below.refl _ _ | assumption | refine Below.drew ?_) | ((with_reducible first | refine Below.alloc ?_ ?_ _ | refine Below.setCell ?_ ?_ _); rotate_left; (first | omega | (simp <;> omega)))))⟩
    · have h2' := Int.not_lt.1 h2
      have b0 : 0 ≤ (s[0].toNat : Int) := by omega
      have b1 : (s[0].toNat : Int) ≤ 255 := by have := s[0].toNat_lt; omega
      by_cases h3 : (s[0].toNat : Int) < 97
      · have HF := hide (nm_bad (s := s) (k := 0) pn (by unfold okj; omega))
        go_enter Tryz.func56, Tryz.ntmps56
        go_wp2_with fail
        all_goals try (exfalso; first | exact HN.out ‹s.toList = []› | exact HN.out ‹[] = s.toList›.symm | exact HN.out (List.isEmpty_iff.1 ‹s.toList.isEmpty = true›) | omega | (rename_i hz hy; have hq := hz.2; (simp [q4] at hq) <;> fail) | (rename_i hy; (simp [q4] at hy) <;> omega) | (rename_i hz hy; (simp [q4] at hz) <;> omega) | (rename_i hh; simp at hh; omega))
        go_ret
        exact ⟨HF.out, by (repeat (first | (with_reducible first | exact Below.refl _ _ | assumption | refine Below.drew ?_) | ((with_reducible first | refine Below.alloc ?_ ?_ _ | refine Below.setCell ?_ ?_ _); rotate_left; (first | omega | (simp <;> omega)))))⟩
      · have h3' := Int.not_lt.1 h3
        by_cases h4 : (122 : Int) < s[0].toNat
        · have HF := hide (nm_bad (s := s) (k := 0) pn (by unfold okj; omega))
          go_enter Tryz.func56, Tryz.ntmps56
          go_wp2_with fail
          all_goals try (exfalso; first | exact HN.out ‹s.toList = []› | exact HN.out ‹[] = s.toList›.symm | exact HN.out (List.isEmpty_iff.1 ‹s.toList.isEmpty = true›) | omega | (rename_i hz hy; have hq := hz.2; (simp [q4] at hq) <;> fail) | (rename_i hy; (simp [q4] at hy) <;> omega) | (rename_i hz hy; (simp [q4] at hz) <;> omega) | (rename_i hh; simp at hh; omega))
          go_ret
          exact ⟨HF.out, by (repeat (first | (with_reducible first | exact Below.refl _ _ | assumption | refine Below.drew ?_) | ((with_reducible first | refine Below.alloc ?_ ?_ _ | refine Below.setCell ?_ ?_ _); rotate_left; (first | omega | (simp <;> omega)))))⟩
        · have h4' := Int.not_lt.1 h4
          have H1 := hide (show ∀ j (h : j < s.size), j < 1 → okj j s[j].toNat from fun j h hj => by
            obtain rfl : j = 0 := by omega
            exact .inl ⟨by omega, by omega⟩)
          go_enter Tryz.func56, Tryz.ntmps56
          go_wp2_with fail
          all_goals try (exfalso; first | exact HN.out ‹s.toList = []› | exact HN.out ‹[] = s.toList›.symm | exact HN.out (List.isEmpty_iff.1 ‹s.toList.isEmpty = true›) | omega | (rename_i hz hy; have hq := hz.2; (simp [q4] at hq) <;> fail) | (rename_i hy; (simp [q4] at hy) <;> omega) | (rename_i hz hy; (simp [q4] at hz) <;> omega) | (rename_i hh; simp at hh; omega))
          go_loopw [3] (fun v wr => NmI1 s w v wr) (fun v _ => s.size - (intOf v).toNat)
          case atStart => exact ⟨1, ⟨by omega, by omega⟩, rfl, H1.out, rfl⟩
          case round =>
            obtain ⟨k, ⟨hk1, hk⟩, rfl, ha, rfl⟩ := hrel
            have HA := hide ha
            clear h3 h3' h4 h4' b0 b1 he
            by_cases hlt : k < s.size
            · have HLT := hide hlt
              have HW := hide (show wrap64 ((k : Int) + 1) = (k : Int) + 1 by
                unfold wrap64
                omega)
              have c0 : 0 ≤ (s[k].toNat : Int) := by omega
              have c1 : (s[k].toNat : Int) ≤ 255 := by have := s[k].toNat_lt; omega
              have k1 : (k : Int) < s.size := by omega
              have k2 : (0 : Int) ≤ k := by omega
              have HC := hide (show ¬ okj k s[k].toNat → Ending.returned (.bool false) = .returned (.bool (nameB s)) from fun hb => nm_bad hlt hb)
              have HD := hide (show okj k s[k].toNat → ∀ j (h : j < s.size), j < k + 1 → okj j s[j].toNat from fun hb => okj_snoc ha hlt hb)
              clear ha
              by_cases q1 : (s[k].toNat : Int) < 48
              · have q1d := q1
                have d0 : decide ((s[k].toNat : Int) < 97) = true := by simpa using (by omega : ((s[k].toNat : Int) < 97))
                have d1 : decide ((122 : Int) < s[k].toNat) = false := by simpa using (by omega : ¬ ((122 : Int) < s[k].toNat))
                have d2 : decide ((s[k].toNat : Int) < 48) = true := by simpa using (by omega : ((s[k].toNat : Int) < 48))
                have d3 : decide ((57 : Int) < s[k].toNat) = false := by simpa using (by omega : ¬ ((57 : Int) < s[k].toNat))
                have e1 : ((s[k].toNat : Int) != 95) = true := by simp; omega
                have HZ := hide (HC.out (by unfold okj; omega))
                go_wp2_with fail
                all_goals try (exfalso; first | exact HN.out ‹s.toList = []› | exact HN.out ‹[] = s.toList›.symm | exact HN.out (List.isEmpty_iff.1 ‹s.toList.isEmpty = true›) | omega | (rename_i hz hy; have hq := hz.2; (simp [q4] at hq) <;> fail) | (rename_i hy; (simp [q4] at hy) <;> omega) | (rename_i hz hy; (simp [q4] at hz) <;> omega) | (rename_i hh; simp at hh; omega))
                go_ret
                exact ⟨HZ.out, by (repeat (first | (with_reducible first | exact Below.refl _ _ | assumption | refine Below.drew ?_) | ((with_reducible first | refine Below.alloc ?_ ?_ _ | refine Below.setCell ?_ ?_ _); rotate_left; (first | omega | (simp <;> omega)))))⟩
              · by_cases q2 : (57 : Int) < s[k].toNat
                · by_cases q3 : (s[k].toNat : Int) < 97
                  · by_cases q4 : (s[k].toNat : Int) = 95
                    · have q4d := q4
                      have d0 : decide ((s[k].toNat : Int) < 97) = true := by simpa using (by omega : ((s[k].toNat : Int) < 97))
                      have d1 : decide ((122 : Int) < s[k].toNat) = false := by simpa using (by omega : ¬ ((122 : Int) < s[k].toNat))
                      have d2 : decide ((s[k].toNat : Int) < 48) = false := by simpa using (by omega : ¬ ((s[k].toNat : Int) < 48))
                      have d3 : decide ((57 : Int) < s[k].toNat) = true := by simpa using (by omega : ((57 : Int) < s[k].toNat))
                      have e1 : ((s[k].toNat : Int) != 95) = false := by simp; omega
                      have HO := hide (HD.out (.inr ⟨by omega, .inl (by omega)⟩))
                      go_wp2_with fail
                      all_goals try (exfalso; first | exact HN.out ‹s.toList = []› | exact HN.out ‹[] = s.toList›.symm | exact HN.out (List.isEmpty_iff.1 ‹s.toList.isEmpty = true›) | omega | (rename_i hz hy; have hq := hz.2; (simp [q4] at hq) <;> fail) | (rename_i hy; (simp [q4] at hy) <;> omega) | (rename_i hz hy; (simp [q4] at hz) <;> omega) | (rename_i hh; simp at hh; omega))
                      go_roundw
                      case rel => exact ⟨k + 1, ⟨by omega, by omega⟩, by (try rw [HW.out]); simp, HO.out, rfl⟩
                      case measure => have := HLT.out; (try rw [HW.out]); simp [intOf]; omega
                    · have q4d := q4
                      have d0 : decide ((s[k].toNat : Int) < 97) = true := by simpa using (by omega : ((s[k].toNat : Int) < 97))
                      have d1 : decide ((122 : Int) < s[k].toNat) = false := by simpa using (by omega : ¬ ((122 : Int) < s[k].toNat))
                      have d2 : decide ((s[k].toNat : Int) < 48) = false := by simpa using (by omega : ¬ ((s[k].toNat : Int) < 48))
                      have d3 : decide ((57 : Int) < s[k].toNat) = true := by simpa using (by omega : ((57 : Int) < s[k].toNat))
                      have e1 : ((s[k].toNat : Int) != 95) = true := by simp; omega
                      have HZ := hide (HC.out (by unfold okj; omega))
                      go_wp2_with fail
                      all_goals try (exfalso; first | exact HN.out ‹s.toList = []› | exact HN.out ‹[] = s.toList›.symm | exact HN.out (List.isEmpty_iff.1 ‹s.toList.isEmpty = true›) | omega | (rename_i hz hy; have hq := hz.2; (simp [q4] at hq) <;> fail) | (rename_i hy; (simp [q4] at hy) <;> omega) | (rename_i hz hy; (simp [q4] at hz) <;> omega) | (rename_i hh; simp at hh; omega))
                      go_ret
                      exact ⟨HZ.out, by (repeat (first | (with_reducible first | exact Below.refl _ _ | assumption | refine Below.drew ?_) | ((with_reducible first | refine Below.alloc ?_ ?_ _ | refine Below.setCell ?_ ?_ _); rotate_left; (first | omega | (simp <;> omega)))))⟩
                  · by_cases q4 : (122 : Int) < s[k].toNat
                    · have q4d := q4
                      have d0 : decide ((s[k].toNat : Int) < 97) = false := by simpa using (by omega : ¬ ((s[k].toNat : Int) < 97))
                      have d1 : decide ((122 : Int) < s[k].toNat) = true := by simpa using (by omega : ((122 : Int) < s[k].toNat))
                      have d2 : decide ((s[k].toNat : Int) < 48) = false := by simpa using (by omega : ¬ ((s[k].toNat : Int) < 48))
                      have d3 : decide ((57 : Int) < s[k].toNat) = true := by simpa using (by omega : ((57 : Int) < s[k].toNat))
                      have e1 : ((s[k].toNat : Int) != 95) = true := by simp; omega
                      have HZ := hide (HC.out (by unfold okj; omega))
                      go_wp2_with fail
                      all_goals try (exfalso; first | exact HN.out ‹s.toList = []› | exact HN.out ‹[] = s.toList›.symm | exact HN.out (List.isEmpty_iff.1 ‹s.toList.isEmpty = true›) | omega | (rename_i hz hy; have hq := hz.2; (simp [q4] at hq) <;> fail) | (rename_i hy; (simp [q4] at hy) <;> omega) | (rename_i hz hy; (simp [q4] at hz) <;> omega) | (rename_i hh; simp at hh; omega))
                      go_ret
                      exact ⟨HZ.out, by (repeat (first | (with_reducible first | exact Below.refl _ _ | assumption | refine Below.drew ?_) | ((with_reducible first | refine Below.alloc ?_ ?_ _ | refine Below.setCell ?_ ?_ _); rotate_left; (first | omega | (simp <;> omega)))))⟩
                    · have q4d := q4
                      have d0 : decide ((s[k].toNat : Int) < 97) = false := by simpa using (by omega : ¬ ((s[k].toNat : Int) < 97))
                      have d1 : decide ((122 : Int) < s[k].toNat) = false := by simpa using (by omega : ¬ ((122 : Int) < s[k].toNat))
                      have d2 : decide ((s[k].toNat : Int) < 48) = false := by simpa using (by omega : ¬ ((s[k].toNat : Int) < 48))
                      have d3 : decide ((57 : Int) < s[k].toNat) = true := by simpa using (by omega : ((57 : Int) < s[k].toNat))
                      have e1 : ((s[k].toNat : Int) != 95) = true := by simp; omega
                      have HO := hide (HD.out (.inl ⟨by omega, by omega⟩))
                      go_wp2_with fail
                      all_goals try (exfalso; first | exact HN.out ‹s.toList = []› | exact HN.out ‹[] = s.toList›.symm | exact HN.out (List.isEmpty_iff.1 ‹s.toList.isEmpty = true›) | omega | (rename_i hz hy; have hq := hz.2; (simp [q4] at hq) <;> fail) | (rename_i hy; (simp [q4] at hy) <;> omega) | (rename_i hz hy; (simp [q4] at hz) <;> omega) | (rename_i hh; simp at hh; omega))
                      go_roundw
                      case rel => exact ⟨k + 1, ⟨by omega, by omega⟩, by (try rw [HW.out]); simp, HO.out, rfl⟩
                      case measure => have := HLT.out; (try rw [HW.out]); simp [intOf]; omega
                · have q2d := q2
                  have d0 : decide ((s[k].toNat : Int) < 97) = true := by simpa using (by omega : ((s[k].toNat : Int) < 97))
                  have d1 : decide ((122 : Int) < s[k].toNat) = false := by simpa using (by omega : ¬ ((122 : Int) < s[k].toNat))
                  have d2 : decide ((s[k].toNat : Int) < 48) = false := by simpa using (by omega : ¬ ((s[k].toNat : Int) < 48))
                  have d3 : decide ((57 : Int) < s[k].toNat) = false := by simpa using (by omega : ¬ ((57 : Int) < s[k].toNat))
                  have e1 : ((s[k].toNat : Int) != 95) = true := by simp; omega
                  have HO := hide (HD.out (.inr ⟨by omega, .inr ⟨by omega, by omega⟩⟩))
                  go_wp2_with fail
                  all_goals try (exfalso; first | exact HN.out ‹s.toList = []› | exact HN.out ‹[] = s.toList›.symm | exact HN.out (List.isEmpty_iff.1 ‹s.toList.isEmpty = true›) | omega | (rename_i hz hy; have hq := hz.2; (simp [q4] at hq) <;> fail) | (rename_i hy; (simp [q4] at hy) <;> omega) | (rename_i hz hy; (simp [q4] at hz) <;> omega) | (rename_i hh; simp at hh; omega))
                  go_roundw
                  case rel => exact ⟨k + 1, ⟨by omega, by omega⟩, by (try rw [HW.out]); simp, HO.out, rfl⟩
                  case measure => have := HLT.out; (try rw [HW.out]); simp [intOf]; omega
            · obtain rfl : k = s.size := by omega
              have hne : ¬ ((s.size : Int) < s.size) := by omega
              have HF := hide (nameB_yes (s := s) ⟨by omega, by omega, fun j h => HA.out j h h⟩)
              clear ha hk hlt
              go_wp2_with fail
              go_ret
              exact ⟨by rw [HF.out]; rfl, by (repeat (first | (with_reducible first | exact Below.refl _ _ | assumption | refine Below.drew ?_) | ((with_reducible first | refine Below.alloc ?_ ?_ _ | refine Below.setCell ?_ ?_ _); rotate_left; (first | omega | (simp <;> omega)))))⟩
  · obtain rfl : s = ⟨#[]⟩ := by
      have : s.data.size = s.size := rfl
      have h0 : s.data = #[] := Array.eq_empty_of_size_eq_zero (by omega)
      cases s
      simp at h0
      rw [h0]
    have HF := hide (nameB_no (s := ⟨#[]⟩) (fun hh => h1 hh.1))
    clear h1
    go_enter Tryz.func56, Tryz.ntmps56
    go_wp2_with fail
    go_ret
    exact ⟨by rw [HF.out]; rfl, by (repeat (first | (with_reducible first | exact Below.refl _ _ | assumption | refine Below.drew ?_) | ((with_reducible first | refine Below.alloc ?_ ?_ _ | refine Below.setCell ?_ ?_ _); rotate_left; (first | omega | (simp <;> omega)))))⟩
end Go.Proofs.YtdjhkhadjmndoaaGreatDoor
