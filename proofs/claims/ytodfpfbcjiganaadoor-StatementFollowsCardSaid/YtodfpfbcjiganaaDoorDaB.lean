/- Contracts of package date and its reference, 2: the civil date of a day. -/
import Derived.Test.YtodfpfbcjiganaaDoorDaA
namespace Go.Proofs.YtodfpfbcjiganaaDoor
set_option linter.unusedSimpArgs false
set_option linter.unusedVariables false
open Go.RowKit

def CivRet (day : Int) (w : World) (e : Ending) (w' : World) : Prop := e = .returned (.tuple #[.int .i64 (cY day), .int .i64 (cM day), .int .i64 (cD day)]) ∧ Below w.heap.size w w'
theorem civRet_of {day y m d : Int} {w w' : World} {e : Ending} (h : CivIs day y m d) (he : e = .returned (.tuple #[.int .i64 y, .int .i64 m, .int .i64 d])) (hb : Below w.heap.size w w') : CivRet day w e w' := by
  obtain ⟨a, b, c⟩ := civ_of h
  exact ⟨by rw [he, a, b, c], hb⟩
theorem civRet_no {day : Int} {w w' : World} {e : Ending} (h : vday day = false) (he : e = .returned (.tuple #[.int .i64 0, .int .i64 0, .int .i64 0])) (hb : Below w.heap.size w w') : CivRet day w e w' := by
  obtain ⟨a, b, c⟩ := civ_not h
  exact ⟨by rw [he, a, b, c], hb⟩
def CvY (day : Int) (w : World) (v5 : Value) (wr : World) : Prop := ∃ y : Int, 2000 ≤ y ∧ y ≤ 2199 ∧ dby y ≤ day ∧ v5 = .int .i64 y ∧ Below w.heap.size w wr
def CvM (day y : Int) (w : World) (v0 v6 : Value) (wr : World) : Prop := ∃ m : Int, 1 ≤ m ∧ m ≤ 12 ∧ 0 ≤ day - dby y - cum y m ∧ v0 = .int .i64 (day - dby y - cum y m) ∧ v6 = .int .i64 m ∧ Below w.heap.size w wr
/-- The loop over the months: one more month, or the end. -/
theorem cv_month {day y m : Int} (h1 : 2000 ≤ y) (h2 : y ≤ 2199) (hd : day < dby (y + 1)) (m1 : 1 ≤ m) (m2 : m ≤ 12) (h0 : 0 ≤ day - dby y - cum y m) :
    (mlen y m ≤ day - dby y - cum y m → m < 12 ∧ 0 ≤ day - dby y - cum y (m + 1) ∧ day - dby y - cum y m - mlen y m = day - dby y - cum y (m + 1)) ∧ (¬ mlen y m ≤ day - dby y - cum y m → CivIs day y m (day - dby y - cum y m + 1)) := by
  have e := cum_succ y m1 m2
  rw [dby_succ h1 h2] at hd
  constructor
  · intro h
    have : m < 12 := by
      rcases Int.lt_or_le m 12 with c | c
      · exact c
      · obtain rfl : m = 12 := by omega
        have e2 : cum y (12 + 1) = 365 + lp y := rfl
        omega
    omega
  · intro h
    exact ⟨h1, h2, m1, m2, by omega, by omega, by omega⟩
set_option maxHeartbeats 1000000 in
theorem civil_any (day : Int) (w : World) : Calls Tryd.prog 48 #[.int .i64 day] w (CivRet day w) := by
  cases hv : vday day with
  | false =>
    have HV := hide hv
    clear hv
    go_enter Tryd.func48, Tryd.ntmps48
    go_wp2_with fail
    refine (valid_any day _).mono ?_
    rintro e w1 ⟨rfl, rfl⟩
    rw [HV.out]
    go_wp2_with fail
    refine bodyPost_ret (by simp [results, Tryd.results48, go_sem, *] <;> rfl) rfl ⟨?_, ?_⟩
    · obtain ⟨a, b, c⟩ := civ_not HV.out
      rw [a, b, c]
    (repeat (first | (with_reducible exact Below.refl _ _) | (with_reducible assumption) | ((with_reducible refine Below.alloc ?_ ?_ _); (rotate_left); (first | omega | (simp <;> omega))) | ((with_reducible refine Below.setCell ?_ ?_ _); (rotate_left); (first | omega | (simp <;> omega))) | (with_reducible refine Below.drew ?_) | (with_reducible refine below_drewN ?_ _)))
  | true =>
    have HV := hide hv
    obtain ⟨v1, v2⟩ := vday_iff.1 hv
    have y1 : 2000 + day / 366 ≤ 2199 := by omega
    have y2 : dby (2000 + day / 366) ≤ day := by have := dby_bd (y := 2000 + day / 366) (by omega) (by omega); omega
    clear hv
    go_enter Tryd.func48, Tryd.ntmps48
    go_wp2_with fail
    refine (valid_any day _).mono ?_
    rintro e w1 ⟨rfl, rfl⟩
    rw [HV.out]
    go_wp2_with fail
    go_loopw [5] (fun v5 wr => CvY day w v5 wr) (fun v _ => (2199 - intOf v).toNat)
    case atStart => exact ⟨_, by omega, y1, y2, rfl, by (repeat (first | (with_reducible exact Below.refl _ _) | (with_reducible assumption) | ((with_reducible refine Below.alloc ?_ ?_ _); (rotate_left); (first | omega | (simp <;> omega))) | ((with_reducible refine Below.setCell ?_ ?_ _); (rotate_left); (first | omega | (simp <;> omega))) | (with_reducible refine Below.drew ?_) | (with_reducible refine below_drewN ?_ _)))⟩
    case round =>
      obtain ⟨y, hy1, hy2, hy3, rfl, hB⟩ := hrel
      go_wp2_with fail
      refine (begin_any (y + 1) (by omega) (by omega) _).mono ?_
      rintro e w1 ⟨rfl, rfl⟩
      by_cases ht : dby (y + 1) ≤ day
      · have hy4 : y < 2199 := by
          rcases Int.lt_or_le y 2199 with c | c
          · exact c
          · obtain rfl : y = 2199 := by omega
            have : dby (2199 + 1) = 73049 := dby_end
            omega
        go_wp2_with fail
        go_roundw
        case rel => exact ⟨y + 1, by omega, by omega, ht, rfl, hB⟩
        case measure => simp [intOf]; omega
      · have hb1 := dby_bd hy1 (by omega)
        have ht2 : day < dby (y + 1) := by omega
        obtain ⟨wo, rfl⟩ : ∃ wo, wo = wr := ⟨wr, rfl⟩
        go_wp2_with fail
        refine (begin_any y hy1 (by omega) _).mono ?_
        rintro e w1 ⟨rfl, rfl⟩
        go_wp2_with fail
        go_loopw [0, 6] (fun v0 v6 wi => CvM day y w v0 v6 wi) (fun _ v _ => (12 - intOf v).toNat)
        case atStart => exact ⟨1, by omega, by omega, by rw [cum_1]; omega, by rw [cum_1]; go_num, rfl, hB⟩
        case round =>
          obtain ⟨m, m1, m2, m3, rfl, rfl, hBi⟩ := hrel
          obtain ⟨k1, k2⟩ := cv_month hy1 hy2 ht2 m1 m2 m3
          have ml := mlen_bd y m1 m2
          have cb := cum_bd y m1 m2
          have lb := lp_01 y
          go_wp2_with fail
          refine (length_any y m m1 m2 _).mono ?_
          rintro e w2 ⟨rfl, hb2⟩
          by_cases hc : mlen y m ≤ day - dby y - cum y m
          · obtain ⟨j1, j2, j3⟩ := k1 hc
            have HJ := hide j3
            clear j3 k1 k2
            go_wp2_with fail
            refine (length_any y m m1 m2 _).mono ?_
            rintro e w3 ⟨rfl, hb3⟩
            go_wp2_with fail
            go_roundw
            case rel => exact ⟨m + 1, by omega, by omega, j2, by rw [← HJ.out], rfl, (hBi.trans (hb2.mono hBi.size)).trans (hb3.mono (by have := hBi.size; have := hb2.size; omega))⟩
            case measure => simp [intOf]; omega
          · have hK := hide (k2 (by omega))
            clear k1 k2
            go_wp2_with fail
            refine bodyPost_ret (by simp [results, Tryd.results48, go_sem, *] <;> rfl) rfl ⟨?_, ?_⟩
            · obtain ⟨a, b, c⟩ := civ_of hK.out
              rw [a, b, c]
            exact hBi.trans (hb2.mono hBi.size)
/-- The reference's loop over the years: what is left of the day. -/
def RvY (day : Int) (w : World) (v0 v5 : Value) (wr : World) : Prop := ∃ y : Int, 2000 ≤ y ∧ y ≤ 2199 ∧ dby y ≤ day ∧ v0 = .int .i64 (day - dby y) ∧ v5 = .int .i64 y ∧ w = wr
def RvM (day y : Int) (w : World) (v0 v6 : Value) (wr : World) : Prop := ∃ m : Int, 1 ≤ m ∧ m ≤ 12 ∧ 0 ≤ day - dby y - cum y m ∧ v0 = .int .i64 (day - dby y - cum y m) ∧ v6 = .int .i64 m ∧ w = wr
set_option maxHeartbeats 1000000 in
theorem rcivil_any (day : Int) (w : World) : Calls Tryd.prog 53 #[.int .i64 day] w (CivRet day w) := by
  cases hv : vday day with
  | false =>
    have HV := hide hv
    clear hv
    go_enter Tryd.func53, Tryd.ntmps53
    go_wp2_with fail
    refine (rvalid_any day _).mono ?_
    rintro e w1 ⟨rfl, rfl⟩
    rw [HV.out]
    go_wp2_with fail
    refine bodyPost_ret (by simp [results, Tryd.results53, go_sem, *] <;> rfl) rfl ⟨?_, ?_⟩
    · obtain ⟨a, b, c⟩ := civ_not HV.out
      rw [a, b, c]
    (repeat (first | (with_reducible exact Below.refl _ _) | (with_reducible assumption) | ((with_reducible refine Below.alloc ?_ ?_ _); (rotate_left); (first | omega | (simp <;> omega))) | ((with_reducible refine Below.setCell ?_ ?_ _); (rotate_left); (first | omega | (simp <;> omega))) | (with_reducible refine Below.drew ?_) | (with_reducible refine below_drewN ?_ _)))
  | true =>
    have HV := hide hv
    obtain ⟨v1, v2⟩ := vday_iff.1 hv
    clear hv
    go_enter Tryd.func53, Tryd.ntmps53
    go_wp2_with fail
    refine (rvalid_any day _).mono ?_
    rintro e w1 ⟨rfl, rfl⟩
    rw [HV.out]
    go_wp2_with fail
    go_loopw [0, 5] (fun v0 v5 wr => RvY day w v0 v5 wr) (fun _ v _ => (2199 - intOf v).toNat)
    case atStart => exact ⟨2000, by omega, by omega, by rw [dby_0]; exact v1, by rw [dby_0]; go_num, rfl, rfl⟩
    case round =>
      obtain ⟨y, hy1, hy2, hy3, rfl, rfl, rfl⟩ := hrel
      have hb1 := dby_bd hy1 (by omega)
      have hs := dby_succ hy1 hy2
      have hl := lp_01 y
      by_cases ht : dby (y + 1) ≤ day
      · have hy4 : y < 2199 := by
          rcases Int.lt_or_le y 2199 with c | c
          · exact c
          · obtain rfl : y = 2199 := by omega
            have : dby (2199 + 1) = 73049 := dby_end
            omega
        have HS := hide hs
        have ht3 : 365 + lp y ≤ day - dby y := by omega
        have HT := hide ht
        clear hs ht
        go_wp2_with fail
        refine (ylen_any y _).mono ?_
        rintro e w1 ⟨rfl, rfl⟩
        go_wp2_with fail
        refine (ylen_any y _).mono ?_
        rintro e w1 ⟨rfl, rfl⟩
        go_wp2_with fail
        go_roundw
        case rel => exact ⟨y + 1, by omega, by omega, HT.out, (by have := HS.out; exact congrArg (Value.int .i64) (by omega)), rfl, rfl⟩
        case measure => simp [intOf]; omega
      · have ht2 : day < dby (y + 1) := by omega
        have ht3 : ¬ 365 + lp y ≤ day - dby y := by omega
        have HT := hide ht2
        clear hs ht ht2
        go_wp2_with fail
        refine (ylen_any y _).mono ?_
        rintro e w1 ⟨rfl, rfl⟩
        go_wp2_with fail
        go_loopw [0, 6] (fun v0 v6 wi => RvM day y w v0 v6 wi) (fun _ v _ => (12 - intOf v).toNat)
        case atStart => exact ⟨1, by omega, by omega, by rw [cum_1]; omega, by rw [cum_1]; go_num, rfl, rfl⟩
        case round =>
          obtain ⟨m, m1, m2, m3, rfl, rfl, rfl⟩ := hrel
          obtain ⟨k1, k2⟩ := cv_month hy1 hy2 HT.out m1 m2 m3
          have ml := mlen_bd y m1 m2
          have cb := cum_bd y m1 m2
          by_cases hc : mlen y m ≤ day - dby y - cum y m
          · obtain ⟨j1, j2, j3⟩ := k1 hc
            have HJ := hide j3
            clear j3 k1 k2
            go_wp2_with fail
            refine (rlength_any y m _).mono ?_
            rintro e w2 ⟨rfl, rfl⟩
            go_wp2_with fail
            refine (rlength_any y m _).mono ?_
            rintro e w2 ⟨rfl, rfl⟩
            go_wp2_with fail
            go_roundw
            case rel => exact ⟨m + 1, by omega, by omega, j2, by rw [← HJ.out], rfl, rfl⟩
            case measure => simp [intOf]; omega
          · have hK := hide (k2 (by omega))
            clear k1 k2
            go_wp2_with fail
            refine (rlength_any y m _).mono ?_
            rintro e w2 ⟨rfl, rfl⟩
            go_wp2_with fail
            refine bodyPost_ret (by simp [results, Tryd.results53, go_sem, *] <;> rfl) rfl ⟨?_, ?_⟩
            · obtain ⟨a, b, c⟩ := civ_of hK.out
              rw [a, b, c]
            (repeat (first | (with_reducible exact Below.refl _ _) | (with_reducible assumption) | ((with_reducible refine Below.alloc ?_ ?_ _); (rotate_left); (first | omega | (simp <;> omega))) | ((with_reducible refine Below.setCell ?_ ?_ _); (rotate_left); (first | omega | (simp <;> omega))) | (with_reducible refine Below.drew ?_) | (with_reducible refine below_drewN ?_ _)))
end Go.Proofs.YtodfpfbcjiganaaDoor
