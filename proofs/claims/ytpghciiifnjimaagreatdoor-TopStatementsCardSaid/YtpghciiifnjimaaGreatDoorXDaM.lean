/- Texts laid together: DaM DaA DaB. -/
import Derived.Test.YtpghciiifnjimaaGreatDoorXNum
import Derived.WalkKit
import Derived.Test.YtpghciiifnjimaaGreatDoorProg
import Derived.KernelRfl
import Derived.WalkSpells
import Derived.WalkLawsBesides
namespace Go.Proofs.YtpghciiifnjimaaGreatDoor
set_option maxRecDepth 4000
set_option linter.unusedSimpArgs false
set_option linter.unusedVariables false
open Go.RowKit
/-- A leap year, in Go's own remainders. -/
def lpB (y : Int) : Bool := y.tmod 4 == 0 && (!(y.tmod 100 == 0) || y.tmod 400 == 0)
def lp (y : Int) : Int := if lpB y then 1 else 0
theorem lp_01 (y : Int) : 0 ≤ lp y ∧ lp y ≤ 1 := by unfold lp; split <;> decide
theorem lp_yes {y : Int} (h : lpB y = true) : lp y = 1 := if_pos h
theorem lp_no {y : Int} (h : lpB y = false) : lp y = 0 := by unfold lp; rw [h]; rfl
theorem lp_eq {y : Int} (h1 : 2000 ≤ y) (h2 : y ≤ 2200) : lp y = if y % 4 = 0 ∧ y ≠ 2100 ∧ y ≠ 2200 then 1 else 0 := by
 unfold lp lpB
 rw [Int.tmod_eq_emod_of_nonneg (by omega), Int.tmod_eq_emod_of_nonneg (by omega), Int.tmod_eq_emod_of_nonneg (by omega)]
 by_cases h : y % 4 = 0 ∧ y ≠ 2100 ∧ y ≠ 2200
 ·rw [if_pos h, if_pos]
  obtain ⟨a, b, c⟩ := h
  simp [a]
  by_cases h100 : y % 100 = 0
  ·right; omega
  ·exact .inl h100
 ·rw [if_neg h, if_neg]
  simp
  intro a
  constructor
  ·omega
  ·omega
/-- The first day of a year. -/
def dby (y : Int) : Int := 365 * (y - 2000) + (y - 2000 + 3) / 4 - (if y > 2100 then 1 else 0)
theorem dby_succ {y : Int} (h1 : 2000 ≤ y) (h2 : y ≤ 2199) : dby (y + 1) = dby y + 365 + lp y := by
 rw [lp_eq h1 (by omega)]
 unfold dby
 split <;> split <;> split <;> omega
theorem dby_end : dby 2200 = 73049 := by decide
theorem dby_mono {a b : Int} (h0 : 2000 ≤ a) (h : a ≤ b) (h2 : b ≤ 2200) : dby a ≤ dby b := by unfold dby; split <;> split <;> omega
theorem dby_bd {y : Int} (h1 : 2000 ≤ y) (h2 : y ≤ 2200) : 365 * (y - 2000) ≤ dby y ∧ dby y ≤ 366 * (y - 2000) := by unfold dby; split <;> omega
/-- The days of a month; 0 if it is none. -/
def mlen (y m : Int) : Int := if m = 2 then 28 + lp y else if m = 4 ∨ m = 6 ∨ m = 9 ∨ m = 11 then 30 else if 1 ≤ m ∧ m ≤ 12 then 31 else 0
/-- The days of a year before a month. -/
def cum (y m : Int) : Int := if m ≤ 1 then 0 else if m = 2 then 31 else (if m = 3 then 59 else if m = 4 then 90 else if m = 5 then 120 else if m = 6 then 151 else if m = 7 then 181 else if m = 8 then 212 else if m = 9 then 243 else if m = 10 then 273 else if m = 11 then 304 else if m = 12 then 334 else 365) + lp y
theorem month_cases {m : Int} (h1 : 1 ≤ m) (h2 : m ≤ 12) : m = 1 ∨ m = 2 ∨ m = 3 ∨ m = 4 ∨ m = 5 ∨ m = 6 ∨ m = 7 ∨ m = 8 ∨ m = 9 ∨ m = 10 ∨ m = 11 ∨ m = 12 := by omega
theorem cum_succ (y : Int) {m : Int} (h1 : 1 ≤ m) (h2 : m ≤ 12) : cum y (m + 1) = cum y m + mlen y m := by
 rcases month_cases h1 h2 with rfl | rfl | rfl | rfl | rfl | rfl | rfl | rfl | rfl | rfl | rfl | rfl <;> simp [cum, mlen] <;> omega
theorem cum_1 (y : Int) : cum y 1 = 0 := rfl
theorem mlen_bd (y : Int) {m : Int} (h1 : 1 ≤ m) (h2 : m ≤ 12) : 28 ≤ mlen y m ∧ mlen y m ≤ 31 := by
 have := lp_01 y
 unfold mlen; split <;> (try split) <;> (try split) <;> omega
theorem cum_bd (y : Int) {m : Int} (h1 : 1 ≤ m) (h2 : m ≤ 12) : 0 ≤ cum y m ∧ cum y m + mlen y m ≤ 365 + lp y := by
 have := lp_01 y
 rcases month_cases h1 h2 with rfl | rfl | rfl | rfl | rfl | rfl | rfl | rfl | rfl | rfl | rfl | rfl <;> simp [cum, mlen] <;> omega
theorem cum_lt (y : Int) {m k : Int} (h1 : 1 ≤ m) (h2 : m < k) (h3 : k ≤ 12) : cum y m + mlen y m ≤ cum y k := by
 have := lp_01 y
 have hk := month_cases (show 1 ≤ k by omega) h3
 rcases month_cases h1 (show m ≤ 12 by omega) with rfl | rfl | rfl | rfl | rfl | rfl | rfl | rfl | rfl | rfl | rfl | rfl <;>
  rcases hk with rfl | rfl | rfl | rfl | rfl | rfl | rfl | rfl | rfl | rfl | rfl | rfl <;> first | (exfalso; omega) | (simp [cum, mlen] <;> omega)
/-- A day has this civil date. -/
def CivIs (day y m d : Int) : Prop := 2000 ≤ y ∧ y ≤ 2199 ∧ 1 ≤ m ∧ m ≤ 12 ∧ 1 ≤ d ∧ d ≤ mlen y m ∧ day = dby y + cum y m + d - 1
theorem CivIs.year {day y m d : Int} (h : CivIs day y m d) : dby y ≤ day ∧ day < dby (y + 1) := by
 obtain ⟨h1, h2, h3, h4, h5, h6, h7⟩ := h
 have := cum_bd y h3 h4
 rw [dby_succ h1 h2]
 omega
theorem CivIs.bd {day y m d : Int} (h : CivIs day y m d) : 0 ≤ day ∧ day ≤ 73048 := by
 have h1 := h.year
 obtain ⟨a, b, _⟩ := h
 have := dby_bd a (by omega)
 have := dby_mono (a := y + 1) (b := 2200) (by omega) (by omega) (by omega)
 rw [dby_end] at this
 omega
theorem CivIs.unique {day y m d y' m' d' : Int} (h : CivIs day y m d) (h' : CivIs day y' m' d') : y = y' ∧ m = m' ∧ d = d' := by
 have a := h.year
 have b := h'.year
 obtain ⟨h1, h2, h3, h4, h5, h6, h7⟩ := h
 obtain ⟨k1, k2, k3, k4, k5, k6, k7⟩ := h'
 obtain rfl : y = y' := by
  rcases Int.lt_trichotomy y y' with c | c | c
  ·have := dby_mono (a := y + 1) (b := y') (by omega) (by omega) (by omega); omega
  ·exact c
  ·have := dby_mono (a := y' + 1) (b := y) (by omega) (by omega) (by omega); omega
 obtain rfl : m = m' := by
  rcases Int.lt_trichotomy m m' with c | c | c
  ·have := cum_lt y h3 c k4; omega
  ·exact c
  ·have := cum_lt y k3 c h4; omega
 exact ⟨rfl, rfl, by omega⟩
/-- The next day. -/
theorem CivIs.next {day y m d : Int} (h : CivIs day y m d) (hd : day < 73048) :
  (d < mlen y m ∧ CivIs (day + 1) y m (d + 1)) ∨ (d = mlen y m ∧ m < 12 ∧ CivIs (day + 1) y (m + 1) 1) ∨ (d = mlen y m ∧ m = 12 ∧ y < 2199 ∧ CivIs (day + 1) (y + 1) 1 1) := by
 have hy := h.year
 obtain ⟨h1, h2, h3, h4, h5, h6, h7⟩ := h
 by_cases c1 : d < mlen y m
 ·exact .inl ⟨c1, h1, h2, h3, h4, by omega, by omega, by omega⟩
 ·have e1 := cum_succ y h3 h4
  by_cases c2 : m < 12
  ·have e2 := mlen_bd y (show 1 ≤ m + 1 by omega) (by omega)
   exact .inr (.inl ⟨by omega, c2, h1, h2, by omega, by omega, by omega, by omega, by omega⟩)
  ·obtain rfl : m = 12 := by omega
   have e3 : cum y 13 = 365 + lp y := rfl
   have e4 := dby_succ h1 h2
   have e5 : (12 : Int) + 1 = 13 := rfl
   rw [e5] at e1
   have hy2 : y < 2199 := by
    rcases Int.lt_or_le y 2199 with c | c
    ·exact c
    ·obtain rfl : y = 2199 := by omega
     have : dby (2199 + 1) = 73049 := dby_end
     omega
   have e6 : mlen (y + 1) 1 = 31 := rfl
   have e7 : cum (y + 1) 1 = 0 := rfl
   exact .inr (.inr ⟨by omega, rfl, hy2, by omega, by omega, by omega, by omega, by omega, by omega, by omega⟩)
theorem civ_ex : ∀ n : Nat, n ≤ 73048 → ∃ y m d, CivIs n y m d
 | 0, _ => ⟨2000, 1, 1, by decide, by decide, by decide, by decide, by decide, by decide, by decide⟩
 | n + 1, h => by
  obtain ⟨y, m, d, hc⟩ := civ_ex n (by omega)
  have e : (((n + 1 : Nat)) : Int) = (n : Int) + 1 := by omega
  rw [e]
  rcases hc.next (by omega) with ⟨_, h⟩ | ⟨_, _, h⟩ | ⟨_, _, _, h⟩
  ·exact ⟨_, _, _, h⟩
  ·exact ⟨_, _, _, h⟩
  ·exact ⟨_, _, _, h⟩
/-- A day. -/
def vday (day : Int) : Bool := decide (0 ≤ day ∧ day ≤ 73048)
theorem vday_iff {day : Int} : vday day = true ↔ 0 ≤ day ∧ day ≤ 73048 := by unfold vday; simp
theorem vday_no {day : Int} (h : vday day = false) : day < 0 ∨ 73048 < day := by unfold vday at h; simp at h; omega
/-- The civil date of a day; zeros if it is none. -/
noncomputable def civ (day : Int) : Int × Int × Int := by
 classical exact if h : ∃ t : Int × Int × Int, CivIs day t.1 t.2.1 t.2.2 then Classical.choose h else (0, 0, 0)
noncomputable def cY (day : Int) : Int := (civ day).1
noncomputable def cM (day : Int) : Int := (civ day).2.1
noncomputable def cD (day : Int) : Int := (civ day).2.2
theorem civ_of {day y m d : Int} (h : CivIs day y m d) : cY day = y ∧ cM day = m ∧ cD day = d := by
 have hex : ∃ t : Int × Int × Int, CivIs day t.1 t.2.1 t.2.2 := ⟨(y, m, d), h⟩
 unfold cY cM cD civ
 rw [dif_pos hex]
 exact (Classical.choose_spec hex).unique h
theorem civ_is {day : Int} (h : vday day = true) : CivIs day (cY day) (cM day) (cD day) := by
 obtain ⟨h1, h2⟩ := vday_iff.1 h
 obtain ⟨n, rfl⟩ : ∃ n : Nat, day = n := ⟨day.toNat, by omega⟩
 obtain ⟨y, m, d, hc⟩ := civ_ex n (by omega)
 obtain ⟨e1, e2, e3⟩ := civ_of hc
 rw [e1, e2, e3]
 exact hc
theorem civ_not {day : Int} (h : vday day = false) : cY day = 0 ∧ cM day = 0 ∧ cD day = 0 := by
 have hex : ¬ ∃ t : Int × Int × Int, CivIs day t.1 t.2.1 t.2.2 := fun ⟨t, ht⟩ => by have := ht.bd; have := vday_no h; omega
 unfold cY cM cD civ
 rw [dif_neg hex]
 exact ⟨rfl, rfl, rfl⟩
end Go.Proofs.YtpghciiifnjimaaGreatDoor
namespace Go.Proofs.YtpghciiifnjimaaGreatDoor
set_option maxRecDepth 4000
set_option linter.unusedSimpArgs false
set_option linter.unusedVariables false
open Go.RowKit
theorem valid_any (day : Int) (w : World) :
  Calls Tryz.prog 22 #[.int .i64 day] w fun e w' => e = .returned (.bool (vday day)) ∧ w = w' := by
 by_cases h1 : 0 ≤ day
 ·by_cases h2 : day ≤ 73048
  ·have HD := hide (show vday day = true from decide_eq_true ⟨h1, h2⟩)
   go_enter Tryz.func22, Tryz.ntmps22
   go_wp2_with fail
   go_ret
   exact ⟨by rw [HD.out]; rfl, rfl⟩
  ·have HD := hide (show vday day = false from decide_eq_false (fun h => h2 h.2))
   go_enter Tryz.func22, Tryz.ntmps22
   go_wp2_with fail
   go_ret
   exact ⟨by rw [HD.out]; rfl, rfl⟩
 ·have HD := hide (show vday day = false from decide_eq_false (fun h => h1 h.1))
  go_enter Tryz.func22, Tryz.ntmps22
  go_wp2_with fail
  go_ret
  exact ⟨by rw [HD.out]; rfl, rfl⟩
theorem leap_any (y : Int) (w : World) :
  Calls Tryz.prog 194 #[.int .i64 y] w fun e w' => e = .returned (.bool (lpB y)) ∧ w = w' := by
 cases h4 : (y.tmod 4 == 0) with
 | false =>
  have HD := hide (show lpB y = false by unfold lpB; rw [h4]; rfl)
  go_enter Tryz.func194, Tryz.ntmps194
  go_wp2_with fail
  go_ret
  exact ⟨by rw [HD.out]; rfl, rfl⟩
 | true =>
  cases h100 : (y.tmod 100 == 0) with
  | false =>
   have HD := hide (show lpB y = true by unfold lpB; rw [h4, h100]; rfl)
   have hn : (y.tmod 100 != 0) = true := by unfold bne; rw [h100]; rfl
   go_enter Tryz.func194, Tryz.ntmps194
   go_wp2_with fail
   go_ret
   exact ⟨by rw [HD.out]; rfl, rfl⟩
  | true =>
   have hn : (y.tmod 100 != 0) = false := by unfold bne; rw [h100]; rfl
   cases h400 : (y.tmod 400 == 0) with
   | false =>
    have HD := hide (show lpB y = false by unfold lpB; rw [h4, h100, h400]; rfl)
    go_enter Tryz.func194, Tryz.ntmps194
    go_wp2_with fail
    go_ret
    exact ⟨by rw [HD.out]; rfl, rfl⟩
   | true =>
    have HD := hide (show lpB y = true by unfold lpB; rw [h4, h100, h400]; rfl)
    go_enter Tryz.func194, Tryz.ntmps194
    go_wp2_with fail
    go_ret
    exact ⟨by rw [HD.out]; rfl, rfl⟩
theorem rvalid_any (day : Int) (w : World) :
  Calls Tryz.prog 90 #[.int .i64 day] w fun e w' => e = .returned (.bool (vday day)) ∧ w = w' := by
 by_cases h1 : 0 ≤ day
 ·by_cases h2 : day ≤ 73048
  ·have HD := hide (show vday day = true from decide_eq_true ⟨h1, h2⟩)
   go_enter Tryz.func90, Tryz.ntmps90
   go_wp2_with fail
   go_ret
   exact ⟨by rw [HD.out]; rfl, rfl⟩
  ·have HD := hide (show vday day = false from decide_eq_false (fun h => h2 h.2))
   go_enter Tryz.func90, Tryz.ntmps90
   go_wp2_with fail
   go_ret
   exact ⟨by rw [HD.out]; rfl, rfl⟩
 ·have HD := hide (show vday day = false from decide_eq_false (fun h => h1 h.1))
  go_enter Tryz.func90, Tryz.ntmps90
  go_wp2_with fail
  go_ret
  exact ⟨by rw [HD.out]; rfl, rfl⟩
set_option maxHeartbeats 2000000 in
theorem length_any (y m : Int) (h1 : 1 ≤ m) (h2 : m ≤ 12) (w : World) :
  Calls Tryz.prog 140 #[.int .i64 y, .int .i64 m] w fun e w' => e = .returned (.int .i64 (mlen y m)) ∧ Below w.heap.size w w' := by
 by_cases hm : m = 2
 ·subst hm
  cases hl : lpB y with
  | true =>
   have HL := hide hl
   have HM := hide (show mlen y 2 = 29 by unfold mlen; rw [if_pos rfl, lp_yes hl]; rfl)
   clear hl
   go_enter Tryz.func140, Tryz.ntmps140
   go_wp2_with fail
   refine (leap_any y _).mono ?_
   rintro e w1 ⟨rfl, rfl⟩
   rw [HL.out]
   go_wp2_with fail
   go_ret
   exact ⟨by rw [HM.out]; rfl, by (repeat (first | (with_reducible first | exact Below.refl _ _ | assumption | refine Below.drew ?_) | ((with_reducible first | refine Below.alloc ?_ ?_ _ | refine Below.setCell ?_ ?_ _); rotate_left; (first | omega | (simp <;> omega)))))⟩
  | false =>
   have HL := hide hl
   have HM := hide (show mlen y 2 = 28 by unfold mlen; rw [if_pos rfl, lp_no hl]; rfl)
   clear hl
   go_enter Tryz.func140, Tryz.ntmps140
   go_wp2_with fail
   refine (leap_any y _).mono ?_
   rintro e w1 ⟨rfl, rfl⟩
   rw [HL.out]
   go_wp2_with fail
   go_ret
   exact ⟨by rw [HM.out]; rfl, by (repeat (first | (with_reducible first | exact Below.refl _ _ | assumption | refine Below.drew ?_) | ((with_reducible first | refine Below.alloc ?_ ?_ _ | refine Below.setCell ?_ ?_ _); rotate_left; (first | omega | (simp <;> omega)))))⟩
 ·rcases month_cases h1 h2 with rfl | rfl | rfl | rfl | rfl | rfl | rfl | rfl | rfl | rfl | rfl | rfl
  case inr.inl => exact absurd rfl hm
  all_goals
   go_enter Tryz.func140, Tryz.ntmps140
   go_wp2_with fail
   go_ret
   exact ⟨rfl, by (repeat (first | (with_reducible first | exact Below.refl _ _ | assumption | refine Below.drew ?_) | ((with_reducible first | refine Below.alloc ?_ ?_ _ | refine Below.setCell ?_ ?_ _); rotate_left; (first | omega | (simp <;> omega)))))⟩
theorem begin_any (y : Int) (h1 : 2000 ≤ y) (h2 : y ≤ 2200) (w : World) :
  Calls Tryz.prog 141 #[.int .i64 y] w fun e w' => e = .returned (.int .i64 (dby y)) ∧ w = w' := by
 by_cases hy : y > 2100
 ·have HD := hide (show dby y = 365 * (y - 2000) + ((y - 2000 + 3) / 4 - 1) by unfold dby; rw [if_pos hy]; omega)
  go_enter Tryz.func141, Tryz.ntmps141
  go_wp2_with fail
  go_ret
  exact ⟨by rw [HD.out]; rfl, rfl⟩
 ·have HD := hide (show dby y = 365 * (y - 2000) + (y - 2000 + 3) / 4 by unfold dby; rw [if_neg hy]; omega)
  go_enter Tryz.func141, Tryz.ntmps141
  go_wp2_with fail
  go_ret
  exact ⟨by rw [HD.out]; rfl, rfl⟩
end Go.Proofs.YtpghciiifnjimaaGreatDoor
namespace Go.Proofs.YtpghciiifnjimaaGreatDoor
set_option maxRecDepth 4000
set_option linter.unusedSimpArgs false
set_option linter.unusedVariables false
open Go.RowKit
def CivRet (day : Int) (w : World) (e : Ending) (w' : World) : Prop := e = .returned (.tuple #[.int .i64 (cY day), .int .i64 (cM day), .int .i64 (cD day)]) ∧ Below w.heap.size w w'
def CvY (day : Int) (w : World) (v5 : Value) (wr : World) : Prop := ∃ y : Int, 2000 ≤ y ∧ y ≤ 2199 ∧ dby y ≤ day ∧ v5 = .int .i64 y ∧ Below w.heap.size w wr
def CvM (day y : Int) (w : World) (v0 v6 : Value) (wr : World) : Prop := ∃ m : Int, 1 ≤ m ∧ m ≤ 12 ∧ 0 ≤ day - dby y - cum y m ∧ v0 = .int .i64 (day - dby y - cum y m) ∧ v6 = .int .i64 m ∧ Below w.heap.size w wr
/-- The loop over the months: one more month, or the end. -/
theorem cv_month {day y m : Int} (h1 : 2000 ≤ y) (h2 : y ≤ 2199) (hd : day < dby (y + 1)) (m1 : 1 ≤ m) (m2 : m ≤ 12) (h0 : 0 ≤ day - dby y - cum y m) :
  (mlen y m ≤ day - dby y - cum y m → m < 12 ∧ 0 ≤ day - dby y - cum y (m + 1) ∧ day - dby y - cum y m - mlen y m = day - dby y - cum y (m + 1)) ∧ (¬ mlen y m ≤ day - dby y - cum y m → CivIs day y m (day - dby y - cum y m + 1)) := by
 have e := cum_succ y m1 m2
 rw [dby_succ h1 h2] at hd
 constructor
 ·intro h
  have : m < 12 := by
   rcases Int.lt_or_le m 12 with c | c
   ·exact c
   ·obtain rfl : m = 12 := by omega
    have e2 : cum y (12 + 1) = 365 + lp y := rfl
    omega
  omega
 ·intro h
  exact ⟨h1, h2, m1, m2, by omega, by omega, by omega⟩
set_option maxHeartbeats 1000000 in
theorem civil_any (day : Int) (w : World) : Calls Tryz.prog 81 #[.int .i64 day] w (CivRet day w) := by
 cases hv : vday day with
 | false =>
  have HV := hide hv
  clear hv
  go_enter Tryz.func81, Tryz.ntmps81
  go_wp2_with fail
  refine (valid_any day _).mono ?_
  rintro e w1 ⟨rfl, rfl⟩
  rw [HV.out]
  go_wp2_with fail
  refine bodyPost_ret (by simp [results, Tryz.results81, go_sem, *] <;> rfl) rfl ⟨?_, ?_⟩
  ·obtain ⟨a, b, c⟩ := civ_not HV.out
   rw [a, b, c]
  (repeat (first | (with_reducible first | exact Below.refl _ _ | assumption | refine Below.drew ?_) | ((with_reducible first | refine Below.alloc ?_ ?_ _ | refine Below.setCell ?_ ?_ _); rotate_left; (first | omega | (simp <;> omega)))))
 | true =>
  have HV := hide hv
  obtain ⟨v1, v2⟩ := vday_iff.1 hv
  have y1 : 2000 + day / 366 ≤ 2199 := by omega
  have y2 : dby (2000 + day / 366) ≤ day := by have := dby_bd (y := 2000 + day / 366) (by omega) (by omega); omega
  clear hv
  go_enter Tryz.func81, Tryz.ntmps81
  go_wp2_with fail
  refine (valid_any day _).mono ?_
  rintro e w1 ⟨rfl, rfl⟩
  rw [HV.out]
  go_wp2_with fail
  go_loopw [5] (fun v5 wr => CvY day w v5 wr) (fun v _ => (2199 - intOf v).toNat)
  case atStart => exact ⟨_, by omega, y1, y2, rfl, by (repeat (first | (with_reducible first | exact Below.refl _ _ | assumption | refine Below.drew ?_) | ((with_reducible first | refine Below.alloc ?_ ?_ _ | refine Below.setCell ?_ ?_ _); rotate_left; (first | omega | (simp <;> omega)))))⟩
  case round =>
   obtain ⟨y, hy1, hy2, hy3, rfl, hB⟩ := hrel
   go_wp2_with fail
   refine (begin_any (y + 1) (by omega) (by omega) _).mono ?_
   rintro e w1 ⟨rfl, rfl⟩
   by_cases ht : dby (y + 1) ≤ day
   ·have hy4 : y < 2199 := by
     rcases Int.lt_or_le y 2199 with c | c
     ·exact c
     ·obtain rfl : y = 2199 := by omega
      have : dby (2199 + 1) = 73049 := dby_end
      omega
    go_wp2_with fail
    go_roundw
    case rel => exact ⟨y + 1, by omega, by omega, ht, rfl, hB⟩
    case measure => simp [intOf]; omega
   ·have hb1 := dby_bd hy1 (by omega)
    have ht2 : day < dby (y + 1) := by omega
    obtain ⟨wo, rfl⟩ : ∃ wo, wo = wr := ⟨wr, rfl⟩
    go_wp2_with fail
    refine (begin_any y hy1 (by omega) _).mono ?_
    rintro e w1 ⟨rfl, rfl⟩
    go_wp2_with fail
    go_loopw [0, 6] (fun v0 v6 wi => CvM day y w v0 v6 wi) (fun _ v _ => (12 - intOf v).toNat)
    case atStart => exact ⟨1, by omega, by omega, by rw [cum_1]; omega, by rw [cum_1]; go_num, rfl, hB⟩
    case round =>
     obtain ⟨m, m1, m2, m3, rfl, rfl, hBi⟩ := hrel
     obtain ⟨k1, k2⟩ := cv_month hy1 hy2 ht2 m1 m2 m3
     have ml := mlen_bd y m1 m2
     have cb := cum_bd y m1 m2
     have lb := lp_01 y
     go_wp2_with fail
     refine (length_any y m m1 m2 _).mono ?_
     rintro e w2 ⟨rfl, hb2⟩
     by_cases hc : mlen y m ≤ day - dby y - cum y m
     ·obtain ⟨j1, j2, j3⟩ := k1 hc
      have HJ := hide j3
      clear j3 k1 k2
      go_wp2_with fail
      refine (length_any y m m1 m2 _).mono ?_
      rintro e w3 ⟨rfl, hb3⟩
      go_wp2_with fail
      go_roundw
      case rel => exact ⟨m + 1, by omega, by omega, j2, by rw [← HJ.out], rfl, (hBi.trans (hb2.mono hBi.size)).trans (hb3.mono (by have := hBi.size; have := hb2.size; omega))⟩
      case measure => simp [intOf]; omega
     ·have hK := hide (k2 (by omega))
      clear k1 k2
      go_wp2_with fail
      refine bodyPost_ret (by simp [results, Tryz.results81, go_sem, *] <;> rfl) rfl ⟨?_, ?_⟩
      ·obtain ⟨a, b, c⟩ := civ_of hK.out
       rw [a, b, c]
      exact hBi.trans (hb2.mono hBi.size)
end Go.Proofs.YtpghciiifnjimaaGreatDoor
