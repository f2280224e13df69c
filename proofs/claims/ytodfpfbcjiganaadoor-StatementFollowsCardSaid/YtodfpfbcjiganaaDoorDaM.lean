/- Civil dates as numbers: leap years, months, the day with a civil date and back. No program in sight. -/
import Derived.WalkKit
namespace Go.Proofs.YtodfpfbcjiganaaDoor
set_option linter.unusedSimpArgs false
set_option linter.unusedVariables false
open Go.RowKit

/-- A leap year, in Go's own remainders. -/
def lpB (y : Int) : Bool := y.tmod 4 == 0 && (!(y.tmod 100 == 0) || y.tmod 400 == 0)
def lp (y : Int) : Int := if lpB y then 1 else 0
theorem lp_01 (y : Int) : 0 ≤ lp y ∧ lp y ≤ 1 := by unfold lp; split <;> decide
theorem lp_yes {y : Int} (h : lpB y = true) : lp y = 1 := if_pos h
theorem lp_no {y : Int} (h : lpB y = false) : lp y = 0 := by unfold lp; rw [h]; rfl
theorem lp_eq {y : Int} (h1 : 2000 ≤ y) (h2 : y ≤ 2200) : lp y = if y % 4 = 0 ∧ y ≠ 2100 ∧ y ≠ 2200 then 1 else 0 := by
  unfold lp lpB
  rw [Int.tmod_eq_emod_of_nonneg (by omega), Int.tmod_eq_emod_of_nonneg (by omega), Int.tmod_eq_emod_of_nonneg (by omega)]
  by_cases h : y % 4 = 0 ∧ y ≠ 2100 ∧ y ≠ 2200
  · rw [if_pos h, if_pos]
    obtain ⟨a, b, c⟩ := h
    simp [a]
    by_cases h100 : y % 100 = 0
    · right; omega
    · exact .inl h100
  · rw [if_neg h, if_neg]
    simp
    intro a
    constructor
    · omega
    · omega
/-- The first day of a year. -/
def dby (y : Int) : Int := 365 * (y - 2000) + (y - 2000 + 3) / 4 - (if y > 2100 then 1 else 0)
theorem dby_succ {y : Int} (h1 : 2000 ≤ y) (h2 : y ≤ 2199) : dby (y + 1) = dby y + 365 + lp y := by
  rw [lp_eq h1 (by omega)]
  unfold dby
  split <;> split <;> split <;> omega
theorem dby_0 : dby 2000 = 0 := by decide
theorem dby_end : dby 2200 = 73049 := by decide
theorem dby_mono {a b : Int} (h0 : 2000 ≤ a) (h : a ≤ b) (h2 : b ≤ 2200) : dby a ≤ dby b := by unfold dby; split <;> split <;> omega
theorem dby_bd {y : Int} (h1 : 2000 ≤ y) (h2 : y ≤ 2200) : 365 * (y - 2000) ≤ dby y ∧ dby y ≤ 366 * (y - 2000) := by unfold dby; split <;> omega
/-- The days of a month; 0 if it is none. -/
def mlen (y m : Int) : Int := if m = 2 then 28 + lp y else if m = 4 ∨ m = 6 ∨ m = 9 ∨ m = 11 then 30 else if 1 ≤ m ∧ m ≤ 12 then 31 else 0
/-- The days of a year before a month. -/
def cum (y m : Int) : Int := if m ≤ 1 then 0 else if m = 2 then 31 else (if m = 3 then 59 else if m = 4 then 90 else if m = 5 then 120 else if m = 6 then 151 else if m = 7 then 181 else if m = 8 then 212 else if m = 9 then 243 else if m = 10 then 273 else if m = 11 then 304 else if m = 12 then 334 else 365) + lp y
theorem month_cases {m : Int} (h1 : 1 ≤ m) (h2 : m ≤ 12) : m = 1 ∨ m = 2 ∨ m = 3 ∨ m = 4 ∨ m = 5 ∨ m = 6 ∨ m = 7 ∨ m = 8 ∨ m = 9 ∨ m = 10 ∨ m = 11 ∨ m = 12 := by omega
theorem cum_succ (y : Int) {m : Int} (h1 : 1 ≤ m) (h2 : m ≤ 12) : cum y (m + 1) = cum y m + mlen y m := by
  rcases month_cases h1 h2 with rfl | rfl | rfl | rfl | rfl | rfl | rfl | rfl | rfl | rfl | rfl | rfl <;> simp [cum, mlen] <;> omega
theorem cum_1 (y : Int) : cum y 1 = 0 := rfl
theorem cum_13 (y : Int) : cum y 13 = 365 + lp y := rfl
theorem mlen_bd (y : Int) {m : Int} (h1 : 1 ≤ m) (h2 : m ≤ 12) : 28 ≤ mlen y m ∧ mlen y m ≤ 31 := by
  have := lp_01 y
  unfold mlen; split <;> (try split) <;> (try split) <;> omega
theorem mlen_out (y : Int) {m : Int} (h : ¬ (1 ≤ m ∧ m ≤ 12)) : mlen y m = 0 := by
  unfold mlen; rw [if_neg (by omega), if_neg (by omega), if_neg h]
theorem cum_bd (y : Int) {m : Int} (h1 : 1 ≤ m) (h2 : m ≤ 12) : 0 ≤ cum y m ∧ cum y m + mlen y m ≤ 365 + lp y := by
  have := lp_01 y
  rcases month_cases h1 h2 with rfl | rfl | rfl | rfl | rfl | rfl | rfl | rfl | rfl | rfl | rfl | rfl <;> simp [cum, mlen] <;> omega
theorem cum_lt (y : Int) {m k : Int} (h1 : 1 ≤ m) (h2 : m < k) (h3 : k ≤ 12) : cum y m + mlen y m ≤ cum y k := by
  have := lp_01 y
  have hk := month_cases (show 1 ≤ k by omega) h3
  rcases month_cases h1 (show m ≤ 12 by omega) with rfl | rfl | rfl | rfl | rfl | rfl | rfl | rfl | rfl | rfl | rfl | rfl <;>
    rcases hk with rfl | rfl | rfl | rfl | rfl | rfl | rfl | rfl | rfl | rfl | rfl | rfl <;> first | (exfalso; omega) | (simp [cum, mlen] <;> omega)
/-- A day has this civil date. -/
def CivIs (day y m d : Int) : Prop := 2000 ≤ y ∧ y ≤ 2199 ∧ 1 ≤ m ∧ m ≤ 12 ∧ 1 ≤ d ∧ d ≤ mlen y m ∧ day = dby y + cum y m + d - 1
theorem CivIs.year {day y m d : Int} (h : CivIs day y m d) : dby y ≤ day ∧ day < dby (y + 1) := by
  obtain ⟨h1, h2, h3, h4, h5, h6, h7⟩ := h
  have := cum_bd y h3 h4
  rw [dby_succ h1 h2]
  omega
theorem CivIs.bd {day y m d : Int} (h : CivIs day y m d) : 0 ≤ day ∧ day ≤ 73048 := by
  have h1 := h.year
  obtain ⟨a, b, _⟩ := h
  have := dby_bd a (by omega)
  have := dby_mono (a := y + 1) (b := 2200) (by omega) (by omega) (by omega)
  rw [dby_end] at this
  omega
theorem CivIs.unique {day y m d y' m' d' : Int} (h : CivIs day y m d) (h' : CivIs day y' m' d') : y = y' ∧ m = m' ∧ d = d' := by
  have a := h.year
  have b := h'.year
  obtain ⟨h1, h2, h3, h4, h5, h6, h7⟩ := h
  obtain ⟨k1, k2, k3, k4, k5, k6, k7⟩ := h'
  obtain rfl : y = y' := by
    rcases Int.lt_trichotomy y y' with c | c | c
    · have := dby_mono (a := y + 1) (b := y') (by omega) (by omega) (by omega); omega
    · exact c
    · have := dby_mono (a := y' + 1) (b := y) (by omega) (by omega) (by omega); omega
  obtain rfl : m = m' := by
    rcases Int.lt_trichotomy m m' with c | c | c
    · have := cum_lt y h3 c k4; omega
    · exact c
    · have := cum_lt y k3 c h4; omega
  exact ⟨rfl, rfl, by omega⟩
/-- The next day. -/
theorem CivIs.next {day y m d : Int} (h : CivIs day y m d) (hd : day < 73048) :
    (d < mlen y m ∧ CivIs (day + 1) y m (d + 1)) ∨ (d = mlen y m ∧ m < 12 ∧ CivIs (day + 1) y (m + 1) 1) ∨ (d = mlen y m ∧ m = 12 ∧ y < 2199 ∧ CivIs (day + 1) (y + 1) 1 1) := by
  have hy := h.year
  obtain ⟨h1, h2, h3, h4, h5, h6, h7⟩ := h
  by_cases c1 : d < mlen y m
  · exact .inl ⟨c1, h1, h2, h3, h4, by omega, by omega, by omega⟩
  · have e1 := cum_succ y h3 h4
    by_cases c2 : m < 12
    · have e2 := mlen_bd y (show 1 ≤ m + 1 by omega) (by omega)
      exact .inr (.inl ⟨by omega, c2, h1, h2, by omega, by omega, by omega, by omega, by omega⟩)
    · obtain rfl : m = 12 := by omega
      have e3 : cum y 13 = 365 + lp y := rfl
      have e4 := dby_succ h1 h2
      have e5 : (12 : Int) + 1 = 13 := rfl
      rw [e5] at e1
      have hy2 : y < 2199 := by
        rcases Int.lt_or_le y 2199 with c | c
        · exact c
        · obtain rfl : y = 2199 := by omega
          have : dby (2199 + 1) = 73049 := dby_end
          omega
      have e6 : mlen (y + 1) 1 = 31 := rfl
      have e7 : cum (y + 1) 1 = 0 := rfl
      exact .inr (.inr ⟨by omega, rfl, hy2, by omega, by omega, by omega, by omega, by omega, by omega, by omega⟩)
theorem civ_ex : ∀ n : Nat, n ≤ 73048 → ∃ y m d, CivIs n y m d
  | 0, _ => ⟨2000, 1, 1, by decide, by decide, by decide, by decide, by decide, by decide, by decide⟩
  | n + 1, h => by
    obtain ⟨y, m, d, hc⟩ := civ_ex n (by omega)
    have e : (((n + 1 : Nat)) : Int) = (n : Int) + 1 := by omega
    rw [e]
    rcases hc.next (by omega) with ⟨_, h⟩ | ⟨_, _, h⟩ | ⟨_, _, _, h⟩
    · exact ⟨_, _, _, h⟩
    · exact ⟨_, _, _, h⟩
    · exact ⟨_, _, _, h⟩
/-- A day. -/
def vday (day : Int) : Bool := decide (0 ≤ day ∧ day ≤ 73048)
theorem vday_iff {day : Int} : vday day = true ↔ 0 ≤ day ∧ day ≤ 73048 := by unfold vday; simp
theorem vday_no {day : Int} (h : vday day = false) : day < 0 ∨ 73048 < day := by unfold vday at h; simp at h; omega
/-- The civil date of a day; zeros if it is none. -/
noncomputable def civ (day : Int) : Int × Int × Int := by
  classical exact if h : ∃ t : Int × Int × Int, CivIs day t.1 t.2.1 t.2.2 then Classical.choose h else (0, 0, 0)
noncomputable def cY (day : Int) : Int := (civ day).1
noncomputable def cM (day : Int) : Int := (civ day).2.1
noncomputable def cD (day : Int) : Int := (civ day).2.2
theorem civ_of {day y m d : Int} (h : CivIs day y m d) : cY day = y ∧ cM day = m ∧ cD day = d := by
  have hex : ∃ t : Int × Int × Int, CivIs day t.1 t.2.1 t.2.2 := ⟨(y, m, d), h⟩
  unfold cY cM cD civ
  rw [dif_pos hex]
  exact (Classical.choose_spec hex).unique h
theorem civ_is {day : Int} (h : vday day = true) : CivIs day (cY day) (cM day) (cD day) := by
  obtain ⟨h1, h2⟩ := vday_iff.1 h
  obtain ⟨n, rfl⟩ : ∃ n : Nat, day = n := ⟨day.toNat, by omega⟩
  obtain ⟨y, m, d, hc⟩ := civ_ex n (by omega)
  obtain ⟨e1, e2, e3⟩ := civ_of hc
  rw [e1, e2, e3]
  exact hc
theorem civ_not {day : Int} (h : vday day = false) : cY day = 0 ∧ cM day = 0 ∧ cD day = 0 := by
  have hex : ¬ ∃ t : Int × Int × Int, CivIs day t.1 t.2.1 t.2.2 := fun ⟨t, ht⟩ => by have := ht.bd; have := vday_no h; omega
  unfold cY cM cD civ
  rw [dif_neg hex]
  exact ⟨rfl, rfl, rfl⟩
/-- A civil date that a day has. -/
def dyB (y m d : Int) : Bool := decide (2000 ≤ y ∧ y ≤ 2199 ∧ 1 ≤ d ∧ d ≤ mlen y m)
def dyV (y m d : Int) : Int := if dyB y m d then dby y + cum y m + d - 1 else 0
def dyE (y m d : Int) : Int := if dyB y m d then 0 else 1
theorem dyB_month {y m d : Int} (h : dyB y m d = true) : 2000 ≤ y ∧ y ≤ 2199 ∧ 1 ≤ m ∧ m ≤ 12 ∧ 1 ≤ d ∧ d ≤ mlen y m := by
  unfold dyB at h
  simp at h
  obtain ⟨a, b, c, d'⟩ := h
  rcases Decidable.em (1 ≤ m ∧ m ≤ 12) with hm | hm
  · exact ⟨a, b, hm.1, hm.2, c, d'⟩
  · rw [mlen_out y hm] at d'; omega
theorem dyB_civ {y m d : Int} (h : dyB y m d = true) : CivIs (dyV y m d) y m d := by
  obtain ⟨a, b, c, e, f, g⟩ := dyB_month h
  exact ⟨a, b, c, e, f, g, by unfold dyV; rw [if_pos h]⟩
theorem civ_dy {day y m d : Int} (h : CivIs day y m d) : dyB y m d = true ∧ dyV y m d = day ∧ dyE y m d = 0 := by
  obtain ⟨h1, h2, h3, h4, h5, h6, h7⟩ := h
  have hb : dyB y m d = true := by unfold dyB; simp; exact ⟨h1, h2, h5, h6⟩
  refine ⟨hb, ?_, ?_⟩
  · unfold dyV; rw [if_pos hb, h7]
  · unfold dyE; rw [if_pos hb]
/-- The last day of the month. -/
noncomputable def meR (day : Int) : Int := if vday day then day + mlen (cY day) (cM day) - cD day else -1
/-- The day of the week. -/
def wdR (day : Int) : Int := if vday day then (day + 5) % 7 else -1
/-- The day after some months. -/
noncomputable def amMo (day n : Int) : Int := 12 * cY day + cM day - 1 + n
noncomputable def amB (day n anchor : Int) : Bool := vday day && decide (-2400 ≤ n ∧ n ≤ 2400 ∧ 1 ≤ anchor ∧ anchor ≤ 31 ∧ 24000 ≤ amMo day n ∧ amMo day n < 26400)
noncomputable def amY (day n : Int) : Int := amMo day n / 12
noncomputable def amM (day n : Int) : Int := amMo day n % 12 + 1
noncomputable def amD (day n anchor : Int) : Int := min anchor (mlen (amY day n) (amM day n))
noncomputable def amV (day n anchor : Int) : Int := if amB day n anchor then dyV (amY day n) (amM day n) (amD day n anchor) else 0
noncomputable def amE (day n anchor : Int) : Int := if amB day n anchor then 0 else 1
theorem am_ok {day n anchor : Int} (h : amB day n anchor = true) : CivIs (amV day n anchor) (amY day n) (amM day n) (amD day n anchor) ∧ dyE (amY day n) (amM day n) (amD day n anchor) = 0 := by
  have hb := h
  unfold amB at hb
  simp at hb
  obtain ⟨h0, h1, h2, h3, h4, h5, h6⟩ := hb
  have hm := mlen_bd (amY day n) (m := amM day n) (by unfold amM; omega) (by unfold amM; omega)
  have hd : dyB (amY day n) (amM day n) (amD day n anchor) = true := by
    unfold dyB
    simp
    unfold amD at *
    refine ⟨by unfold amY; omega, by unfold amY; omega, by omega, by omega⟩
  constructor
  · unfold amV; rw [if_pos h]; exact dyB_civ hd
  · unfold dyE; rw [if_pos hd]
end Go.Proofs.YtodfpfbcjiganaaDoor
