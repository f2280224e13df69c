/- Texts laid together: ExL ExS ExM. -/
import Derived.Test.YtdjlaiilngechaaGreatDoorUAcK
import Derived.Test.YtdjlaiilngechaaGreatDoorUAcM
import Derived.Test.YtdjlaiilngechaaGreatDoorUKeep
import Derived.Test.YtdjlaiilngechaaGreatDoorURc
import Derived.Test.YtdjlaiilngechaaGreatDoorUReg
namespace Go.Proofs.YtdjlaiilngechaaGreatDoor
set_option maxRecDepth 4000
set_option linter.unusedSimpArgs false
set_option linter.unusedVariables false
open Go.RowKit
theorem grn_bd {x : LInt} {b day : Int} (hb : IIn b) : 0 ≤ grn x b day ∧ grn x b day ≤ 354859277876187696016453440000000000 := by
 have hg := slices_sl (x := x) hb
 unfold grn
 generalize slices x.tn x.f x.g x.mg b (rate x.tn x.f x.g b) = l at hg ⊢
 unfold grR
 split
 ·rename_i h
  have t := gsum_bd l.length h.1 (fun j hj => (hg.2.2 j hj).1) h.2.1 h.2.2
  refine ⟨t.1, Int.le_trans t.2 ?_⟩
  have : 59143212979364616002742240000000000 * (l.length : Int) ≤ 59143212979364616002742240000000000 * 6 := Int.mul_le_mul_of_nonneg_left (by have := h.1; omega) (by decide)
  omega
 ·exact ⟨Int.le_refl _, by decide⟩
/-- What an accrual obeys. -/
structure AcrOk (V : LAcr) : Prop where
 c0 : 0 ≤ V.cr
 c1 : V.cr ≤ 354859277876187696016453440000000000
 d0 : 0 ≤ V.db
 d1 : V.db ≤ 354859277876187696016453440000000000
 cb : V.bl ≤ 0 → V.cr = 0
 db : 0 ≤ V.bl → V.db = 0
theorem acr_ok (B : LBk) (id day : Int) : AcrOk (acr B id day) ∧ (acr B id day).ac = id ∧ (acr B id day).dy = day ∧ (actB B id day = true ∨ (acr B id day).bl = 0) := by
 cases ha : actB B id day with
 | false =>
  rw [acr_no ha]
  exact ⟨⟨by show (0 : Int) ≤ 0; decide, by show (0 : Int) ≤ _; decide, by show (0 : Int) ≤ 0; decide, by show (0 : Int) ≤ _; decide, fun _ => rfl, fun _ => rfl⟩, rfl, rfl, .inr rfl⟩
 | true =>
  cases hp : prdB B id day with
  | none =>
   rw [acr_none ha hp]
   exact ⟨⟨by show (0 : Int) ≤ 0; decide, by show (0 : Int) ≤ _; decide, by show (0 : Int) ≤ 0; decide, by show (0 : Int) ≤ _; decide, fun _ => rfl, fun _ => rfl⟩, rfl, rfl, .inl rfl⟩
  | some k =>
   have h1 := grn_bd (x := (B.P k).cr) (day := day) (balB_in B id day)
   have h2 := grn_bd (x := (B.P k).db) (day := day) (balB_in B id day)
   by_cases c : 0 < balB B id day
   ·rw [acr_pos ha hp c]
    exact ⟨⟨h1.1, h1.2, by show (0 : Int) ≤ 0; decide, by show (0 : Int) ≤ _; decide, fun h => absurd c (by exact Int.not_lt.2 h), fun _ => rfl⟩, rfl, rfl, .inl rfl⟩
   ·by_cases c2 : balB B id day < 0
    ·rw [acr_neg ha hp c2]
     exact ⟨⟨by show (0 : Int) ≤ 0; decide, by show (0 : Int) ≤ _; decide, h2.1, h2.2, fun _ => rfl, fun h => absurd c2 (by exact Int.not_lt.2 h)⟩, rfl, rfl, .inl rfl⟩
    ·rw [acr_zero ha hp (by omega)]
     exact ⟨⟨by show (0 : Int) ≤ 0; decide, by show (0 : Int) ≤ _; decide, by show (0 : Int) ≤ 0; decide, by show (0 : Int) ≤ _; decide, fun _ => rfl, fun _ => rfl⟩, rfl, rfl, .inl rfl⟩
end Go.Proofs.YtdjlaiilngechaaGreatDoor
namespace Go.Proofs.YtdjlaiilngechaaGreatDoor
set_option maxRecDepth 4000
set_option linter.unusedSimpArgs false
set_option linter.unusedVariables false
open Go.RowKit
theorem serL_at (B : LBk) (id f : Int) : ∀ n k, k < n → atR (serL B id f n) k = acr B id (f + k)
 | 0, k, h => by omega
 | n + 1, k, h => by
  unfold serL
  by_cases hk : k < n
  ·rw [← serL_at B id f n k hk]
   unfold atR
   rw [List.getD_eq_getElem?_getD, List.getD_eq_getElem?_getD, List.getElem?_append_left (by rw [serL_len]; exact hk)]
  ·obtain rfl : k = n := by omega
   unfold atR
   rw [List.getD_eq_getElem?_getD, List.getElem?_append_right (by rw [serL_len]; exact Nat.le_refl _), serL_len, Nat.sub_self]
   rfl
/-- The accruals of a span of days. -/
noncomputable def acrN (B : LBk) (id f : Int) (k : Nat) : LAcr := acr B id (f + k)
theorem ser_row {w : World} {A : Option Addr} {B : LBk} {id f t : Int} {n : Nat} (h : serE B id f t = 0) (hn : (n : Int) = t - f + 1) (hr : RowAcr w A (serV B id f t).length (atR (serV B id f t))) : (serV B id f t).length = n ∧ RowAcr w A n (acrN B id f) := by
 rw [ser_ok h hn, serL_len] at hr ⊢
 exact ⟨rfl, RowS.congr hr fun k j hk _ => by rw [serL_at B id f n k hk]; rfl⟩
theorem ser_fine {B : LBk} {id f t : Int} (h : serE B id f t = 0) : hasB B id = true ∧ vday f = true ∧ vday t = true := by
 cases h1 : hasB B id with
 | false => rw [ser_0 f t h1] at h; cases h
 | true =>
  cases h2 : vday f with
  | false => rw [ser_1 t h1 h2] at h; cases h
  | true =>
   cases h3 : vday t with
   | false => rw [ser_2 h1 h2 h3] at h; cases h
   | true => exact ⟨rfl, rfl, rfl⟩
end Go.Proofs.YtdjlaiilngechaaGreatDoor
namespace Go.Proofs.YtdjlaiilngechaaGreatDoor
set_option maxRecDepth 4000
set_option linter.unusedSimpArgs false
set_option linter.unusedVariables false
open Go.RowKit
/-- The contents of a line. -/
structure Lin where
 fr : Int
 tt : Int
 bl : Int
 we : Int
 sl : List (Int × Int)
 gr : Int
def zLin : Lin := ⟨0, 0, 0, 0, [], 0⟩
/-- The slices of a balance. -/
def sliL (x : LInt) (b : Int) : List (Int × Int) := slices x.tn x.f x.g x.mg b (rate x.tn x.f x.g b)
def sdP (p : LPro) (b : Int) : LInt := if b < 0 then p.db else p.cr
/-- The slices and the weight of a day. -/
noncomputable def oneS (B : LBk) (id day b : Int) : List (Int × Int) :=
 if actB B id day = true then (match prdB B id day with | some k => sliL (sdP (B.P k) b) b | none => []) else []
noncomputable def oneW (B : LBk) (id day b : Int) : Int :=
 if oneS B id day b = [] then 0 else (match prdB B id day with | some k => wgt (sdP (B.P k) b).ba day | none => 0)
/-- The line of a day. -/
noncomputable def oneP (B : LBk) (a : LAcr) : Lin := ⟨a.dy, a.dy, a.bl, oneW B a.ac a.dy a.bl, oneS B a.ac a.dy a.bl, a.cr - a.db⟩
theorem wgt_bd (ba day : Int) : -320616000 ≤ wgt ba day ∧ wgt ba day ≤ 322392747 := by
 have := thr_bd day (day + 1)
 unfold wgt
 repeat' split
 all_goals omega
theorem oneW_bd (B : LBk) (id day b : Int) : -320616000 ≤ oneW B id day b ∧ oneW B id day b ≤ 322392747 := by
 unfold oneW
 split
 ·omega
 ·split
  ·exact wgt_bd _ _
  ·omega
theorem oneS_good {B : LBk} {id day b : Int} (hb : IIn b) : goodSl (oneS B id day b) := by
 have h0 : goodSl [] := ⟨by simp, good_nil, fun k hk => by simp at hk⟩
 unfold oneS
 split
 ·split
  ·exact slices_sl hb
  ·exact h0
 ·exact h0
/-! ### How lines join -/
def fitsL (y x : Lin) : Bool := (y.bl == x.bl) && (y.sl == x.sl)
def joinL (y x : Lin) : Lin := ⟨y.fr, x.tt, y.bl, y.we + x.we, y.sl, y.gr + x.gr⟩
def stepL (s : List Lin × Lin) (x : Lin) : List Lin × Lin := if fitsL s.2 x = true then (s.1, joinL s.2 x) else (s.1 ++ [s.2], x)
/-- The lines behind day k, and the line at hand. -/
def lnS (f : Nat → Lin) : Nat → List Lin × Lin
 | 0 => ([], f 0)
 | k + 1 => stepL (lnS f k) (f (k + 1))
theorem lnS_succ (f : Nat → Lin) (k : Nat) : lnS f (k + 1) = stepL (lnS f k) (f (k + 1)) := rfl
/-- The lines of n days. -/
def lnL (f : Nat → Lin) : Nat → List Lin
 | 0 => []
 | k + 1 => (lnS f k).1 ++ [(lnS f k).2]
theorem step_yes {s : List Lin × Lin} {x : Lin} (h : fitsL s.2 x = true) : stepL s x = (s.1, joinL s.2 x) := if_pos h
theorem step_no {s : List Lin × Lin} {x : Lin} (h : fitsL s.2 x = false) : stepL s x = (s.1 ++ [s.2], x) := if_neg (by rw [h]; decide)
theorem fits_iff {y x : Lin} : fitsL y x = true ↔ y.bl = x.bl ∧ y.sl = x.sl := by unfold fitsL; simp
theorem lnS_len (f : Nat → Lin) : ∀ k, (lnS f k).1.length ≤ k
 | 0 => Nat.le_refl _
 | k + 1 => by
  have ih := lnS_len f k
  unfold lnS stepL
  split
  ·simp only []; omega
  ·simp only [List.length_append, List.length_singleton]; omega
theorem lnL_len (f : Nat → Lin) : ∀ n, (lnL f n).length ≤ n
 | 0 => Nat.le_refl _
 | k + 1 => by
  have := lnS_len f k
  unfold lnL
  rw [List.length_append, List.length_singleton]
  omega
/-- The bounds of a line's numbers over k days. -/
structure LinB (k : Int) (x : Lin) : Prop where
 w0 : -320616000 * k ≤ x.we
 w1 : x.we ≤ 322392747 * k
 g0 : -354859277876187696016453440000000000 * k ≤ x.gr
 g1 : x.gr ≤ 354859277876187696016453440000000000 * k
theorem LinB.up {j k : Int} {x : Lin} (h : LinB j x) (hk : j ≤ k) : LinB k x := by
 obtain ⟨a, b, c, d⟩ := h
 exact ⟨by omega, by omega, by omega, by omega⟩
theorem LinB.win {k : Int} {x : Lin} (h : LinB k x) (hk : k ≤ 400) : WIn x.gr ∧ IIn x.we := by
 obtain ⟨a, b, c, d⟩ := h
 unfold WIn IIn
 omega
theorem LinB.join {j k : Int} {x y : Lin} (h : LinB j y) (hx : LinB k x) : LinB (j + k) (joinL y x) := by
 obtain ⟨a, b, c, d⟩ := h
 obtain ⟨a', b', c', d'⟩ := hx
 refine ⟨?_, ?_, ?_, ?_⟩ <;> simp only [joinL] <;> omega
theorem oneP_bd {B : LBk} {a : LAcr} (h : AcrOk a) : LinB 1 (oneP B a) := by
 have h0 := h.c0
 have h1 := h.c1
 have h2 := h.d0
 have h3 := h.d1
 have w := oneW_bd B a.ac a.dy a.bl
 refine ⟨?_, ?_, ?_, ?_⟩ <;> simp only [oneP] <;> omega
theorem lnS_bd {f : Nat → Lin} : ∀ {k : Nat}, (∀ i, i ≤ k → LinB 1 (f i)) → LinB (k + 1) (lnS f k).2 ∧ ∀ x, x ∈ (lnS f k).1 → LinB (k + 1) x
 | 0, h => ⟨h 0 (Nat.le_refl _), fun x hx => absurd hx (by simp [lnS])⟩
 | k + 1, h => by
  have ih := lnS_bd (f := f) (k := k) (fun i hi => h i (by omega))
  have hk := h (k + 1) (Nat.le_refl _)
  rw [lnS_succ]
  cases c : fitsL (lnS f k).2 (f (k + 1)) with
  | true =>
   rw [step_yes c]
   exact ⟨by have := ih.1.join hk; simpa using this, fun x hx => (ih.2 x hx).up (by omega)⟩
  | false =>
   rw [step_no c]
   refine ⟨hk.up (by omega), fun x hx => ?_⟩
   rcases List.mem_append.1 hx with hx | hx
   ·exact (ih.2 x hx).up (by omega)
   ·rw [List.mem_singleton.1 hx]
    exact ih.1.up (by omega)
/-! ### The sum of the lines -/
/-! ### What Sum answers -/
/-- Sum, over the first k lines of a row. -/
def smF (f : Nat → Lin) : Nat → Option Int
 | 0 => some 0
 | k + 1 => match smF f k with
  | none => none
  | some s => if fitE (s + (f k).gr) = 0 then some (s + (f k).gr) else none
def smFV (f : Nat → Lin) (n : Nat) : Int := match smF f n with | some s => s | none => 0
def smFE (f : Nat → Lin) (n : Nat) : Int := match smF f n with | some _ => 0 | none => 6
theorem smF_mono {f : Nat → Lin} {k : Nat} (h : smF f k = none) : ∀ {n : Nat}, k ≤ n → smF f n = none := by
 intro n hn
 induction hn with
 | refl => exact h
 | step _ ih => unfold smF; rw [ih]
theorem smF_step {f : Nat → Lin} {k : Nat} {s : Int} (h : smF f k = some s) (h1 : fitE (s + (f k).gr) = 0) : smF f (k + 1) = some (s + (f k).gr) := by
 unfold smF; rw [h]; exact if_pos h1
theorem smF_fail {f : Nat → Lin} {k n : Nat} {s : Int} (h : smF f k = some s) (hk : k < n) (h1 : ¬ fitE (s + (f k).gr) = 0) : smF f n = none :=
 smF_mono (k := k + 1) (by unfold smF; rw [h]; exact if_neg h1) hk
theorem smF_win {f : Nat → Lin} : ∀ {k : Nat} {s : Int}, smF f k = some s → WIn s
 | 0, s, h => by
  unfold smF at h
  injection h with h
  subst h
  unfold WIn; omega
 | k + 1, s, h => by
  unfold smF at h
  split at h
  ·cases h
  ·split at h
   ·rename_i hh
    injection h with h
    subst h
    exact fitE_iff.1 hh
   ·cases h
/-! ### What the lines cover -/
end Go.Proofs.YtdjlaiilngechaaGreatDoor
