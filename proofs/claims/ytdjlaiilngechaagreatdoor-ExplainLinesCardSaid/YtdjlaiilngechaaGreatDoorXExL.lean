/- Texts laid together: ExL ExS ExM ExA. -/
import Derived.Test.YtdjlaiilngechaaGreatDoorXAcK
import Derived.Test.YtdjlaiilngechaaGreatDoorXAcM
import Derived.Test.YtdjlaiilngechaaGreatDoorXWa
import Derived.Test.YtdjlaiilngechaaGreatDoorXRc
import Derived.Test.YtdjlaiilngechaaGreatDoorXReg
import Derived.Test.YtdjlaiilngechaaGreatDoorXK0
namespace Go.Proofs.YtdjlaiilngechaaGreatDoor
set_option maxRecDepth 4000
set_option linter.unusedSimpArgs false
set_option linter.unusedVariables false
open Go.RowKit
theorem grn_bd {x : LInt} {b day : Int} (hb : IIn b) : 0 ≤ grn x b day ∧ grn x b day ≤ 354859277876187696016453440000000000 := by
 have hg := slices_sl (x := x) hb
 unfold grn
 generalize slices x.tn x.f x.g x.mg b (rate x.tn x.f x.g b) = l at hg ⊢
 unfold grR
 split
 ·rename_i h
  have t := gsum_bd l.length h.1 (fun j hj => (hg.2.2 j hj).1) h.2.1 h.2.2
  refine ⟨t.1, Int.le_trans t.2 ?_⟩
  have : 59143212979364616002742240000000000 * (l.length : Int) ≤ 59143212979364616002742240000000000 * 6 := Int.mul_le_mul_of_nonneg_left (by have := h.1; omega) (by decide)
  omega
 ·exact ⟨Int.le_refl _, by decide⟩
/-- What an accrual obeys. -/
structure AcrOk (V : LAcr) : Prop where
 c0 : 0 ≤ V.cr
 c1 : V.cr ≤ 354859277876187696016453440000000000
 d0 : 0 ≤ V.db
 d1 : V.db ≤ 354859277876187696016453440000000000
 cb : V.bl ≤ 0 → V.cr = 0
 db : 0 ≤ V.bl → V.db = 0
theorem acr_ok (B : LBk) (id day : Int) : AcrOk (acr B id day) ∧ (acr B id day).ac = id ∧ (acr B id day).dy = day ∧ (actB B id day = true ∨ (acr B id day).bl = 0) := by
 cases ha : actB B id day with
 | false =>
  rw [acr_no ha]
  exact ⟨⟨by show (0 : Int) ≤ 0; decide, by show (0 : Int) ≤ _; decide, by show (0 : Int) ≤ 0; decide, by show (0 : Int) ≤ _; decide, fun _ => rfl, fun _ => rfl⟩, rfl, rfl, .inr rfl⟩
 | true =>
  cases hp : prdB B id day with
  | none =>
   rw [acr_none ha hp]
   exact ⟨⟨by show (0 : Int) ≤ 0; decide, by show (0 : Int) ≤ _; decide, by show (0 : Int) ≤ 0; decide, by show (0 : Int) ≤ _; decide, fun _ => rfl, fun _ => rfl⟩, rfl, rfl, .inl rfl⟩
  | some k =>
   have h1 := grn_bd (x := (B.P k).cr) (day := day) (balB_in B id day)
   have h2 := grn_bd (x := (B.P k).db) (day := day) (balB_in B id day)
   by_cases c : 0 < balB B id day
   ·rw [acr_pos ha hp c]
    exact ⟨⟨h1.1, h1.2, by show (0 : Int) ≤ 0; decide, by show (0 : Int) ≤ _; decide, fun h => absurd c (by exact Int.not_lt.2 h), fun _ => rfl⟩, rfl, rfl, .inl rfl⟩
   ·by_cases c2 : balB B id day < 0
    ·rw [acr_neg ha hp c2]
     exact ⟨⟨by show (0 : Int) ≤ 0; decide, by show (0 : Int) ≤ _; decide, h2.1, h2.2, fun _ => rfl, fun h => absurd c2 (by exact Int.not_lt.2 h)⟩, rfl, rfl, .inl rfl⟩
    ·rw [acr_zero ha hp (by omega)]
     exact ⟨⟨by show (0 : Int) ≤ 0; decide, by show (0 : Int) ≤ _; decide, by show (0 : Int) ≤ 0; decide, by show (0 : Int) ≤ _; decide, fun _ => rfl, fun _ => rfl⟩, rfl, rfl, .inl rfl⟩
end Go.Proofs.YtdjlaiilngechaaGreatDoor
namespace Go.Proofs.YtdjlaiilngechaaGreatDoor
set_option maxRecDepth 4000
set_option linter.unusedSimpArgs false
set_option linter.unusedVariables false
open Go.RowKit
theorem serL_at (B : LBk) (id f : Int) : ∀ n k, k < n → atR (serL B id f n) k = acr B id (f + k)
 | 0, k, h => by omega
 | n + 1, k, h => by
  unfold serL
  by_cases hk : k < n
  ·rw [← serL_at B id f n k hk]
   unfold atR
   rw [List.getD_eq_getElem?_getD, List.getD_eq_getElem?_getD, List.getElem?_append_left (by rw [serL_len]; exact hk)]
  ·obtain rfl : k = n := by omega
   unfold atR
   rw [List.getD_eq_getElem?_getD, List.getElem?_append_right (by rw [serL_len]; exact Nat.le_refl _), serL_len, Nat.sub_self]
   rfl
/-- The accruals of a span of days. -/
noncomputable def acrN (B : LBk) (id f : Int) (k : Nat) : LAcr := acr B id (f + k)
theorem ser_row {w : World} {A : Option Addr} {B : LBk} {id f t : Int} {n : Nat} (h : serE B id f t = 0) (hn : (n : Int) = t - f + 1) (hr : RowAcr w A (serV B id f t).length (atR (serV B id f t))) : (serV B id f t).length = n ∧ RowAcr w A n (acrN B id f) := by
 rw [ser_ok h hn, serL_len] at hr ⊢
 exact ⟨rfl, RowS.congr hr fun k j hk _ => by rw [serL_at B id f n k hk]; rfl⟩
theorem ser_fine {B : LBk} {id f t : Int} (h : serE B id f t = 0) : hasB B id = true ∧ vday f = true ∧ vday t = true := by
 cases h1 : hasB B id with
 | false => rw [ser_0 f t h1] at h; cases h
 | true =>
  cases h2 : vday f with
  | false => rw [ser_1 t h1 h2] at h; cases h
  | true =>
   cases h3 : vday t with
   | false => rw [ser_2 h1 h2 h3] at h; cases h
   | true => exact ⟨rfl, rfl, rfl⟩
end Go.Proofs.YtdjlaiilngechaaGreatDoor
namespace Go.Proofs.YtdjlaiilngechaaGreatDoor
set_option maxRecDepth 4000
set_option linter.unusedSimpArgs false
set_option linter.unusedVariables false
open Go.RowKit
/-- The contents of a line. -/
structure Lin where
 fr : Int
 tt : Int
 bl : Int
 we : Int
 sl : List (Int × Int)
 gr : Int
def zLin : Lin := ⟨0, 0, 0, 0, [], 0⟩
/-- The slices of a balance. -/
def sliL (x : LInt) (b : Int) : List (Int × Int) := slices x.tn x.f x.g x.mg b (rate x.tn x.f x.g b)
def sdP (p : LPro) (b : Int) : LInt := if b < 0 then p.db else p.cr
/-- The slices and the weight of a day. -/
noncomputable def oneS (B : LBk) (id day b : Int) : List (Int × Int) :=
 if actB B id day = true then (match prdB B id day with | some k => sliL (sdP (B.P k) b) b | none => []) else []
noncomputable def oneW (B : LBk) (id day b : Int) : Int :=
 if oneS B id day b = [] then 0 else (match prdB B id day with | some k => wgt (sdP (B.P k) b).ba day | none => 0)
/-- The line of a day. -/
noncomputable def oneP (B : LBk) (a : LAcr) : Lin := ⟨a.dy, a.dy, a.bl, oneW B a.ac a.dy a.bl, oneS B a.ac a.dy a.bl, a.cr - a.db⟩
theorem wgt_bd (ba day : Int) : -320616000 ≤ wgt ba day ∧ wgt ba day ≤ 322392747 := by
 have := thr_bd day (day + 1)
 unfold wgt
 repeat' split
 all_goals omega
theorem oneW_bd (B : LBk) (id day b : Int) : -320616000 ≤ oneW B id day b ∧ oneW B id day b ≤ 322392747 := by
 unfold oneW
 split
 ·omega
 ·split
  ·exact wgt_bd _ _
  ·omega
theorem oneS_good {B : LBk} {id day b : Int} (hb : IIn b) : goodSl (oneS B id day b) := by
 have h0 : goodSl [] := ⟨by simp, good_nil, fun k hk => by simp at hk⟩
 unfold oneS
 split
 ·split
  ·exact slices_sl hb
  ·exact h0
 ·exact h0
/-! ### How lines join -/
def fitsL (y x : Lin) : Bool := (y.bl == x.bl) && (y.sl == x.sl)
def joinL (y x : Lin) : Lin := ⟨y.fr, x.tt, y.bl, y.we + x.we, y.sl, y.gr + x.gr⟩
def stepL (s : List Lin × Lin) (x : Lin) : List Lin × Lin := if fitsL s.2 x = true then (s.1, joinL s.2 x) else (s.1 ++ [s.2], x)
/-- The lines behind day k, and the line at hand. -/
def lnS (f : Nat → Lin) : Nat → List Lin × Lin
 | 0 => ([], f 0)
 | k + 1 => stepL (lnS f k) (f (k + 1))
theorem lnS_succ (f : Nat → Lin) (k : Nat) : lnS f (k + 1) = stepL (lnS f k) (f (k + 1)) := rfl
/-- The lines of n days. -/
def lnL (f : Nat → Lin) : Nat → List Lin
 | 0 => []
 | k + 1 => (lnS f k).1 ++ [(lnS f k).2]
theorem step_yes {s : List Lin × Lin} {x : Lin} (h : fitsL s.2 x = true) : stepL s x = (s.1, joinL s.2 x) := if_pos h
theorem step_no {s : List Lin × Lin} {x : Lin} (h : fitsL s.2 x = false) : stepL s x = (s.1 ++ [s.2], x) := if_neg (by rw [h]; decide)
theorem fits_iff {y x : Lin} : fitsL y x = true ↔ y.bl = x.bl ∧ y.sl = x.sl := by unfold fitsL; simp
theorem lnS_len (f : Nat → Lin) : ∀ k, (lnS f k).1.length ≤ k
 | 0 => Nat.le_refl _
 | k + 1 => by
  have ih := lnS_len f k
  unfold lnS stepL
  split
  ·simp only []; omega
  ·simp only [List.length_append, List.length_singleton]; omega
theorem lnL_len (f : Nat → Lin) : ∀ n, (lnL f n).length ≤ n
 | 0 => Nat.le_refl _
 | k + 1 => by
  have := lnS_len f k
  unfold lnL
  rw [List.length_append, List.length_singleton]
  omega
/-- The bounds of a line's numbers over k days. -/
structure LinB (k : Int) (x : Lin) : Prop where
 w0 : -320616000 * k ≤ x.we
 w1 : x.we ≤ 322392747 * k
 g0 : -354859277876187696016453440000000000 * k ≤ x.gr
 g1 : x.gr ≤ 354859277876187696016453440000000000 * k
theorem LinB.up {j k : Int} {x : Lin} (h : LinB j x) (hk : j ≤ k) : LinB k x := by
 obtain ⟨a, b, c, d⟩ := h
 exact ⟨by omega, by omega, by omega, by omega⟩
theorem LinB.win {k : Int} {x : Lin} (h : LinB k x) (hk : k ≤ 400) : WIn x.gr ∧ IIn x.we := by
 obtain ⟨a, b, c, d⟩ := h
 unfold WIn IIn
 omega
theorem LinB.join {j k : Int} {x y : Lin} (h : LinB j y) (hx : LinB k x) : LinB (j + k) (joinL y x) := by
 obtain ⟨a, b, c, d⟩ := h
 obtain ⟨a', b', c', d'⟩ := hx
 refine ⟨?_, ?_, ?_, ?_⟩ <;> simp only [joinL] <;> omega
theorem oneP_bd {B : LBk} {a : LAcr} (h : AcrOk a) : LinB 1 (oneP B a) := by
 have h0 := h.c0
 have h1 := h.c1
 have h2 := h.d0
 have h3 := h.d1
 have w := oneW_bd B a.ac a.dy a.bl
 refine ⟨?_, ?_, ?_, ?_⟩ <;> simp only [oneP] <;> omega
theorem lnS_bd {f : Nat → Lin} : ∀ {k : Nat}, (∀ i, i ≤ k → LinB 1 (f i)) → LinB (k + 1) (lnS f k).2 ∧ ∀ x, x ∈ (lnS f k).1 → LinB (k + 1) x
 | 0, h => ⟨h 0 (Nat.le_refl _), fun x hx => absurd hx (by simp [lnS])⟩
 | k + 1, h => by
  have ih := lnS_bd (f := f) (k := k) (fun i hi => h i (by omega))
  have hk := h (k + 1) (Nat.le_refl _)
  rw [lnS_succ]
  cases c : fitsL (lnS f k).2 (f (k + 1)) with
  | true =>
   rw [step_yes c]
   exact ⟨by have := ih.1.join hk; simpa using this, fun x hx => (ih.2 x hx).up (by omega)⟩
  | false =>
   rw [step_no c]
   refine ⟨hk.up (by omega), fun x hx => ?_⟩
   rcases List.mem_append.1 hx with hx | hx
   ·exact (ih.2 x hx).up (by omega)
   ·rw [List.mem_singleton.1 hx]
    exact ih.1.up (by omega)
/-! ### The sum of the lines -/
/-! ### What Sum answers -/
/-- Sum, over the first k lines of a row. -/
def smF (f : Nat → Lin) : Nat → Option Int
 | 0 => some 0
 | k + 1 => match smF f k with
  | none => none
  | some s => if fitE (s + (f k).gr) = 0 then some (s + (f k).gr) else none
def smFV (f : Nat → Lin) (n : Nat) : Int := match smF f n with | some s => s | none => 0
def smFE (f : Nat → Lin) (n : Nat) : Int := match smF f n with | some _ => 0 | none => 6
theorem smF_mono {f : Nat → Lin} {k : Nat} (h : smF f k = none) : ∀ {n : Nat}, k ≤ n → smF f n = none := by
 intro n hn
 induction hn with
 | refl => exact h
 | step _ ih => unfold smF; rw [ih]
theorem smF_step {f : Nat → Lin} {k : Nat} {s : Int} (h : smF f k = some s) (h1 : fitE (s + (f k).gr) = 0) : smF f (k + 1) = some (s + (f k).gr) := by
 unfold smF; rw [h]; exact if_pos h1
theorem smF_fail {f : Nat → Lin} {k n : Nat} {s : Int} (h : smF f k = some s) (hk : k < n) (h1 : ¬ fitE (s + (f k).gr) = 0) : smF f n = none :=
 smF_mono (k := k + 1) (by unfold smF; rw [h]; exact if_neg h1) hk
theorem smF_win {f : Nat → Lin} : ∀ {k : Nat} {s : Int}, smF f k = some s → WIn s
 | 0, s, h => by
  unfold smF at h
  injection h with h
  subst h
  unfold WIn; omega
 | k + 1, s, h => by
  unfold smF at h
  split at h
  ·cases h
  ·split at h
   ·rename_i hh
    injection h with h
    subst h
    exact fitE_iff.1 hh
   ·cases h
/-! ### What the lines cover -/
end Go.Proofs.YtdjlaiilngechaaGreatDoor
namespace Go.Proofs.YtdjlaiilngechaaGreatDoor
set_option maxRecDepth 4000
set_option linter.unusedSimpArgs false
set_option linter.unusedVariables false
open Go.RowKit
theorem run_sub64 {P : Program} (x y : Int) (hx : 0 ≤ x) (hx2 : x < 18446744073709551616) (hy : 0 ≤ y) (hy2 : y < 18446744073709551616) (w : World) :
  ((Extern.MathBitsCarry.rows[1]'(by decide)).2 #[.int .u64 x, .int .u64 y, .int .u64 0]).run P w = .ok (.tuple #[.int .u64 (loW (x - y)), .int .u64 (-hiW (x - y))]) w := by
 have key : ((Extern.MathBitsCarry.rows[1]'(by decide)).2 #[.int .u64 x, .int .u64 y, .int .u64 0]).run P w =
   .ok (Extern.MathBitsCarry.pair ((x.toNat + Extern.MathBitsCarry.m64 - y.toNat - 0) % Extern.MathBitsCarry.m64) (if x.toNat < y.toNat + 0 then 1 else 0)) w := rfl
 rw [key]
 obtain ⟨X, rfl⟩ := Int.eq_ofNat_of_zero_le hx
 obtain ⟨Y, rfl⟩ := Int.eq_ofNat_of_zero_le hy
 simp only [Extern.MathBitsCarry.pair, Extern.MathBitsCarry.m64, Int.toNat_natCast, Nat.add_zero, Nat.sub_zero]
 have e1 : Int.ofNat ((X + 2 ^ 64 - Y) % 2 ^ 64) = loW ((X : Int) - Y) := by
  unfold loW
  show (((X + 2 ^ 64 - Y) % 2 ^ 64 : Nat) : Int) = _
  omega
 have e2 : Int.ofNat (if X < Y then 1 else 0) = -hiW ((X : Int) - Y) := by
  unfold hiW
  split
  ·show (1 : Int) = _; omega
  ·show (0 : Int) = _; omega
 rw [e1, e2]
theorem sub64_0 (x y : Int) (hx : 0 ≤ x) (hx2 : x < 18446744073709551616) (hy : 0 ≤ y) (hy2 : y < 18446744073709551616) (w : World) : (callFunc 45 #[.int .u64 x, .int .u64 y, .int .u64 0]).run Tryz.prog w =
  .ok (.value (.tuple #[.int .u64 (loW (x - y)), .int .u64 (-hiW (x - y))])) w := by
 rw [run_callFunc_extern Tryz.func45 (by kernel_rfl) (by kernel_rfl) (by kernel_rfl) (e := (Extern.MathBitsCarry.rows[1]'(by decide)).2) (by kernel_rfl), run_sub64 x y hx hx2 hy hy2]
 rfl
theorem sub_sum (x y : Int) : x - y = (hiW x - hiW y - -hiW (loW x - loW y)) * 18446744073709551616 + loW (loW x - loW y) := by unfold hiW loW; omega
theorem sub_parts (x y : Int) : hiW (x - y) = hiW x - hiW y - -hiW (loW x - loW y) ∧ loW (x - y) = loW (loW x - loW y) :=
 of_hi_lo (sub_sum x y) (lo_bd _).1 (lo_bd _).2
theorem sub_win (x y : Int) : WIn (x - y) ↔ -9223372036854775808 ≤ hiW x - hiW y - -hiW (loW x - loW y) ∧ hiW x - hiW y - -hiW (loW x - loW y) ≤ 9223372036854775807 :=
 win_hi (sub_sum x y) (lo_bd _).1 (lo_bd _).2
theorem sub_wrap (a b c : Int) (a1 : -9223372036854775808 ≤ a) (a2 : a ≤ 9223372036854775807) (b1 : -9223372036854775808 ≤ b) (b2 : b ≤ 9223372036854775807) (c1 : 0 ≤ c) (c2 : c ≤ 1) :
  (¬ (a < 0 ↔ b < 0) → (wrap64 (wrap64 (a - b) - c) < 0 ↔ a < 0) → -9223372036854775808 ≤ a - b - c ∧ a - b - c ≤ 9223372036854775807 ∧ wrap64 (wrap64 (a - b) - c) = a - b - c) ∧
  (¬ (a < 0 ↔ b < 0) → ¬ (wrap64 (wrap64 (a - b) - c) < 0 ↔ a < 0) → ¬ (-9223372036854775808 ≤ a - b - c ∧ a - b - c ≤ 9223372036854775807)) ∧
  ((a < 0 ↔ b < 0) → -9223372036854775808 ≤ a - b - c ∧ a - b - c ≤ 9223372036854775807 ∧ wrap64 (wrap64 (a - b) - c) = a - b - c) := by
 unfold wrap64; omega
theorem bne_iff2 {p q : Prop} [Decidable p] [Decidable q] : (!decide p == decide q) = true ↔ ¬ (p ↔ q) := by
 by_cases hp : p <;> by_cases hq : q <;> simp [hp, hq]
set_option maxHeartbeats 400000 in
theorem wsub_any (x y : Int) (hx : WIn x) (hy : WIn y) (w : World) :
  Calls Tryz.prog 24 #[.agg #[.int .i64 (hiW x), .int .u64 (loW x)], .agg #[.int .i64 (hiW y), .int .u64 (loW y)]] w fun e w' =>
   e = .returned (.tuple #[.agg #[.int .i64 (hiW (fitR (x - y))), .int .u64 (loW (fitR (x - y)))], .int .i64 (fitE (x - y))]) ∧ Below w.heap.size w w' := by
 obtain ⟨a1, a2⟩ := hi_bd hx; obtain ⟨b1, b2⟩ := hi_bd hy; obtain ⟨c1, c2⟩ := lo_bd x; obtain ⟨d1, d2⟩ := lo_bd y
 have k0 : 0 ≤ -hiW (loW x - loW y) := by unfold hiW; omega
 have k1 : -hiW (loW x - loW y) ≤ 1 := by unfold hiW; omega
 have HW := hide (sub_win x y)
 have HP := hide (sub_parts x y)
 obtain ⟨m1, m2, m3⟩ := sub_wrap _ _ _ a1 a2 b1 b2 k0 k1
 have HS := hide (sub64_0 (loW x) (loW y) c1 c2 d1 d2)
 obtain ⟨c, hc⟩ : ∃ c, c = -hiW (loW x - loW y) := ⟨_, rfl⟩
 rw [← hc] at k0 k1 HW HP m1 m2 m3 HS
 have M1 := hide m1; have M2 := hide m2; have M3 := hide m3
 clear m1 m2 m3 hc
 go_enter Tryz.func24, Tryz.ntmps24
 go_wp2_with (simp only [HS.out])
 ·rename_i h1
  have hn := M3.out (by simpa using h1)
  have hw : WIn (x - y) := by rw [HW.out]; exact ⟨hn.1, hn.2.1⟩
  rw [fitR_of hw, fitE_of hw]
  refine bodyPost_ret (v := .tuple #[.agg #[.int .i64 (wrap64 (wrap64 (hiW x - hiW y) - c)), .int .u64 (loW (loW x - loW y))], .int .i64 0]) (by simp [results, Tryz.results24, go_sem]) rfl ⟨?_, ?_⟩
  ·rw [hn.2.2, HP.out.1, HP.out.2]
  (repeat (first | (with_reducible first | exact Below.refl _ _ | assumption | refine Below.drew ?_) | ((with_reducible first | refine Below.alloc ?_ ?_ _ | refine Below.setCell ?_ ?_ _); rotate_left; (first | omega | (simp <;> omega)))))
 ·rename_i h1
  have hn : ¬ WIn (x - y) := by rw [HW.out]; exact M2.out (bne_iff2.1 h1.1) (bne_iff2.1 h1.2)
  rw [fitR_not hn, fitE_not hn, hi_zero, lo_zero]
  refine bodyPost_ret (v := .tuple #[.agg #[.int .i64 0, .int .u64 0], .int .i64 6]) (by simp [results, Tryz.results24, go_sem]) rfl ⟨rfl, ?_⟩
  (repeat (first | (with_reducible first | exact Below.refl _ _ | assumption | refine Below.drew ?_) | ((with_reducible first | refine Below.alloc ?_ ?_ _ | refine Below.setCell ?_ ?_ _); rotate_left; (first | omega | (simp <;> omega)))))
 ·rename_i h2
  have hn : -9223372036854775808 ≤ hiW x - hiW y - c ∧ hiW x - hiW y - c ≤ 9223372036854775807 ∧ wrap64 (wrap64 (hiW x - hiW y) - c) = hiW x - hiW y - c := by
   by_cases h1 : (hiW x < 0 ↔ hiW y < 0)
   ·exact M3.out h1
   ·rcases h2 with h2 | h2
    ·exact absurd (bne_iff2.2 h1) (by rw [h2]; decide)
    ·exact M1.out h1 (Classical.byContradiction fun h => absurd (bne_iff2.2 h) (by rw [h2]; decide))
  have hw : WIn (x - y) := by rw [HW.out]; exact ⟨hn.1, hn.2.1⟩
  rw [fitR_of hw, fitE_of hw]
  refine bodyPost_ret (v := .tuple #[.agg #[.int .i64 (wrap64 (wrap64 (hiW x - hiW y) - c)), .int .u64 (loW (loW x - loW y))], .int .i64 0]) (by simp [results, Tryz.results24, go_sem]) rfl ⟨?_, ?_⟩
  ·rw [hn.2.2, HP.out.1, HP.out.2]
  (repeat (first | (with_reducible first | exact Below.refl _ _ | assumption | refine Below.drew ?_) | ((with_reducible first | refine Below.alloc ?_ ?_ _ | refine Below.setCell ?_ ?_ _); rotate_left; (first | omega | (simp <;> omega)))))
theorem sgn_not (y : Int) : sgn (!decide (y < 0)) (absI y) = -y := by
 unfold sgn absI
 by_cases h : y < 0 <;> simp [h]
set_option maxHeartbeats 400000 in
theorem rsub_any (x y : Int) (hx : WIn x) (hy : WIn y) (w : World) :
  Calls Tryz.prog 53 #[.agg #[.int .i64 (hiW x), .int .u64 (loW x)], .agg #[.int .i64 (hiW y), .int .u64 (loW y)]] w fun e w' =>
   e = .returned (.tuple #[.agg #[.int .i64 (hiW (fitR (x - y))), .int .u64 (loW (fitR (x - y)))], .int .i64 (fitE (x - y))]) ∧ Below w.heap.size w w' := by
 have HS := hide (sgn_abs x)
 have HT := hide (sgn_not y)
 have HQ := hide (Int.sub_eq_add_neg (a := x) (b := y))
 rw [HQ.out]
 go_enter Tryz.func53, Tryz.ntmps53
 go_wp2_with fail
 refine (rsplit_any x hx _).mono ?_
 rintro e w1 ⟨rfl, hb⟩
 have q1B : Below w.heap.size w w1 := qB hb
 have q1z := hb.size
 try simp at q1z
 have q1t : w.heap.size ≤ w1.heap.size := (by omega)
 obtain ⟨q1s0, q1n0_0, q1n0_1, q1n0_2⟩ := kB w1.heap.size w.heap.size
 obtain ⟨q1c0_0, q1c0_1, q1f0⟩ := kC2 hb w.heap.size
 simp [go_sem, *] at q1c0_0 q1c0_1 q1f0
 obtain ⟨q1s1, q1n1_0, q1n1_1, q1n1_2⟩ := kB w1.heap.size (w.heap.size + 1)
 obtain ⟨q1c1_0, q1c1_1, q1f1⟩ := kC2 hb (w.heap.size + 1)
 simp [go_sem, *] at q1c1_0 q1c1_1 q1f1
 obtain ⟨q1s2, q1n2_0, q1n2_1, q1n2_2⟩ := kB w1.heap.size (w.heap.size + 2)
 obtain ⟨q1c2_0, q1c2_1, q1f2⟩ := kC2 hb (w.heap.size + 2)
 simp [go_sem, *] at q1c2_0 q1c2_1 q1f2
 have q1o := belO q1B
 clear hb
 go_wp2_with fail
 refine (rsplit_any y hy _).mono ?_
 rintro e w2 ⟨rfl, hb⟩
 have q2B : Below w.heap.size w w2 := qB hb
 have q2z := hb.size
 try simp at q2z
 have q2t : w.heap.size ≤ w2.heap.size := (by omega)
 obtain ⟨q2s0, q2n0_0, q2n0_1, q2n0_2⟩ := kB w2.heap.size w.heap.size
 obtain ⟨q2c0_0, q2c0_1, q2f0⟩ := kC2 hb w.heap.size
 simp [go_sem, *] at q2c0_0 q2c0_1 q2f0
 obtain ⟨q2s1, q2n1_0, q2n1_1, q2n1_2⟩ := kB w2.heap.size (w.heap.size + 1)
 obtain ⟨q2c1_0, q2c1_1, q2f1⟩ := kC2 hb (w.heap.size + 1)
 simp [go_sem, *] at q2c1_0 q2c1_1 q2f1
 obtain ⟨q2s2, q2n2_0, q2n2_1, q2n2_2⟩ := kB w2.heap.size (w.heap.size + 2)
 obtain ⟨q2c2_0, q2c2_1, q2f2⟩ := kC2 hb (w.heap.size + 2)
 simp [go_sem, *] at q2c2_0 q2c2_1 q2f2
 obtain ⟨q2s3, q2n3_0, q2n3_1, q2n3_2⟩ := kB w2.heap.size w1.heap.size
 obtain ⟨q2c3_0, q2c3_1, q2f3⟩ := kC2 hb w1.heap.size
 simp [go_sem, *] at q2c3_0 q2c3_1 q2f3
 have q2o := belO q2B
 clear hb q1o q1f2 q1c2_1 q1c2_0 q1s2 q1f1 q1c1_1 q1c1_0 q1s1 q1f0 q1c0_1 q1c0_0 q1s0 q1z q1B
 go_wp2_with fail
 refine (rsum_any _ (!decide (y < 0)) _ _ (absI_win hx) (absI_win hy) _).mono ?_
 rintro e w3 ⟨rfl, hb⟩
 rw [HS.out, HT.out]
 have q3B : Below w.heap.size w w3 := qB hb
 have q3z := hb.size
 try simp at q3z
 have q3t : w.heap.size ≤ w3.heap.size := (by omega)
 obtain ⟨q3s0, q3n0_0, q3n0_1, q3n0_2⟩ := kB w3.heap.size (w.heap.size + 2)
 obtain ⟨q3c0_0, q3c0_1, q3f0⟩ := kC2 hb (w.heap.size + 2)
 simp [go_sem, *] at q3c0_0 q3c0_1 q3f0
 have q3o := belO q3B
 clear hb q2o q2f3 q2c3_1 q2c3_0 q2s3 q2f2 q2c2_1 q2c2_0 q2s2 q2f1 q2c1_1 q2c1_0 q2s1 q2f0 q2c0_1 q2c0_0 q2s0 q2z q2B
 go_wp2_with fail
 refine bodyPost_ret (by simp [results, Tryz.results53, go_sem, *] <;> rfl) rfl ⟨?_, ?_⟩
 ·rfl
 (repeat (first | (with_reducible first | exact Below.refl _ _ | assumption | refine Below.drew ?_) | ((with_reducible first | refine Below.alloc ?_ ?_ _ | refine Below.setCell ?_ ?_ _); rotate_left; (first | omega | (simp <;> omega)))))
end Go.Proofs.YtdjlaiilngechaaGreatDoor
