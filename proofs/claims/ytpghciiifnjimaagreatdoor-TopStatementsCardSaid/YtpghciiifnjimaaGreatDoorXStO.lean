/- Texts laid together: StO StN StK StM. -/
import Derived.Test.YtpghciiifnjimaaGreatDoorXTvC
import Derived.Test.YtpghciiifnjimaaGreatDoorXStI
import Derived.Test.YtpghciiifnjimaaGreatDoorXEzt
import Derived.Test.YtpghciiifnjimaaGreatDoorXNum
import Derived.Test.YtpghciiifnjimaaGreatDoorXK0
namespace Go.Proofs.YtpghciiifnjimaaGreatDoor
set_option maxRecDepth 4000
set_option linter.unusedSimpArgs false
set_option linter.unusedVariables false
open Go.RowKit
def smA (_ : Nat) : LAcc := ⟨1000, 0, 0, 0, ⟨#[]⟩, ⟨#[]⟩, ⟨#[]⟩⟩
def eur : ByteArray := ⟨#[69, 85, 82]⟩
def smL1 (k : Nat) : LLeg := if k = 0 then ⟨1, 70, eur⟩ else ⟨1000, -70, eur⟩
def smL2 (k : Nat) : LLeg := if k = 0 then ⟨1000, 20, eur⟩ else ⟨1, -20, eur⟩
def smE (b1 b2 : Nat) (k : Nat) : LEnt := if k = 0 then ⟨1, 5, 5, 0, 0, 0, ⟨#[]⟩, ⟨#[112, 97, 121]⟩, some ⟨b1, 0, none⟩, 2, 2, 0, smL1⟩ else ⟨2, 6, 6, 0, 0, 0, ⟨#[]⟩, ⟨#[114, 101, 110, 116]⟩, some ⟨b2, 0, none⟩, 2, 2, 0, smL2⟩
theorem sm_has : hasA smA 1000 1 = true := rfl
theorem sm_hasnt : hasA smA 1001 1 = false := rfl
def rent : ByteArray := ⟨#[114, 101, 110, 116]⟩
def smS : LStm := ⟨1000, 3, 6, 9, 70, 50, [⟨2, 6, -20, rent⟩]⟩
def smP : LStm := ⟨1000, 2, 0, 5, 0, 70, [⟨1, 5, 70, ⟨#[112, 97, 121]⟩⟩]⟩
theorem sm_make (b1 b2 : Nat) : mkS (smE b1 b2) 2 true 1000 3 6 9 = smS ∧ mkE true 3 6 9 = 0 := ⟨by kernel_rfl, by kernel_rfl⟩
theorem sm_make2 (b1 b2 : Nat) : mkS (smE b1 b2) 2 true 1000 2 0 5 = smP ∧ mkE true 2 0 5 = 0 := ⟨by kernel_rfl, by kernel_rfl⟩
theorem sm_make3 (b1 b2 : Nat) : mkS (smE b1 b2) 2 false 1001 3 6 9 = zStm ∧ mkE false 3 6 9 = 11 := ⟨by kernel_rfl, by kernel_rfl⟩
theorem sm_chk : chkS 1000 3 6 9 70 50 (atP smS.ls) 1 = 0 := by
 unfold chkS
 rw [if_neg (by decide), if_neg (by decide), if_neg (by decide), if_neg (by decide), if_neg (by decide)]
 exact linE_ok (fun k hk => by
  obtain rfl : k = 0 := by omega
  exact ⟨by decide, by decide, by decide⟩) (by kernel_rfl)
theorem sm_fol : fol 1000 2 5 70 1000 3 6 70 = true := by decide
theorem civ6 : CivIs 6 2000 1 7 := by unfold CivIs; decide
theorem civ9 : CivIs 9 2000 1 10 := by unfold CivIs; decide
theorem fmt6 : fmtL 6 = [50, 48, 48, 48, 45, 48, 49, 45, 48, 55] := by
 obtain ⟨e1, e2, e3⟩ := civ_of civ6
 rw [fmt_yes rfl, e1, e2, e3]; rfl
theorem fmt9 : fmtL 9 = [50, 48, 48, 48, 45, 48, 49, 45, 49, 48] := by
 obtain ⟨e1, e2, e3⟩ := civ_of civ9
 rw [fmt_yes rfl, e1, e2, e3]; rfl
def smT : List UInt8 := [115, 116, 97, 116, 101, 109, 101, 110, 116, 32, 51, 32, 97, 99, 99, 111, 117, 110, 116, 32, 49, 48, 48, 48, 10, 50, 48, 48, 48, 45, 48, 49, 45, 48, 55, 32, 116, 111, 32, 50, 48, 48, 48, 45, 48, 49, 45, 49, 48, 10, 111, 112, 101, 110, 105, 110, 103, 32, 48, 46, 55, 48, 10, 50, 48, 48, 48, 45, 48, 49, 45, 48, 55, 32, 45, 48, 46, 50, 48, 32, 114, 101, 110, 116, 10, 99, 108, 111, 115, 105, 110, 103, 32, 48, 46, 53, 48, 10]
theorem itoa3 : Lib.itoa 3 = [51] := by rw [show (3 : Int) = ((3 : Nat) : Int) from rfl, Lib.itoa_nonneg, dec_one (by decide)]; rfl
theorem itoa1000 : Lib.itoa 1000 = [49, 48, 48, 48] := by rw [show (1000 : Int) = ((1000 : Nat) : Int) from rfl, itoa_4 (by decide) (by decide)]; rfl
theorem whole0 {a : Nat} (h : a < 100) : wholeL a 2 = [48] := by
 unfold wholeL
 rw [show a / 10 ^ 2 = 0 from Nat.div_eq_of_lt h, dec_one (by decide)]; rfl
theorem amt70 : amtL 70 2 = [48, 46, 55, 48] := by
 rw [(amt_yes (show mnB 70 2 = true by decide)).1]
 unfold mnL
 rw [show (70 : Int).natAbs = 70 from rfl, show (2 : Int).toNat = 2 from rfl, whole0 (by decide)]; rfl
theorem amt50 : amtL 50 2 = [48, 46, 53, 48] := by
 rw [(amt_yes (show mnB 50 2 = true by decide)).1]
 unfold mnL
 rw [show (50 : Int).natAbs = 50 from rfl, show (2 : Int).toNat = 2 from rfl, whole0 (by decide)]; rfl
theorem amt20 : amtL (-20) 2 = [45, 48, 46, 50, 48] := by
 rw [(amt_yes (show mnB (-20) 2 = true by decide)).1]
 unfold mnL
 rw [show (-20 : Int).natAbs = 20 from rfl, show (2 : Int).toNat = 2 from rfl, whole0 (by decide)]; rfl
theorem sm_text : txtE 1000 3 6 9 70 50 (atP smS.ls) 1 2 = 0 ∧ txtR 1000 3 6 9 70 50 (atP smS.ls) 1 2 = smT := by
 have e : txtE 1000 3 6 9 70 50 (atP smS.ls) 1 2 = 0 := by
  unfold txtE; rw [if_pos sm_chk]; rfl
 refine ⟨e, ?_⟩
 unfold txtR
 rw [if_pos e]
 unfold txtL headL
 rw [show linesL (atP smS.ls) 2 1 = [] ++ wJ [fmtL 6, amtL (-20) 2, rent.data.toList] from rfl, itoa3, itoa1000, fmt6, fmt9, amt70, amt50, amt20, wJ_2, wJ_2, wJ_3, wJ_3, wJ_4]
 rfl
end Go.Proofs.YtpghciiifnjimaaGreatDoor
namespace Go.Proofs.YtpghciiifnjimaaGreatDoor
set_option maxRecDepth 4000
set_option linter.unusedSimpArgs false
set_option linter.unusedVariables false
open Go.RowKit
def smC (v5 v6 : Value) : Array Value := #[.slice none 0 0, .slice none 0 0, .slice none 0 0, .int .i64 0, .int .i64 0, .int .i64 0, .int .i64 0, .int .i64 0, .int .i64 0, .int .i64 0, .int .i64 0, .int .i64 0, .int .i64 0, .int .i64 0, .int .i64 0, .int .i64 0, .int .i64 0, .slice none 0 0, v5, v6, .slice none 0 0, .slice none 0 0]
def smZ : Array Value := #[.slice none 0 0, .slice none 0 0, .slice none 0 0, .int .i64 0, .int .i64 0, .int .i64 0, .int .i64 0, .int .i64 0, .int .i64 0, .int .i64 0, .int .i64 0, .int .i64 0, .int .i64 0, .int .i64 0, .int .i64 0, .int .i64 0, .int .i64 0, .slice none 0 0, .slice none 0 0, .slice none 0 0, .slice none 0 0, .slice none 0 0]
theorem sm_zero : ∃ (i : TypeInfo) (Z : Array Value), Tryz.prog.info? 33 = some i ∧ i.zero = some (.agg Z) ∧ Z.size = 22 := by
 obtain ⟨i, h1, h2⟩ := info_agg (show (Tryz.prog.info? 33).bind (·.zero) = some (.agg smZ) by kernel_rfl)
 exact ⟨i, smZ, h1, h2, rfl⟩
theorem sm_built (a5 a6 : Option Addr) (n5 n6 c5 c6 : Nat) : ∃ C : Array Value, Tryz.prog.built 33 [(5, .slice a5 n5 c5), (6, .slice a6 n6 c6)] = some C ∧ C.size = 22 ∧ C[18]? = some (.slice a5 n5 c5) ∧ C[19]? = some (.slice a6 n6 c6) ∧ C.all (·.oneCell') = true :=
 ⟨smC (.slice a5 n5 c5) (.slice a6 n6 c6), by kernel_rfl, rfl, rfl, rfl, by kernel_rfl⟩
theorem sm_accs (k j : Nat) (hk : k < 1) (hj : j < 7) : (#[Value.int .i64 1000, .int .i64 0, .int .i64 0, .int .i64 0, .string ⟨#[]⟩, .string ⟨#[]⟩, .string ⟨#[]⟩] : Array Value)[k * 7 + j]? = some (accC (smA k) j) := by
 match k, hk, j, hj with
 | 0, _, 0, _ | 0, _, 1, _ | 0, _, 2, _ | 0, _, 3, _ | 0, _, 4, _ | 0, _, 5, _ | 0, _, 6, _ => rfl
theorem sm_leg1 (k j : Nat) (hk : k < 2) (hj : j < 3) : (#[Value.int .i64 1, .int .i64 70, .string ⟨#[69, 85, 82]⟩, .int .i64 1000, .int .i64 (-70), .string ⟨#[69, 85, 82]⟩] : Array Value)[k * 3 + j]? = some (legC (smL1 k) j) := by
 match k, hk, j, hj with
 | 0, _, 0, _ | 0, _, 1, _ | 0, _, 2, _ | 1, _, 0, _ | 1, _, 1, _ | 1, _, 2, _ => rfl
theorem sm_leg2 (k j : Nat) (hk : k < 2) (hj : j < 3) : (#[Value.int .i64 1000, .int .i64 20, .string ⟨#[69, 85, 82]⟩, .int .i64 1, .int .i64 (-20), .string ⟨#[69, 85, 82]⟩] : Array Value)[k * 3 + j]? = some (legC (smL2 k) j) := by
 match k, hk, j, hj with
 | 0, _, 0, _ | 0, _, 1, _ | 0, _, 2, _ | 1, _, 0, _ | 1, _, 1, _ | 1, _, 2, _ => rfl
theorem sm_ents (b1 b2 : Nat) (k j : Nat) (hk : k < 2) (hj : j < 10) : (#[Value.int .i64 1, .int .i64 5, .int .i64 5, .int .i64 0, .int .i64 0, .int .i64 0, .string ⟨#[]⟩, .string ⟨#[112, 97, 121]⟩, .slice (some ⟨b1, 0, none⟩) 2 2, .int .u64 0, Value.int .i64 2, .int .i64 6, .int .i64 6, .int .i64 0, .int .i64 0, .int .i64 0, .string ⟨#[]⟩, .string ⟨#[114, 101, 110, 116]⟩, .slice (some ⟨b2, 0, none⟩) 2 2, .int .u64 0] : Array Value)[k * 10 + j]? = some (entC (smE b1 b2 k) j) := by
 match k, hk, j, hj with
 | 0, _, 0, _ | 0, _, 1, _ | 0, _, 2, _ | 0, _, 3, _ | 0, _, 4, _ | 0, _, 5, _ | 0, _, 6, _ | 0, _, 7, _ | 0, _, 8, _ | 0, _, 9, _ => rfl
 | 1, _, 0, _ | 1, _, 1, _ | 1, _, 2, _ | 1, _, 3, _ | 1, _, 4, _ | 1, _, 5, _ | 1, _, 6, _ | 1, _, 7, _ | 1, _, 8, _ | 1, _, 9, _ => rfl
theorem sm_jrn {w : World} {b1 b2 b3 : Nat} {t1 t2 t3 : TypeId}
  (h1 : w.heap[b1]? = some (.cells #[Value.int .i64 1, .int .i64 70, .string ⟨#[69, 85, 82]⟩, .int .i64 1000, .int .i64 (-70), .string ⟨#[69, 85, 82]⟩] t1 (0, 0)))
  (h2 : w.heap[b2]? = some (.cells #[Value.int .i64 1000, .int .i64 20, .string ⟨#[69, 85, 82]⟩, .int .i64 1, .int .i64 (-20), .string ⟨#[69, 85, 82]⟩] t2 (0, 0)))
  (h3 : w.heap[b3]? = some (.cells #[Value.int .i64 1, .int .i64 5, .int .i64 5, .int .i64 0, .int .i64 0, .int .i64 0, .string ⟨#[]⟩, .string ⟨#[112, 97, 121]⟩, .slice (some ⟨b1, 0, none⟩) 2 2, .int .u64 0, Value.int .i64 2, .int .i64 6, .int .i64 6, .int .i64 0, .int .i64 0, .int .i64 0, .string ⟨#[]⟩, .string ⟨#[114, 101, 110, 116]⟩, .slice (some ⟨b2, 0, none⟩) 2 2, .int .u64 0] t3 (0, 0))) :
  Jrn w (some ⟨b3, 0, none⟩) 2 (smE b1 b2) :=
 ⟨⟨rowS_of h3 (sm_ents b1 b2), fun k hk => by
  match k, hk with
  | 0, _ => exact rowS_of h1 sm_leg1
  | 1, _ => exact rowS_of h2 sm_leg2⟩, fun k hk => by
  match k, hk with
  | 0, _ => show (2 : Nat) ≤ 1000000; decide
  | 1, _ => show (2 : Nat) ≤ 1000000; decide⟩
def SmRet (w : World) (e : Ending) (w' : World) : Prop := ∃ C aA jA b1 b2, e = .returned (.agg C) ∧ Bks C aA 1 1 jA 2 2 ∧ RowAcc w' aA 1 smA ∧ Jrn w' jA 2 (smE b1 b2) ∧ Below w.heap.size w w'
set_option maxRecDepth 4000 in
set_option maxHeartbeats 2000000 in
theorem sample_any (w : World) : Calls Tryz.prog 50 #[] w (SmRet w) := by
 obtain ⟨C, hC0, hC1, hC2, hC3, hC4⟩ := sm_built (some ⟨w.heap.size + 1 + 1 + 1 + 1 + 1, 0, none⟩) (some ⟨w.heap.size + 1 + 1 + 1 + 1 + 1 + 1, 0, none⟩) 1 2 1 2
 obtain ⟨i0, Z, hi0, hi1, hi2⟩ := sm_zero
 have HW := hide (show (Tryz.prog.info? 33).map (·.size) = some C.size by rw [hC1]; kernel_rfl)
 have HZ := hide (show Z.size = C.size by rw [hC1, hi2])
 have HB := hide hC0
 have HS := hide hC4
 have HBK := hide (Bks.mk hC1 hC2 hC3)
 have HI := hide (And.intro hi0 hi1)
 clear hC0 hC1 hC2 hC3 hC4 hi0 hi1 hi2
 go_enter Tryz.func50, Tryz.ntmps50
 go_wp2_with (first
  | (with_reducible refine wpList_alloc_row rfl 33 rfl (some 0) rfl i0 HI.out.1 Z HI.out.2 w.heap.size rfl ?_)
  | ((with_reducible refine Go.wpList_buildTo rfl 33 #[(5, .tmp 12), (6, .tmp 15)] rfl (some 16) rfl C ?_ ?_); (focus (refine Eq.trans (congrArg _ ?_) HB.out; simp [Act.eval])))
  | (with_reducible refine Go.wpList_store_rowTo rfl 33 (.tmp 0) (.tmp 16) rfl rfl w.heap.size C rfl rfl 33 Z (by repeat (first | exact blk_new rfl | refine blk_under ?_)) HW.out HZ.out HS.out ?_))
 refine bodyPost_ret (v := .agg C) (Go.results_cell_row (by rfl) _ _ w.heap.size 33 C (0, 0) _ rfl (Go.setRow_heap _ _ Z _ _ _ (by repeat (first | exact blk_new rfl | refine blk_under ?_))) Tryz.underlying33 rfl HW.out) rfl ⟨C, _, _, w.heap.size + 1, w.heap.size + 1 + 1 + 1, rfl, HBK.out, ?_, ?_, ?_⟩
 ·exact rowS_of (blk_setRow (by omega) (by repeat (first | exact blk_new (by simp) | refine blk_under ?_))) sm_accs
 ·exact sm_jrn (blk_setRow (by omega) (by repeat (first | exact blk_new (by simp) | refine blk_under ?_))) (blk_setRow (by omega) (by repeat (first | exact blk_new (by simp) | refine blk_under ?_))) (blk_setRow (by omega) (by repeat (first | exact blk_new (by simp) | refine blk_under ?_)))
 ·refine below_setRow ?_ (Nat.le_refl _) _
  (repeat (first | (with_reducible first | exact Below.refl _ _ | assumption | refine Below.drew ?_) | ((with_reducible first | refine Below.alloc ?_ ?_ _ | refine Below.setCell ?_ ?_ _); rotate_left; (first | omega | (simp <;> omega)))))
end Go.Proofs.YtpghciiifnjimaaGreatDoor
namespace Go.Proofs.YtpghciiifnjimaaGreatDoor
set_option maxRecDepth 4000
set_option linter.unusedSimpArgs false
set_option linter.unusedVariables false
open Go.RowKit
theorem chk1 {ac no f t op cl : Int} {P : Nat → LPos} {n : Nat} (h1 : ac < 1000) : chkS ac no f t op cl P n = 1 := if_pos h1
theorem chk2 {ac no f t op cl : Int} {P : Nat → LPos} {n : Nat} (h1 : ¬ ac < 1000) (h2 : no < 1) : chkS ac no f t op cl P n = 1 := by unfold chkS; simp [h1, h2]
theorem chk3 {ac no f t op cl : Int} {P : Nat → LPos} {n : Nat} (h1 : ¬ ac < 1000) (h2 : ¬ no < 1) (h3 : vday f = false) : chkS ac no f t op cl P n = 1 := by unfold chkS; simp [h1, h2, h3]
theorem chk4 {ac no f t op cl : Int} {P : Nat → LPos} {n : Nat} (h1 : ¬ ac < 1000) (h2 : ¬ no < 1) (h3 : vday f = true) (h4 : vday t = false) : chkS ac no f t op cl P n = 1 := by unfold chkS; simp [h1, h2, h3, h4]
theorem chk5 {ac no f t op cl : Int} {P : Nat → LPos} {n : Nat} (h1 : ¬ ac < 1000) (h2 : ¬ no < 1) (h3 : vday f = true) (h4 : vday t = true) (h5 : f > t) : chkS ac no f t op cl P n = 1 := by unfold chkS; simp [h1, h2, h3, h4]; omega
theorem chk6 {ac no f t op cl : Int} {P : Nat → LPos} {n : Nat} (h1 : ¬ ac < 1000) (h2 : ¬ no < 1) (h3 : vday f = true) (h4 : vday t = true) (h5 : ¬ f > t) : chkS ac no f t op cl P n = linE P f t op cl n := by unfold chkS; simp [h1, h2, h3, h4]; omega
theorem goods {P : Nat → LPos} {f t : Int} {k : Nat} (h : ∀ i, i < k → goodP P f t i) (hk : goodP P f t k) : ∀ i, i < k + 1 → goodP P f t i := fun i hi => by
 rcases Nat.lt_or_ge i k with h1 | h1
 ·exact h i h1
 ·obtain rfl : i = k := by omega
  exact hk
/-- The loop of Check: g, the box of the line before. -/
def ChI (P : Nat → LPos) (f t op : Int) (n g : Nat) (W : World) (v3 v : Value) (wr : World) : Prop :=
 ∃ k : Nat, k ≤ n ∧ v3 = .int .i64 (sumP P op k) ∧ v = .int .i64 k ∧ (∀ i, i < k → goodP P f t i) ∧ Below W.heap.size W wr ∧ g < wr.heap.size ∧ (∀ o, wr.frozen? ⟨g, o, none⟩ = false) ∧
  wr.cell? ⟨g, 0, none⟩ = some (.int .i64 (prvP P k).en) ∧ wr.cell? ⟨g, 1, none⟩ = some (.int .i64 (prvP P k).dy) ∧ wr.cell? ⟨g, 2, none⟩ = some (.int .i64 (prvP P k).am) ∧ wr.cell? ⟨g, 3, none⟩ = some (.string (prvP P k).tx)
set_option maxRecDepth 4000 in
set_option maxHeartbeats 2000000 in
theorem check_any (ac no f t op cl : Int) (lA : Option Addr) (ln lc : Nat) (P : Nat → LPos) (hn : ln ≤ 1000000) (w : World) (hr : RowPos w lA ln P) :
  Calls Tryz.prog 10 #[.agg #[.int .i64 ac, .int .i64 no, .int .i64 f, .int .i64 t, .int .i64 op, .int .i64 cl, .slice lA ln lc]] w fun e w' => e = .returned (.int .i64 (chkS ac no f t op cl P ln)) ∧ Below w.heap.size w w' := by
 have HR := hide hr
 clear hr
 go_enter Tryz.func10, Tryz.ntmps10
 by_cases h1 : ac < 1000
 ·have HS := hide (chk1 (no := no) (f := f) (t := t) (op := op) (cl := cl) (P := P) (n := ln) h1)
  go_wp2_with fail
  refine bodyPost_ret (by simp [results, Tryz.results10, go_sem, *] <;> rfl) rfl ⟨?_, ?_⟩
  ·rw [HS.out]
  ·(repeat (first | (with_reducible first | exact Below.refl _ _ | assumption | refine Below.drew ?_) | ((with_reducible first | refine Below.alloc ?_ ?_ _ | refine Below.setCell ?_ ?_ _); rotate_left; (first | omega | (simp <;> omega)))))
 ·have H1 := hide h1
  have h1' := Int.not_lt.1 h1
  clear h1
  by_cases h2 : no < 1
  ·have HS := hide (chk2 (f := f) (t := t) (op := op) (cl := cl) (P := P) (n := ln) H1.out h2)
   go_wp2_with fail
   refine bodyPost_ret (by simp [results, Tryz.results10, go_sem, *] <;> rfl) rfl ⟨?_, ?_⟩
   ·rw [HS.out]
   ·(repeat (first | (with_reducible first | exact Below.refl _ _ | assumption | refine Below.drew ?_) | ((with_reducible first | refine Below.alloc ?_ ?_ _ | refine Below.setCell ?_ ?_ _); rotate_left; (first | omega | (simp <;> omega)))))
  ·have H2 := hide h2
   have h2' := Int.not_lt.1 h2
   clear h2
   cases hf : vday f with
   | false =>
    have HS := hide (chk3 (t := t) (op := op) (cl := cl) (P := P) (n := ln) H1.out H2.out hf)
    have HF := hide hf
    clear hf
    go_wp2_with fail
    refine (valid_any f _).mono ?_
    rintro e w9 ⟨rfl, rfl⟩
    rw [HF.out]
    go_wp2_with fail
    refine bodyPost_ret (by simp [results, Tryz.results10, go_sem, *] <;> rfl) rfl ⟨?_, ?_⟩
    ·rw [HS.out]
    ·(repeat (first | (with_reducible first | exact Below.refl _ _ | assumption | refine Below.drew ?_) | ((with_reducible first | refine Below.alloc ?_ ?_ _ | refine Below.setCell ?_ ?_ _); rotate_left; (first | omega | (simp <;> omega)))))
   | true =>
    have HF := hide hf
    clear hf
    cases ht : vday t with
    | false =>
     have HS := hide (chk4 (op := op) (cl := cl) (P := P) (n := ln) H1.out H2.out HF.out ht)
     have HT := hide ht
     clear ht
     go_wp2_with fail
     refine (valid_any f _).mono ?_
     rintro e w9 ⟨rfl, rfl⟩
     rw [HF.out]
     go_wp2_with fail
     refine (valid_any t _).mono ?_
     rintro e w9 ⟨rfl, rfl⟩
     rw [HT.out]
     go_wp2_with fail
     refine bodyPost_ret (by simp [results, Tryz.results10, go_sem, *] <;> rfl) rfl ⟨?_, ?_⟩
     ·rw [HS.out]
     ·(repeat (first | (with_reducible first | exact Below.refl _ _ | assumption | refine Below.drew ?_) | ((with_reducible first | refine Below.alloc ?_ ?_ _ | refine Below.setCell ?_ ?_ _); rotate_left; (first | omega | (simp <;> omega)))))
    | true =>
     have HT := hide ht
     clear ht
     by_cases hft : f > t
     ·have HS := hide (chk5 (op := op) (cl := cl) (P := P) (n := ln) H1.out H2.out HF.out HT.out hft)
      have hft2 : t < f := hft
      clear hft
      go_wp2_with fail
      refine (valid_any f _).mono ?_
      rintro e w9 ⟨rfl, rfl⟩
      rw [HF.out]
      go_wp2_with fail
      refine (valid_any t _).mono ?_
      rintro e w9 ⟨rfl, rfl⟩
      rw [HT.out]
      go_wp2_with fail
      refine bodyPost_ret (by simp [results, Tryz.results10, go_sem, *] <;> rfl) rfl ⟨?_, ?_⟩
      ·rw [HS.out]
      ·(repeat (first | (with_reducible first | exact Below.refl _ _ | assumption | refine Below.drew ?_) | ((with_reducible first | refine Below.alloc ?_ ?_ _ | refine Below.setCell ?_ ?_ _); rotate_left; (first | omega | (simp <;> omega)))))
     ·have HS := hide (chk6 (op := op) (cl := cl) (P := P) (n := ln) H1.out H2.out HF.out HT.out hft)
      have hft2 : f ≤ t := by omega
      clear hft
      go_wp2_with fail
      refine (valid_any f _).mono ?_
      rintro e w9 ⟨rfl, rfl⟩
      rw [HF.out]
      go_wp2_with fail
      refine (valid_any t _).mono ?_
      rintro e w9 ⟨rfl, rfl⟩
      rw [HT.out]
      go_wp2_with fail
      go_loopw [3, 39] (fun v3 v wr => ChI P f t op ln (w.heap.size + 1) (w.alloc (.cells #[.int .i64 ac, .int .i64 no, .int .i64 f, .int .i64 t, .int .i64 op, .int .i64 cl, .slice lA ln lc] 39)) v3 v wr) (fun _ v _ => ln - (intOf v).toNat)
      case atStart => exact ⟨0, by omega, rfl, rfl, fun i hi => by omega, by (repeat (first | (with_reducible first | exact Below.refl _ _ | assumption | refine Below.drew ?_) | ((with_reducible first | refine Below.alloc ?_ ?_ _ | refine Below.setCell ?_ ?_ _); rotate_left; (first | omega | (simp <;> omega))))), by simp, fun o => by simp [go_sem], by simp [go_sem]; rfl, by simp [go_sem]; rfl, by simp [go_sem]; rfl, by simp [go_sem]; rfl⟩
      case round =>
       obtain ⟨k, hk, rfl, rfl, hall, hb, hsz, bf, b0, b1, b2, b3⟩ := hrel
       have HA := hide hall
       have H0 := hide hb
       clear hall
       have q1B : Below w.heap.size w wr := qB hb
       have q1z := hb.size
       try simp at q1z
       have q1t : w.heap.size ≤ wr.heap.size := (by omega)
       obtain ⟨q1s0, q1n0_0, q1n0_1, q1n0_2⟩ := kB wr.heap.size w.heap.size
       obtain ⟨q1c0_0, q1c0_1, q1c0_2, q1c0_3, q1c0_4, q1c0_5, q1c0_6, q1f0⟩ := kC7 hb w.heap.size
       simp [go_sem, *] at q1c0_0 q1c0_1 q1c0_2 q1c0_3 q1c0_4 q1c0_5 q1c0_6 q1f0
       have q1o := belO q1B
       clear hb
       have HP0 := hide (prv_ge HA.out)
       by_cases hlt : k < ln
       ·have hm : (k : Int) < ln := by omega
        have HK := hide hlt
        have hk0 : (0 : Int) ≤ k := by omega
        obtain ⟨b, off, rfl, hbl, c0, c1, c2, c3⟩ := (HR.out.below q1B).at hlt
        clear hlt hk
        rcases Int.lt_trichotomy (P k).en (prvP P k).en with g0 | g0 | g0
        ·have HB := hide (linE_bad (f := f) (t := t) (op := op) (cl := cl) HK.out (show ¬ goodP P f t k from fun hg => by have := hg.1; omega))
         have g1 : (P k).en ≤ (prvP P k).en := by omega
         have g2 : ¬ (P k).en = (prvP P k).en := by omega
         have g3 : ((P k).en == (prvP P k).en) = false := beq_eq_false_iff_ne.2 g2
         go_wp2_with fail
         all_goals (refine bodyPost_ret (by simp [results, Tryz.results10, go_sem, *] <;> rfl) rfl ⟨?_, ?_⟩)
         all_goals (first | (rw [HS.out, HB.out]; done) | ((repeat (first | (with_reducible first | exact Below.refl _ _ | assumption | refine Below.drew ?_) | ((with_reducible first | refine Below.alloc ?_ ?_ _ | refine Below.setCell ?_ ?_ _); rotate_left; (first | omega | (simp <;> omega))))); done))
        ·have HB := hide (linE_bad (f := f) (t := t) (op := op) (cl := cl) HK.out (show ¬ goodP P f t k from fun hg => by have := hg.1; omega))
         have g1 : (P k).en ≤ (prvP P k).en := by omega
         go_wp2_with fail
         all_goals (refine bodyPost_ret (by simp [results, Tryz.results10, go_sem, *] <;> rfl) rfl ⟨?_, ?_⟩)
         all_goals (first | (rw [HS.out, HB.out]; done) | ((repeat (first | (with_reducible first | exact Below.refl _ _ | assumption | refine Below.drew ?_) | ((with_reducible first | refine Below.alloc ?_ ?_ _ | refine Below.setCell ?_ ?_ _); rotate_left; (first | omega | (simp <;> omega))))); done))
        ·have g2 : ¬ (P k).en = (prvP P k).en := by omega
         have g3 : ((P k).en == (prvP P k).en) = false := beq_eq_false_iff_ne.2 g2
         have g4 : 1 ≤ (P k).en := by have := HP0.out; omega
         by_cases g5 : (P k).dy < f
         ·have HB := hide (linE_bad (f := f) (t := t) (op := op) (cl := cl) HK.out (show ¬ goodP P f t k from fun hg => by have := hg.2.1; omega))
          go_wp2_with fail
          refine bodyPost_ret (by simp [results, Tryz.results10, go_sem, *] <;> rfl) rfl ⟨?_, ?_⟩
          ·rw [HS.out, HB.out]
          ·(repeat (first | (with_reducible first | exact Below.refl _ _ | assumption | refine Below.drew ?_) | ((with_reducible first | refine Below.alloc ?_ ?_ _ | refine Below.setCell ?_ ?_ _); rotate_left; (first | omega | (simp <;> omega)))))
         ·have g5' := Int.not_lt.1 g5
          clear g5
          by_cases g6 : (P k).dy > t
          ·have HB := hide (linE_bad (f := f) (t := t) (op := op) (cl := cl) HK.out (show ¬ goodP P f t k from fun hg => by have := hg.2.2; omega))
           have g6' : t < (P k).dy := g6
           clear g6
           go_wp2_with fail
           refine bodyPost_ret (by simp [results, Tryz.results10, go_sem, *] <;> rfl) rfl ⟨?_, ?_⟩
           ·rw [HS.out, HB.out]
           ·(repeat (first | (with_reducible first | exact Below.refl _ _ | assumption | refine Below.drew ?_) | ((with_reducible first | refine Below.alloc ?_ ?_ _ | refine Below.setCell ?_ ?_ _); rotate_left; (first | omega | (simp <;> omega)))))
          ·have g6' := Int.not_lt.1 g6
           clear g6
           have HG := hide (goods HA.out ⟨g0, g5', g6'⟩)
           go_wp2_with fail
           go_roundw
           case rel => exact ⟨k + 1, HK.out, rfl, by go_num, HG.out, by refine Below.trans H0.out ?_; (repeat (first | (with_reducible first | exact Below.refl _ _ | assumption | refine Below.drew ?_) | ((with_reducible first | refine Below.alloc ?_ ?_ _ | refine Below.setCell ?_ ?_ _); rotate_left; (first | omega | (simp <;> omega))))), by simp; omega, fun o => by simp [go_sem, *], by simp [go_sem, *]; rfl, by simp [go_sem, *]; rfl, by simp [go_sem, *]; rfl, by simp [go_sem, *]; rfl⟩
           case measure => have := HK.out; simp [intOf]; omega
       ·obtain rfl : k = ln := by omega
        clear hlt hk
        by_cases hs : sumP P op k = cl
        ·have h1 : (sumP P op k != cl) = false := by rw [hs]; simp
         have HL := hide (linE_ok HA.out hs)
         clear hs
         go_wp2_with fail
         refine bodyPost_ret (by simp [results, Tryz.results10, go_sem, *] <;> rfl) rfl ⟨?_, ?_⟩
         ·rw [HS.out, HL.out]
         ·(repeat (first | (with_reducible first | exact Below.refl _ _ | assumption | refine Below.drew ?_) | ((with_reducible first | refine Below.alloc ?_ ?_ _ | refine Below.setCell ?_ ?_ _); rotate_left; (first | omega | (simp <;> omega)))))
        ·have h1 : (sumP P op k != cl) = true := by simpa using hs
         have HL := hide (linE_sum (f := f) (t := t) hs)
         clear hs
         go_wp2_with fail
         refine bodyPost_ret (by simp [results, Tryz.results10, go_sem, *] <;> rfl) rfl ⟨?_, ?_⟩
         ·rw [HS.out, HL.out]
         ·(repeat (first | (with_reducible first | exact Below.refl _ _ | assumption | refine Below.drew ?_) | ((with_reducible first | refine Below.alloc ?_ ?_ _ | refine Below.setCell ?_ ?_ _); rotate_left; (first | omega | (simp <;> omega)))))
end Go.Proofs.YtpghciiifnjimaaGreatDoor
namespace Go.Proofs.YtpghciiifnjimaaGreatDoor
set_option maxRecDepth 4000
set_option linter.unusedSimpArgs false
set_option linter.unusedVariables false
open Go.RowKit
def KI (n : Nat) (W : World) (v : Value) (wr : World) : Prop := ∃ k : Nat, k ≤ n ∧ v = .int .i64 k ∧ Below W.heap.size W wr
set_option maxRecDepth 4000 in
set_option maxHeartbeats 2000000 in
theorem same_eq (ac no f t op cl : Int) (A B : Option Addr) (n c c' : Nat) (P : Nat → LPos) (hn : n ≤ 1000000) (w : World) (hA : RowPos w A n P) (hB : RowPos w B n P) :
  Calls Tryz.prog 52 #[.agg #[.int .i64 ac, .int .i64 no, .int .i64 f, .int .i64 t, .int .i64 op, .int .i64 cl, .slice A n c], .agg #[.int .i64 ac, .int .i64 no, .int .i64 f, .int .i64 t, .int .i64 op, .int .i64 cl, .slice B n c']] w fun e w' => e = .returned (.bool true) ∧ Below w.heap.size w w' := by
 have HA := hide hA
 have HB := hide hB
 clear hA hB
 go_enter Tryz.func52, Tryz.ntmps52
 go_wp2_with fail
 go_loopw [5] (fun v wr => KI n ((w.alloc (.cells #[.int .i64 ac, .int .i64 no, .int .i64 f, .int .i64 t, .int .i64 op, .int .i64 cl, .slice A n c] 39)).alloc (.cells #[.int .i64 ac, .int .i64 no, .int .i64 f, .int .i64 t, .int .i64 op, .int .i64 cl, .slice B n c'] 39)) v wr) (fun v _ => n - (intOf v).toNat)
 case atStart => exact ⟨0, by omega, rfl, by (repeat (first | (with_reducible first | exact Below.refl _ _ | assumption | refine Below.drew ?_) | ((with_reducible first | refine Below.alloc ?_ ?_ _ | refine Below.setCell ?_ ?_ _); rotate_left; (first | omega | (simp <;> omega)))))⟩
 case round =>
  obtain ⟨k, hk, rfl, hb⟩ := hrel
  have H0 := hide hb
  have q1B : Below w.heap.size w wr := qB hb
  have q1z := hb.size
  try simp at q1z
  have q1t : w.heap.size ≤ wr.heap.size := (by omega)
  obtain ⟨q1s0, q1n0_0, q1n0_1, q1n0_2⟩ := kB wr.heap.size w.heap.size
  obtain ⟨q1c0_0, q1c0_1, q1c0_2, q1c0_3, q1c0_4, q1c0_5, q1c0_6, q1f0⟩ := kC7 hb w.heap.size
  simp [go_sem, *] at q1c0_0 q1c0_1 q1c0_2 q1c0_3 q1c0_4 q1c0_5 q1c0_6 q1f0
  obtain ⟨q1s1, q1n1_0, q1n1_1, q1n1_2⟩ := kB wr.heap.size (w.heap.size + 1)
  obtain ⟨q1c1_0, q1c1_1, q1c1_2, q1c1_3, q1c1_4, q1c1_5, q1c1_6, q1f1⟩ := kC7 hb (w.heap.size + 1)
  simp [go_sem, *] at q1c1_0 q1c1_1 q1c1_2 q1c1_3 q1c1_4 q1c1_5 q1c1_6 q1f1
  have q1o := belO q1B
  clear hb
  by_cases hlt : k < n
  ·have hm : (k : Int) < n := by omega
   have HK := hide hlt
   have hk0 : (0 : Int) ≤ k := by omega
   obtain ⟨b, off, rfl, hbl, c0, c1, c2, c3⟩ := (HA.out.below q1B).at hlt
   obtain ⟨b', off', rfl, hbl', d0, d1, d2, d3⟩ := (HB.out.below q1B).at hlt
   clear hlt hk
   go_wp2_with fail
   refine ord_start (SB (wr.heap.size) [] _) 11 (preB 0 11) (by kernel_rfl) (by kernel_rfl) (by kernel_rfl) SB.refl.drew (fun hHeld => ?_)
   refine oS (i := 0) (preB 1 10) rfl hHeld ?_
   (try simp only [Act.put, putS])
   refine oS (i := 1) (preB 2 9) rfl hHeld ?_
   (try simp only [Act.put, putS])
   refine oS (i := 2) (preB 3 8) rfl hHeld ?_
   (try simp only [Act.put, putS])
   refine oS (i := 3) (preB 4 7) rfl hHeld ?_
   (try simp only [Act.put, putS])
   refine oS (i := 4) (preB 5 6) rfl hHeld ?_
   (try simp only [Act.put, putS])
   refine oS (i := 5) (preB 6 5) rfl hHeld ?_
   (try simp only [Act.put, putS])
   refine oS (i := 6) (preB 7 4) rfl hHeld ?_
   (try simp only [Act.put, putS])
   refine oS (i := 7) (preB 8 3) rfl hHeld ?_
   (try simp only [Act.put, putS])
   refine oS (i := 8) (preB 9 2) rfl hHeld ?_
   (try simp only [Act.put, putS])
   refine oS (i := 9) (preB 10 1) rfl hHeld ?_
   (try simp only [Act.put, putS])
   refine oS (i := 10) (preB 11 0) rfl hHeld ?_
   (try simp only [Act.put, putS])
   refine wpAnyH_done (by kernel_rfl) ?_ _
   go_wp2_with fail
   go_roundw
   case rel => exact ⟨k + 1, HK.out, by go_num, H0.out.drew⟩
   case measure => have := HK.out; simp [intOf]; omega
  ·obtain rfl : k = n := by omega
   clear hlt hk
   go_wp2_with fail
   refine bodyPost_ret (by simp [results, Tryz.results52, go_sem, *] <;> rfl) rfl ⟨?_, ?_⟩
   ·rfl
   ·exact q1B
end Go.Proofs.YtpghciiifnjimaaGreatDoor
