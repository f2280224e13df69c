/- Texts laid together: Str MnM Shelf Tab DfE MnE. -/
import Derived.Test.YtdjlaiilngechaaGreatDoorXNum
import Derived.Test.YtdjlaiilngechaaGreatDoorXDaM
import Derived.Test.YtdjlaiilngechaaGreatDoorXReg
import Derived.Test.YtdjlaiilngechaaGreatDoorXRowM
import Derived.WalkKit
import Derived.Lib.ItoaNum
import Derived.Lib.ItoaLen
import Derived.Lib.ItoaMem
import Derived.Lib.Strings
import Derived.Shelf.Strconv.Itoa0
import Derived.Shelf.Strconv.Itoa1
import Derived.Shelf.LaysM
import Derived.Shelf.Strconv.Itoa2
import Derived.Shelf.Strconv.Itoa3
import Derived.Shelf.Bits.Mul64
import Derived.Test.YtdjlaiilngechaaGreatDoorProg
import Derived.Lib.AppendIntMem
namespace Go.Proofs.YtdjlaiilngechaaGreatDoor
set_option maxRecDepth 4000
set_option linter.unusedSimpArgs false
set_option linter.unusedVariables false
open Go.RowKit
theorem bcat (a b : List UInt8) : (⟨a.toArray⟩ : ByteArray) ++ (⟨b.toArray⟩ : ByteArray) = ⟨(a ++ b).toArray⟩ := by
 apply ByteArray.ext
 rw [ByteArray.data_append]
 simp
theorem bsize (a : List UInt8) : (⟨a.toArray⟩ : ByteArray).size = a.length := by simp [ByteArray.size]
/-- A digit as a byte. -/
def dgt (n : Nat) : UInt8 := UInt8.ofNat (48 + n % 10)
/-- The last k digits of a number. -/
def dgs (n : Nat) : Nat → List UInt8
 | 0 => []
 | k + 1 => dgt (n / 10 ^ k) :: dgs n k
theorem dgs_len (n : Nat) : ∀ k, (dgs n k).length = k
 | 0 => rfl
 | k + 1 => by simp [dgs, dgs_len n k]
def d2 (n : Nat) : List UInt8 := [dgt (n / 10), dgt n]
def d4 (n : Nat) : List UInt8 := [dgt (n / 1000), dgt (n / 100), dgt (n / 10), dgt n]
theorem dec_step {u : Nat} (h : ¬ u < 10) : Lib.decDigits u = Lib.decDigits (u / 10) ++ [dgt u] := by rw [Lib.decDigits, dif_neg h]; rfl
theorem dec_one {u : Nat} (h : u < 10) : Lib.decDigits u = [dgt u] := by rw [Lib.decDigits_one h]; unfold dgt; rw [Nat.mod_eq_of_lt h]
theorem itoa_2 {n : Nat} (h1 : 10 ≤ n) (h2 : n < 100) : Lib.itoa n = d2 n := by
 rw [Lib.itoa_nonneg, dec_step (by omega), dec_one (by omega)]; rfl
theorem itoa_1 {n : Nat} (h : n < 10) : 48 :: Lib.itoa n = d2 n := by
 rw [Lib.itoa_nonneg, dec_one h]
 have e : n / 10 = 0 := by omega
 simp [d2, e]; rfl
theorem itoa_4 {n : Nat} (h1 : 1000 ≤ n) (h2 : n < 10000) : Lib.itoa n = d4 n := by
 rw [Lib.itoa_nonneg, dec_step (by omega), dec_step (by omega), dec_step (by omega), dec_one (by omega)]
 simp [d4, Nat.div_div_eq_div_mul]
end Go.Proofs.YtdjlaiilngechaaGreatDoor
namespace Go.Proofs.YtdjlaiilngechaaGreatDoor
set_option maxRecDepth 4000
set_option linter.unusedSimpArgs false
set_option linter.unusedVariables false
open Go.RowKit
theorem dgs_snoc (a : Nat) : ∀ k, dgs a (k + 1) = dgs (a / 10) k ++ [dgt a]
 | 0 => by simp [dgs]
 | k + 1 => by
  have ih := dgs_snoc a k
  show dgt (a / 10 ^ (k + 1)) :: dgs a (k + 1) = (dgt (a / 10 / 10 ^ k) :: dgs (a / 10) k) ++ [dgt a]
  rw [ih, List.cons_append, Nat.div_div_eq_div_mul, Nat.pow_succ, Nat.mul_comm 10]
theorem dec_dgs (a : Nat) : Lib.decDigits a = dgs a (Lib.nDigits a) := by
 induction a using Nat.strongRecOn with
 | _ a ih =>
  by_cases h : a < 10
  ·rw [dec_one h, Lib.nDigits_small h]; simp [dgs]
  ·rw [dec_step h, Lib.nDigits_big h, ih (a / 10) (by omega), dgs_snoc]
theorem dgs_add (a d : Nat) : ∀ j, dgs a (j + d) = dgs (a / 10 ^ d) j ++ dgs a d
 | 0 => by simp [dgs]
 | j + 1 => by
  rw [Nat.add_right_comm]
  show dgt (a / 10 ^ (j + d)) :: dgs a (j + d) = (dgt (a / 10 ^ d / 10 ^ j) :: dgs (a / 10 ^ d) j) ++ dgs a d
  rw [dgs_add a d j, List.cons_append, Nat.div_div_eq_div_mul, ← Nat.pow_add, Nat.add_comm d j]
theorem dgt_zero : dgt 0 = 48 := rfl
/-- A zero in front. -/
theorem dgs_pad {a k : Nat} (h : Lib.nDigits a ≤ k) : 48 :: dgs a k = dgs a (k + 1) := by
 have h1 : a < 10 ^ k := Nat.lt_of_lt_of_le (Lib.lt_pow_nDigits a) (Nat.pow_le_pow_right (by decide) h)
 show 48 :: dgs a k = dgt (a / 10 ^ k) :: dgs a k
 rw [Nat.div_eq_of_lt h1, dgt_zero]
theorem nd_div (a d : Nat) : Lib.nDigits (a / 10 ^ d) = if d < Lib.nDigits a then Lib.nDigits a - d else 1 := by
 induction d generalizing a with
 | zero => have := Lib.nDigits_pos a; simp; omega
 | succ d ih =>
  rw [Nat.pow_succ, Nat.mul_comm, ← Nat.div_div_eq_div_mul, ih (a / 10)]
  by_cases h : a < 10
  ·have e : a / 10 = 0 := by omega
   rw [Lib.nDigits_small h, e, Lib.nDigits_small (by decide : 0 < 10)]
   split <;> split <;> omega
  ·rw [Lib.nDigits_big h]
   have := Lib.nDigits_pos (a / 10)
   split <;> split <;> omega
/-- The digits of an amount without its sign, with d decimal places. -/
def wholeL (a d : Nat) : List UInt8 := Lib.decDigits (a / 10 ^ d)
def mnB (n d : Int) : Bool := decide (-1000000000000 ≤ n ∧ n ≤ 1000000000000 ∧ 0 ≤ d ∧ d ≤ 4)
def mnL (n : Int) (d : Nat) : List UInt8 := (if n < 0 then [45] else []) ++ wholeL n.natAbs d ++ (if d = 0 then [] else 46 :: dgs n.natAbs d)
/-- The text of an amount; nothing if it is none. -/
def amtL (n d : Int) : List UInt8 := if mnB n d then mnL n d.toNat else []
def amtE (n d : Int) : Int := if mnB n d then 0 else 1
theorem mnB_iff {n d : Int} : mnB n d = true ↔ -1000000000000 ≤ n ∧ n ≤ 1000000000000 ∧ 0 ≤ d ∧ d ≤ 4 := by unfold mnB; simp
theorem amt_no {n d : Int} (h : mnB n d = false) : amtL n d = [] ∧ amtE n d = 1 := by unfold amtL amtE; rw [h]; exact ⟨rfl, rfl⟩
theorem amt_yes {n d : Int} (h : mnB n d = true) : amtL n d = mnL n d.toNat ∧ amtE n d = 0 := by unfold amtL amtE; rw [h]; exact ⟨rfl, rfl⟩
/-- The padded digits, parted at the point. -/
theorem pad_part {a d k : Nat} (hk : Lib.nDigits a ≤ k) (hd : d < k) (hm : k = Lib.nDigits a ∨ k = d + 1) : dgs a k = wholeL a d ++ dgs a d := by
 have hw : wholeL a d = dgs (a / 10 ^ d) (k - d) := by
  unfold wholeL
  rw [dec_dgs, nd_div]
  congr 1
  rcases hm with rfl | rfl
  ·rw [if_pos hd]
  ·split <;> omega
 rw [hw, ← dgs_add]
 congr 1
 omega
end Go.Proofs.YtdjlaiilngechaaGreatDoor
namespace Go.Proofs.YtdjlaiilngechaaGreatDoor
open Go.Shelf
def Tryz.laysM171_ren : Go.Shelf.Ren := ⟨fun | 171 => 68 | 243 => 108 | 246 => 137 | 283 => 154 | 284 => 155 | 285 => 156 | 286 => 157 | 129 => 164 | 317 => 163 | 318 => 165 | 319 => 166 | 320 => 167 | 337 => 170 | 338 => 171 | n => n, fun | 3 => 3 | 9 => 9 | 2 => 2 | 4 => 4 | 171 => 190 | 0 => 0 | 53 => 48 | 37 => 193 | 5 => 5 | 173 => 194 | 212 => 210 | 51 => 211 | 20 => 20 | 213 => 212 | 46 => 175 | 232 => 218 | 233 => 219 | n => n, fun | 17 => 1 | 18 => 4 | 19 => 5 | n => n⟩
theorem Tryz.laysM171 : Go.Proofs.LaysM.n171 Tryz.prog Tryz.laysM171_ren := {
 mixed := by kernel_rfl
 f129 := Tryz.func164.trans (congrArg some (by kernel_rfl))
 f171 := Tryz.func68.trans (congrArg some (by kernel_rfl))
 f243 := Tryz.func108.trans (congrArg some (by kernel_rfl))
 f246 := Tryz.func137.trans (congrArg some (by kernel_rfl))
 f283 := Tryz.func154.trans (congrArg some (by kernel_rfl))
 f284 := Tryz.func155.trans (congrArg some (by kernel_rfl))
 f285 := Tryz.func156.trans (congrArg some (by kernel_rfl))
 f286 := Tryz.func157.trans (congrArg some (by kernel_rfl))
 f317 := Tryz.func163.trans (congrArg some (by kernel_rfl))
 f318 := Tryz.func165.trans (congrArg some (by kernel_rfl))
 f319 := Tryz.func166.trans (congrArg some (by kernel_rfl))
 f320 := Tryz.func167.trans (congrArg some (by kernel_rfl))
 f337 := Tryz.func170.trans (congrArg some (by kernel_rfl))
 f338 := Tryz.func171.trans (congrArg some (by kernel_rfl))
 t0 := Tryz.underlying0
 a0 := Tryz.isAgg0
 z0 := Tryz.sizeOf0
 v0 := Tryz.zeroValue0
 t2 := Tryz.underlying2
 a2 := Tryz.isAgg2
 z2 := Tryz.sizeOf2
 v2 := Tryz.zeroValue2
 t3 := Tryz.underlying3
 a3 := Tryz.isAgg3
 z3 := Tryz.sizeOf3
 v3 := Tryz.zeroValue3
 t4 := Tryz.underlying4
 a4 := Tryz.isAgg4
 z4 := Tryz.sizeOf4
 v4 := Tryz.zeroValue4
 t5 := Tryz.underlying5
 a5 := Tryz.isAgg5
 z5 := Tryz.sizeOf5
 v5 := Tryz.zeroValue5
 t9 := Tryz.underlying9
 a9 := Tryz.isAgg9
 z9 := Tryz.sizeOf9
 v9 := Tryz.zeroValue9
 t20 := Tryz.underlying20
 a20 := Tryz.isAgg20
 z20 := Tryz.sizeOf20
 v20 := Tryz.zeroValue20
 t37 := Tryz.underlying193
 a37 := Tryz.isAgg193
 z37 := Tryz.sizeOf193
 v37 := Tryz.zeroValue193
 t46 := Tryz.underlying175
 a46 := Tryz.isAgg175
 z46 := Tryz.sizeOf175
 v46 := Tryz.zeroValue175
 t51 := Tryz.underlying211
 a51 := Tryz.isAgg211
 z51 := Tryz.sizeOf211
 v51 := Tryz.zeroValue211
 t53 := Tryz.underlying48
 a53 := Tryz.isAgg48
 z53 := Tryz.sizeOf48
 v53 := Tryz.zeroValue48
 t171 := Tryz.underlying190
 a171 := Tryz.isAgg190
 z171 := Tryz.sizeOf190
 v171 := Tryz.zeroValue190
 t173 := Tryz.underlying194
 a173 := Tryz.isAgg194
 z173 := Tryz.sizeOf194
 v173 := Tryz.zeroValue194
 t212 := Tryz.underlying210
 a212 := Tryz.isAgg210
 z212 := Tryz.sizeOf210
 v212 := Tryz.zeroValue210
 t213 := Tryz.underlying212
 a213 := Tryz.isAgg212
 z213 := Tryz.sizeOf212
 t232 := Tryz.underlying218
 a232 := Tryz.isAgg218
 z232 := Tryz.sizeOf218
 v232 := Tryz.zeroValue218
 t233 := Tryz.underlying219
 a233 := Tryz.isAgg219
 z233 := Tryz.sizeOf219
 v233 := Tryz.zeroValue219
 g17 := by kernel_rfl
 g18 := by kernel_rfl
 g19 := by kernel_rfl
 i0 := by kernel_rfl
 i2 := by kernel_rfl
 i3 := by kernel_rfl
 i4 := by kernel_rfl
 i5 := by kernel_rfl
 i9 := by kernel_rfl
 i20 := by kernel_rfl
 i37 := by kernel_rfl
 i46 := by kernel_rfl
 i51 := by kernel_rfl
 i53 := by kernel_rfl
 i171 := by kernel_rfl
 i173 := by kernel_rfl
 i212 := by kernel_rfl
 i232 := by kernel_rfl
 i233 := by kernel_rfl
 m17 := by kernel_rfl
 m18 := by kernel_rfl
 m19 := by kernel_rfl }
open Go.RowKit Go.Sort Go.Lib in
/-- strconv.Itoa: "Itoa is equivalent to FormatInt(int64(i), 10).": i's DECIMAL NUMERAL ('Lib.itoa': a '-' where i is negative, then the digits), FOR EVERY int. The world behind the call: the world before it, new blocks behind the heap (the library's 'var a [24]byte'), draws. (LAID: no walk: one application.) -/
theorem Tryz.strconv_Itoa (n : Int) (h0 : -9223372036854775808 ≤ n) (h1 : n ≤ 9223372036854775807) (w : World) (htab : Lib.TabIs Tryz.prog w "internal/strconv.uint64pow10" .u64 Lib.pow10Tab) :
  Calls Tryz.prog 68 #[.int .i64 n] w fun e w' => e = .returned (.string ⟨(Lib.itoa n).toArray⟩) ∧ ∃ k os, w' = grow (w.drewN k) os := Any.strconv_Itoa Tryz.laysM171 n h0 h1 w htab
end Go.Proofs.YtdjlaiilngechaaGreatDoor
namespace Go.Proofs.YtdjlaiilngechaaGreatDoor
set_option maxRecDepth 4000
set_option linter.unusedSimpArgs false
set_option linter.unusedVariables false
open Go.RowKit
/-- The library's table of powers of ten lies in its variable. -/
def Tab (w : World) : Prop := Lib.TabIs Tryz.prog w "internal/strconv.uint64pow10" .u64 Lib.pow10Tab
theorem Tab.below {w w' : World} (h : Tab w) (hb : Below w.heap.size w w') : Tab w' := by
 unfold Tab Lib.TabIs World.var? at *
 cases hg : Program.globalNamed Tryz.prog "internal/strconv.uint64pow10" with
 | none => simp [hg] at h
 | some g =>
  simp only [hg, Option.bind_some] at h ⊢
  have hlt : g < w.heap.size := by
   rcases Nat.lt_or_ge g w.heap.size with h' | h'
   ·exact h'
   ·rw [Array.getElem?_eq_none h'] at h; simp at h
  rw [hb.block g hlt]
  exact h
theorem itoa_any (n : Int) (i1 : -9223372036854775808 ≤ n) (i2 : n ≤ 9223372036854775807) (w : World) (ht : Tab w) :
  Calls Tryz.prog 68 #[.int .i64 n] w fun e w' => e = .returned (.string ⟨(Lib.itoa n).toArray⟩) ∧ Below w.heap.size w w' := by
 refine (Tryz.strconv_Itoa n i1 i2 w ht).mono ?_
 rintro e w1 ⟨rfl, k, os, rfl⟩
 exact ⟨rfl, Lib.below_grow _ w (Nat.le_refl _) k os⟩
end Go.Proofs.YtdjlaiilngechaaGreatDoor
namespace Go.Proofs.YtdjlaiilngechaaGreatDoor
set_option maxRecDepth 4000
set_option linter.unusedSimpArgs false
set_option linter.unusedVariables false
open Go.RowKit
theorem civ_bd {day : Int} (h : vday day = true) : 2000 ≤ cY day ∧ cY day ≤ 2199 ∧ 1 ≤ cM day ∧ cM day ≤ 12 ∧ 1 ≤ cD day ∧ cD day ≤ mlen (cY day) (cM day) := by
 obtain ⟨a, b, c, d, e, f, _⟩ := civ_is h
 exact ⟨a, b, c, d, e, f⟩
/-- The text of a day. -/
noncomputable def fmtL (day : Int) : List UInt8 := if vday day then d4 (cY day).toNat ++ [45] ++ d2 (cM day).toNat ++ [45] ++ d2 (cD day).toNat else []
theorem fmt_no {day : Int} (h : vday day = false) : fmtL day = [] := by unfold fmtL; rw [h]; rfl
theorem fmt_yes {day : Int} (h : vday day = true) : fmtL day = d4 (cY day).toNat ++ [45] ++ d2 (cM day).toNat ++ [45] ++ d2 (cD day).toNat := if_pos h
theorem two_any (n : Nat) (h : n < 100) (w : World) (ht : Tab w) :
  Calls Tryz.prog 107 #[.int .i64 n] w fun e w' => e = .returned (.string ⟨(d2 n).toArray⟩) ∧ Below w.heap.size w w' := by
 by_cases h1 : n < 10
 ·have hn : (n : Int) < 10 := by omega
  have HD : Hid ((⟨#[48]⟩ : ByteArray) ++ (⟨(Lib.itoa n).toArray⟩ : ByteArray) = ⟨(d2 n).toArray⟩) := hide (by rw [← itoa_1 h1]; exact bcat [48] _)
  have hl : (Lib.itoa n).length ≤ 20 := by have := congrArg List.length (itoa_1 h1); simp [d2] at this; omega
  go_enter Tryz.func107, Tryz.ntmps107
  go_wp2_with fail
  refine (itoa_any n (by omega) (by omega) _ ht).mono ?_
  rintro e w1 ⟨rfl, hb⟩
  go_wp2_with fail
  all_goals first
   | (go_ret; exact ⟨by rw [← HD.out]; rfl, hb⟩)
   | (exfalso; simp [ByteArray.size] at *; omega)
 ·have hn : ¬ (n : Int) < 10 := by omega
  have HD := hide (itoa_2 (n := n) (by omega) h)
  go_enter Tryz.func107, Tryz.ntmps107
  go_wp2_with fail
  refine (itoa_any n (by omega) (by omega) _ ht).mono ?_
  rintro e w1 ⟨rfl, hb⟩
  go_wp2_with fail
  go_ret
  exact ⟨by rw [← HD.out]; rfl, hb⟩
theorem fmt_cat {day : Int} {Y M D : Nat} (h : vday day = true) (hY : cY day = Y) (hM : cM day = M) (hD : cD day = D) :
  ((((⟨(d4 Y).toArray⟩ : ByteArray) ++ (⟨#[45]⟩ : ByteArray)) ++ (⟨(d2 M).toArray⟩ : ByteArray)) ++ (⟨#[45]⟩ : ByteArray)) ++ (⟨(d2 D).toArray⟩ : ByteArray) = ⟨(fmtL day).toArray⟩ := by
 have e : (⟨#[45]⟩ : ByteArray) = ⟨[45].toArray⟩ := rfl
 rw [e, bcat, bcat, bcat, bcat, fmt_yes h, hY, hM, hD]
 rfl
set_option maxHeartbeats 1000000 in
theorem format_any (day : Int) (w : World) (ht : Tab w) :
  Calls Tryz.prog 67 #[.int .i64 day] w fun e w' => e = .returned (.string ⟨(fmtL day).toArray⟩) ∧ Below w.heap.size w w' := by
 cases hv : vday day with
 | false =>
  have HV := hide hv
  have HD := hide (fmt_no hv)
  clear hv
  go_enter Tryz.func67, Tryz.ntmps67
  go_wp2_with fail
  refine (valid_any day _).mono ?_
  rintro e w1 ⟨rfl, rfl⟩
  rw [HV.out]
  go_wp2_with fail
  go_ret
  exact ⟨by rw [HD.out]; rfl, by (repeat (first | (with_reducible first | exact Below.refl _ _ | assumption | refine Below.drew ?_) | ((with_reducible first | refine Below.alloc ?_ ?_ _ | refine Below.setCell ?_ ?_ _); rotate_left; (first | omega | (simp <;> omega)))))⟩
 | true =>
  obtain ⟨y1, y2, m1, m2, d1, d2'⟩ := civ_bd hv
  have ml := mlen_bd (cY day) m1 m2
  obtain ⟨Y, hY⟩ : ∃ Y : Nat, cY day = Y := ⟨(cY day).toNat, by omega⟩
  obtain ⟨M, hM⟩ : ∃ M : Nat, cM day = M := ⟨(cM day).toNat, by omega⟩
  obtain ⟨D, hD⟩ : ∃ D : Nat, cD day = D := ⟨(cD day).toNat, by omega⟩
  have HV := hide hv
  have HF := hide (fmt_cat hv hY hM hD)
  have HI := hide (itoa_4 (n := Y) (by omega) (by omega))
  have HY := hide (And.intro hY (And.intro hM hD))
  have hY2 : Y < 10000 := by omega
  have hM2 : M < 100 := by omega
  have hD2 : D < 100 := by omega
  clear hv hY hM hD y1 y2 m1 m2 d1 d2' ml
  have l1 : (d4 Y).length = 4 := rfl
  have l2 : (d2 M).length = 2 := rfl
  have l3 : (d2 D).length = 2 := rfl
  go_enter Tryz.func67, Tryz.ntmps67
  go_wp2_with fail
  refine (valid_any day _).mono ?_
  rintro e w1 ⟨rfl, rfl⟩
  rw [HV.out]
  go_wp2_with fail
  refine (civil_any day _).mono ?_
  rintro e w1 ⟨rfl, hb1⟩
  rw [HY.out.1, HY.out.2.1, HY.out.2.2]
  go_wp2_with fail
  refine (itoa_any Y (by omega) (by omega) _ (ht.below hb1)).mono ?_
  rintro e w2 ⟨rfl, hb2⟩
  rw [HI.out]
  have hb12 := hb1.trans (hb2.mono hb1.size)
  go_wp2_with fail
  refine (two_any M hM2 _ (ht.below hb12)).mono ?_
  rintro e w3 ⟨rfl, hb3⟩
  have hb13 := hb12.trans (hb3.mono hb12.size)
  go_wp2_with fail
  refine (two_any D hD2 _ (ht.below hb13)).mono ?_
  rintro e w4 ⟨rfl, hb4⟩
  have hb14 := hb13.trans (hb4.mono hb13.size)
  go_wp2_with fail
  go_ret
  exact ⟨by rw [← HF.out]; rfl, hb14⟩
end Go.Proofs.YtdjlaiilngechaaGreatDoor
namespace Go.Proofs.YtdjlaiilngechaaGreatDoor
set_option maxRecDepth 4000
set_option linter.unusedSimpArgs false
set_option linter.unusedVariables false
open Go.RowKit
theorem bext (l : List UInt8) (i j : Nat) : (⟨l.toArray⟩ : ByteArray).extract i j = ⟨((l.drop i).take (j - i)).toArray⟩ := by
 apply ByteArray.ext
 simp
theorem fin_point (sg l m : List UInt8) (q D k : Nat) (hq : l.length = q) (hm : m.length = D) (hk : k = q + D) (x : List UInt8) (hx : x = l ++ m) :
  (((⟨sg.toArray⟩ : ByteArray) ++ (⟨x.toArray⟩ : ByteArray).extract 0 q) ++ (⟨#[46]⟩ : ByteArray)) ++ (⟨x.toArray⟩ : ByteArray).extract q k = ⟨(sg ++ (l ++ 46 :: m)).toArray⟩ := by
 subst hx hk hq hm
 have e : (⟨#[46]⟩ : ByteArray) = ⟨[46].toArray⟩ := rfl
 rw [bext, bext, e, bcat, bcat, bcat]
 simp
def vmB (n : Int) : Bool := decide (-1000000000000 ≤ n ∧ n ≤ 1000000000000)
def plB (d : Int) : Bool := decide (0 ≤ d ∧ d ≤ 4)
theorem mnB_eq (n d : Int) : mnB n d = (vmB n && plB d) := by unfold mnB vmB plB; rw [← Bool.decide_and]; exact decide_eq_decide.2 ⟨fun ⟨a, b, c, d⟩ => ⟨⟨a, b⟩, c, d⟩, fun ⟨⟨a, b⟩, c, d⟩ => ⟨a, b, c, d⟩⟩
theorem vmB_iff {n : Int} : vmB n = true ↔ -1000000000000 ≤ n ∧ n ≤ 1000000000000 := by unfold vmB; simp
theorem plB_iff {d : Int} : plB d = true ↔ 0 ≤ d ∧ d ≤ 4 := by unfold plB; simp
theorem mvalid_any (n : Int) (w : World) :
  Calls Tryz.prog 102 #[.int .i64 n] w fun e w' => e = .returned (.bool (vmB n)) ∧ w = w' := by
 by_cases h1 : -1000000000000 ≤ n
 ·by_cases h2 : n ≤ 1000000000000
  ·have HD := hide (show vmB n = true from by unfold vmB; simp [h1, h2])
   go_enter Tryz.func102, Tryz.ntmps102
   go_wp2_with fail
   go_ret
   exact ⟨by rw [HD.out]; rfl, rfl⟩
  ·have HD := hide (show vmB n = false from by unfold vmB; simp; omega)
   go_enter Tryz.func102, Tryz.ntmps102
   go_wp2_with fail
   go_ret
   exact ⟨by rw [HD.out]; rfl, rfl⟩
 ·have HD := hide (show vmB n = false from by unfold vmB; simp; omega)
  go_enter Tryz.func102, Tryz.ntmps102
  go_wp2_with fail
  go_ret
  exact ⟨by rw [HD.out]; rfl, rfl⟩
theorem mplaces_any (n : Int) (w : World) :
  Calls Tryz.prog 105 #[.int .i64 n] w fun e w' => e = .returned (.bool (plB n)) ∧ w = w' := by
 by_cases h1 : 0 ≤ n
 ·by_cases h2 : n ≤ 4
  ·have HD := hide (show plB n = true from by unfold plB; simp [h1, h2])
   go_enter Tryz.func105, Tryz.ntmps105
   go_wp2_with fail
   go_ret
   exact ⟨by rw [HD.out]; rfl, rfl⟩
  ·have HD := hide (show plB n = false from by unfold plB; simp; omega)
   go_enter Tryz.func105, Tryz.ntmps105
   go_wp2_with fail
   go_ret
   exact ⟨by rw [HD.out]; rfl, rfl⟩
 ·have HD := hide (show plB n = false from by unfold plB; simp; omega)
  go_enter Tryz.func105, Tryz.ntmps105
  go_wp2_with fail
  go_ret
  exact ⟨by rw [HD.out]; rfl, rfl⟩
theorem mnL_neg {a D : Nat} (h : 0 < a) : mnL (-(a : Int)) D = [45] ++ (wholeL a D ++ (if D = 0 then [] else 46 :: dgs a D)) := by
 unfold mnL; rw [if_pos (by omega), Int.natAbs_neg, Int.natAbs_natCast, List.append_assoc]
theorem mnL_pos (a D : Nat) : mnL (a : Int) D = [] ++ (wholeL a D ++ (if D = 0 then [] else 46 :: dgs a D)) := by
 unfold mnL; rw [if_neg (by omega), Int.natAbs_natCast, List.append_assoc]
def FmI (a D : Nat) (W : World) (v : Value) (wr : World) : Prop := ∃ k, Lib.nDigits a ≤ k ∧ k ≤ 20 ∧ (k = Lib.nDigits a ∨ k ≤ D + 1) ∧ v = .string ⟨(dgs a k).toArray⟩ ∧ W = wr
end Go.Proofs.YtdjlaiilngechaaGreatDoor
