/- Texts laid together: TvC StF StG. -/
import Derived.Test.YtpghciiifnjimaaGreatDoorXTvB
import Derived.Test.YtpghciiifnjimaaGreatDoorXTpU
import Derived.Test.YtpghciiifnjimaaGreatDoorXDaM
import Derived.Laws.Rows
import Derived.Test.YtpghciiifnjimaaGreatDoorXK0
namespace Go.Proofs.YtpghciiifnjimaaGreatDoor
set_option maxRecDepth 4000
set_option linter.unusedSimpArgs false
set_option linter.unusedVariables false
open Go.RowKit
/-- How two texts compare. -/
def cmpS (a b : ByteArray) : Int := if Op.bytesLess a.toList b.toList then -1 else if a.toList == b.toList then 0 else 1
/-- How two numbers compare. -/
def cmpI (a b : Int) : Int := if a < b then -1 else if b < a then 1 else 0
theorem nanS_any (s : ByteArray) (w : World) : Calls Tryz.prog 173 #[.string s] w fun e w' => e = .returned (.bool false) ∧ w' = w := by
 go_enter Tryz.func173, Tryz.ntmps173
 go_wp2_with fail
 go_ret
 exact ⟨by simp, rfl⟩
theorem nanI_any (s : Int) (w : World) : Calls Tryz.prog 264 #[.int .i64 s] w fun e w' => e = .returned (.bool false) ∧ w' = w := by
 go_enter Tryz.func264, Tryz.ntmps264
 go_wp2_with fail
 go_ret
 exact ⟨by simp, rfl⟩
theorem cmpS_any (a b : ByteArray) (w : World) : Calls Tryz.prog 121 #[.string a, .string b] w fun e w' => e = .returned (.int .i64 (cmpS a b)) ∧ w' = w := by
 go_enter Tryz.func121, Tryz.ntmps121
 go_wp2_with fail
 refine (nanS_any a _).mono ?_
 rintro r w1 ⟨rfl, rfl⟩
 go_wp2_with fail
 refine (nanS_any b _).mono ?_
 rintro r w1 ⟨rfl, rfl⟩
 cases h1 : Op.bytesLess a.toList b.toList with
 | true =>
  go_wp2_with fail
  go_ret
  exact ⟨by unfold cmpS; rw [h1]; rfl, rfl⟩
 | false =>
  cases h2 : (a.toList == b.toList) with
  | true =>
   go_wp2_with fail
   go_ret
   exact ⟨by unfold cmpS; rw [h1, h2]; rfl, rfl⟩
  | false =>
   go_wp2_with fail
   go_ret
   exact ⟨by unfold cmpS; rw [h1, h2]; rfl, rfl⟩
theorem cmpI_any (a b : Int) (w : World) : Calls Tryz.prog 224 #[.int .i64 a, .int .i64 b] w fun e w' => e = .returned (.int .i64 (cmpI a b)) ∧ w' = w := by
 go_enter Tryz.func224, Tryz.ntmps224
 go_wp2_with fail
 refine (nanI_any a _).mono ?_
 rintro r w1 ⟨rfl, rfl⟩
 go_wp2_with fail
 refine (nanI_any b _).mono ?_
 rintro r w1 ⟨rfl, rfl⟩
 rcases Int.lt_trichotomy a b with h | h | h
 ·have HE := hide (show cmpI a b = -1 from by unfold cmpI; rw [if_pos h])
  go_wp2_with fail
  go_ret
  exact ⟨by rw [HE.out]; rfl, rfl⟩
 ·have HE := hide (show cmpI a b = 0 from by unfold cmpI; rw [if_neg (by omega), if_neg (by omega)])
  have h1 : ¬ a < b := by omega
  have h2 : ¬ b < a := by omega
  clear h
  go_wp2_with fail
  go_ret
  exact ⟨by rw [HE.out]; rfl, rfl⟩
 ·have HE := hide (show cmpI a b = 1 from by unfold cmpI; rw [if_neg (by omega), if_pos h])
  have h1 : ¬ a < b := by omega
  go_wp2_with fail
  go_ret
  exact ⟨by rw [HE.out]; rfl, rfl⟩
/-- Binary search between i and j. -/
def bsI (f : Nat → Int) : Nat → Nat → Nat → Nat
 | 0, i, _ => i
 | m + 1, i, j => if i < j then (if f ((i + j) / 2) < 0 then bsI f m ((i + j) / 2 + 1) j else bsI f m i ((i + j) / 2)) else i
theorem bsI_fuel (f : Nat → Int) : ∀ (m k i j : Nat), j - i ≤ m → j - i ≤ k → bsI f m i j = bsI f k i j
 | 0, 0, _, _, _, _ => rfl
 | 0, k + 1, i, j, h, _ => by
  show i = bsI f (k + 1) i j
  unfold bsI
  rw [if_neg (by omega)]
 | m + 1, 0, i, j, _, h => by
  show bsI f (m + 1) i j = i
  unfold bsI
  rw [if_neg (by omega)]
 | m + 1, k + 1, i, j, h1, h2 => by
  unfold bsI
  by_cases hij : i < j
  ·rw [if_pos hij, if_pos hij, bsI_fuel f m k ((i + j) / 2 + 1) j (by omega) (by omega), bsI_fuel f m k i ((i + j) / 2) (by omega) (by omega)]
  ·rw [if_neg hij, if_neg hij]
theorem bsI_lo {f : Nat → Int} {i j : Nat} (h : i < j) (hf : f ((i + j) / 2) < 0) : bsI f (j - i) i j = bsI f (j - ((i + j) / 2 + 1)) ((i + j) / 2 + 1) j := by
 obtain ⟨m, hm⟩ : ∃ m, j - i = m + 1 := ⟨j - i - 1, by omega⟩
 rw [hm]
 show (if i < j then (if f ((i + j) / 2) < 0 then bsI f m ((i + j) / 2 + 1) j else bsI f m i ((i + j) / 2)) else i) = _
 rw [if_pos h, if_pos hf]
 exact bsI_fuel f _ _ _ _ (by omega) (by omega)
theorem bsI_hi {f : Nat → Int} {i j : Nat} (h : i < j) (hf : ¬ f ((i + j) / 2) < 0) : bsI f (j - i) i j = bsI f ((i + j) / 2 - i) i ((i + j) / 2) := by
 obtain ⟨m, hm⟩ : ∃ m, j - i = m + 1 := ⟨j - i - 1, by omega⟩
 rw [hm]
 show (if i < j then (if f ((i + j) / 2) < 0 then bsI f m ((i + j) / 2 + 1) j else bsI f m i ((i + j) / 2)) else i) = _
 rw [if_pos h, if_neg hf]
 exact bsI_fuel f _ _ _ _ (by omega) (by omega)
theorem bsI_end {f : Nat → Int} {i j : Nat} (h : ¬ i < j) : bsI f (j - i) i j = i := by
 rw [show j - i = 0 by omega]; rfl
/-- The place that a binary search among n finds. -/
def bsP (f : Nat → Int) (n : Nat) : Nat := bsI f n 0 n
/-- What compares an element with the target. -/
theorem sums1_any (s t : ByteArray) (n : Int) (w : World) : Calls Tryz.prog 120 #[.agg #[.string s, .int .i64 n], .string t] w fun e w' => e = .returned (.int .i64 (cmpS s t)) ∧ Below w.heap.size w w' := by
 go_enter Tryz.func120, Tryz.ntmps120
 go_wp2_with fail
 refine (cmpS_any s t _).mono ?_
 rintro r w1 ⟨rfl, rfl⟩
 go_wp2_with fail
 go_ret
 exact ⟨rfl, by (repeat (first | (with_reducible first | exact Below.refl _ _ | assumption | refine Below.drew ?_) | ((with_reducible first | refine Below.alloc ?_ ?_ _ | refine Below.setCell ?_ ?_ _); rotate_left; (first | omega | (simp <;> omega)))))⟩
def BsI2 (f : Nat → Int) (n : Nat) (w : World) (v9 v10 : Value) (wr : World) : Prop :=
 ∃ i j : Nat, i ≤ j ∧ j ≤ n ∧ v9 = .int .i64 i ∧ v10 = .int .i64 j ∧ bsI f (j - i) i j = bsP f n ∧ Below w.heap.size w wr
set_option maxHeartbeats 4000000 in
theorem bsM_any (A : Option Addr) (n c : Nat) (s : Nat → ByteArray) (z : Nat → Int) (t : ByteArray) (hn : n ≤ 1000000) (w : World) (hr : RowS w A n 2 fun k j => if j = 0 then .string (s k) else .int .i64 (z k)) :
  Calls Tryz.prog 119 #[.slice A n c, .string t, .func (.func 120) #[] #[]] w
   fun e w' => e = .returned (.tuple #[.int .i64 (bsP (fun k => cmpS (s k) t) n), .bool (decide (bsP (fun k => cmpS (s k) t) n < n) && (cmpS (s (bsP (fun k => cmpS (s k) t) n)) t == 0))]) ∧ Below w.heap.size w w' := by
 have HR := hide hr
 obtain ⟨f, hf⟩ : ∃ f : Nat → Int, f = fun k => cmpS (s k) t := ⟨_, rfl⟩
 have HF := hide (show ∀ k, cmpS (s k) t = f k from fun k => by rw [hf])
 rw [← hf]
 clear hr hf
 go_enter Tryz.func119, Tryz.ntmps119
 go_wp2_with fail
 go_loopw [9, 10] (fun v9 v10 wr => BsI2 f n w v9 v10 wr) (fun v9 v10 _ => (intOf v10).toNat - (intOf v9).toNat)
 case atStart => exact ⟨0, n, by omega, by omega, rfl, rfl, rfl, by (repeat (first | (with_reducible first | exact Below.refl _ _ | assumption | refine Below.drew ?_) | ((with_reducible first | refine Below.alloc ?_ ?_ _ | refine Below.setCell ?_ ?_ _); rotate_left; (first | omega | (simp <;> omega)))))⟩
 case round =>
  obtain ⟨i, j, hij, hj, rfl, rfl, he, hB⟩ := hrel
  have HE := hide he
  clear he
  have hzB := hB.size
  by_cases hlt : i < j
  ·have m1 : (i + j) / 2 < n := by omega
   have m2 : (((i + j) / 2 : Nat) : Int) < n := by omega
   have m3 : (0 : Int) ≤ (((i + j) / 2 : Nat) : Int) := by omega
   have m4 : (i : Int) < j := by omega
   obtain ⟨b, off, rfl, hb, hc⟩ := (HR.out.below hB).at m1
   have c0 : wr.cell? ⟨b, off + (i + j) / 2 * 2, none⟩ = some (.string (s ((i + j) / 2))) := hc 0 (by decide)
   have c1 : wr.cell? ⟨b, off + (i + j) / 2 * 2 + 1, none⟩ = some (.int .i64 (z ((i + j) / 2))) := hc 1 (by decide)
   go_wp2_with fail
   refine (sums1_any (s ((i + j) / 2)) t (z ((i + j) / 2)) _).mono ?_
   rintro r w1 ⟨rfl, hb⟩
   rw [HF.out]
   have HLT := hide hlt
   have HJ := hide hj
   clear hc c0 c1
   have q1B : Below wr.heap.size wr w1 := qB hb
   have q1z := hb.size
   try simp at q1z
   have q1t : wr.heap.size ≤ w1.heap.size := (by omega)
   have q1o := belO q1B
   clear hb
   have B1 := hide (hB.trans (q1B.mono (by omega)))
   by_cases h0 : f ((i + j) / 2) < 0
   ·have HN := hide ((bsI_lo HLT.out h0).symm.trans HE.out)
    go_wp2_with fail
    go_roundw
    case rel => exact ⟨(i + j) / 2 + 1, j, by have := HLT.out; omega, HJ.out, by go_num, rfl, HN.out, B1.out⟩
    case measure => have := HLT.out; simp [intOf]; omega
   ·have HN := hide ((bsI_hi HLT.out h0).symm.trans HE.out)
    go_wp2_with fail
    go_roundw
    case rel => exact ⟨i, (i + j) / 2, by have := HLT.out; omega, by have := HJ.out; omega, rfl, by go_num, HN.out, B1.out⟩
    case measure => have := HLT.out; simp [intOf]; omega
  ·have HP := hide (show bsP f n = i from by rw [← HE.out]; exact bsI_end hlt)
   clear HE
   by_cases hin : i < n
   ·have m1 : (i : Int) < n := by omega
    have m2 : ¬ (i : Int) < j := by omega
    have m3 : (0 : Int) ≤ (i : Int) := by omega
    obtain ⟨b, off, rfl, hb, hc⟩ := (HR.out.below hB).at hin
    have c0 : wr.cell? ⟨b, off + i * 2, none⟩ = some (.string (s i)) := hc 0 (by decide)
    have c1 : wr.cell? ⟨b, off + i * 2 + 1, none⟩ = some (.int .i64 (z i)) := hc 1 (by decide)
    have HIN := hide hin
    clear hc hlt hij hj hin
    go_wp2_with fail
    refine (sums1_any (s i) t (z i) _).mono ?_
    rintro r w1 ⟨rfl, hb⟩
    rw [HF.out]
    have B1 := hide (hB.trans (qB hb))
    clear hb
    go_wp2_with fail
    go_ret2
    exact ⟨by rw [HP.out, HF.out, decide_eq_true HIN.out]; simp, B1.out⟩
   ·have m1 : ¬ (i : Int) < n := by omega
    have m2 : ¬ (i : Int) < j := by omega
    have HIN := hide hin
    clear hlt hij hj hin
    go_wp2_with fail
    go_ret2
    exact ⟨by rw [HP.out, decide_eq_false HIN.out]; simp, hB⟩
end Go.Proofs.YtpghciiifnjimaaGreatDoor
namespace Go.Proofs.YtpghciiifnjimaaGreatDoor
set_option maxRecDepth 4000
set_option linter.unusedSimpArgs false
set_option linter.unusedVariables false
open Go.RowKit
/-- The lines of a statement, of the first k entries. -/
def lnL (E : Nat → LEnt) (id f t : Int) : Nat → List LPos
 | 0 => []
 | k + 1 => lnL E id f t k ++ (if f ≤ (E k).bk ∧ (E k).bk ≤ t ∧ tchE (E k) id = true then [⟨(E k).id, (E k).bk, mvE (E k) id, (E k).tx⟩] else [])
theorem lnL_len (E : Nat → LEnt) (id f t : Int) : ∀ k, (lnL E id f t k).length ≤ k
 | 0 => Nat.le_refl _
 | k + 1 => by
  have := lnL_len E id f t k
  unfold lnL
  rw [List.length_append]
  split <;> simp <;> omega
theorem lnL_yes {E : Nat → LEnt} {id f t : Int} {k : Nat} (h1 : f ≤ (E k).bk) (h2 : (E k).bk ≤ t) (h3 : tchE (E k) id = true) : lnL E id f t (k + 1) = lnL E id f t k ++ [⟨(E k).id, (E k).bk, mvE (E k) id, (E k).tx⟩] := by
 show lnL E id f t k ++ _ = _; rw [if_pos ⟨h1, h2, h3⟩]
theorem lnL_no {E : Nat → LEnt} {id f t : Int} {k : Nat} (h : ¬ (f ≤ (E k).bk ∧ (E k).bk ≤ t ∧ tchE (E k) id = true)) : lnL E id f t (k + 1) = lnL E id f t k := by
 show lnL E id f t k ++ _ = _; rw [if_neg h]; simp
def opB (f : Int) (e : LEnt) : Bool := decide (e.bk < f)
def clB (t : Int) (e : LEnt) : Bool := decide (e.bk ≤ t)
def opS (E : Nat → LEnt) (id f : Int) (n : Nat) : Int := sumE E id (opB f) n
def clS (E : Nat → LEnt) (id t : Int) (n : Nat) : Int := sumE E id (clB t) n
theorem opS_yes {E : Nat → LEnt} {id f : Int} {k : Nat} (h : (E k).bk < f) : opS E id f (k + 1) = wrap64 (opS E id f k + mvE (E k) id) := if_pos (by simpa [opB] using h)
theorem opS_no {E : Nat → LEnt} {id f : Int} {k : Nat} (h : ¬ (E k).bk < f) : opS E id f (k + 1) = opS E id f k := if_neg (by simpa [opB] using h)
theorem clS_yes {E : Nat → LEnt} {id t : Int} {k : Nat} (h : (E k).bk ≤ t) : clS E id t (k + 1) = wrap64 (clS E id t k + mvE (E k) id) := if_pos (by simpa [clB] using h)
theorem clS_no {E : Nat → LEnt} {id t : Int} {k : Nat} (h : ¬ (E k).bk ≤ t) : clS E id t (k + 1) = clS E id t k := if_neg (by simpa [clB] using h)
/-- The error of Make. -/
def mkE (has : Bool) (no f t : Int) : Int := if has = false then 11 else if no < 1 then 1 else if vday f = false then 1 else if vday t = false then 1 else if f > t then 1 else 0
/-- A statement. -/
structure LStm where
 ac : Int
 no : Int
 f : Int
 t : Int
 op : Int
 cl : Int
 ls : List LPos
def zStm : LStm := ⟨0, 0, 0, 0, 0, 0, []⟩
def mkS (E : Nat → LEnt) (n : Nat) (has : Bool) (id no f t : Int) : LStm := if mkE has no f t = 0 then ⟨id, no, f, t, opS E id f n, clS E id t n, lnL E id f t n⟩ else zStm
theorem mkS_no {E : Nat → LEnt} {n : Nat} {has : Bool} {id no f t : Int} (h : mkE has no f t ≠ 0) : mkS E n has id no f t = zStm := if_neg h
theorem mkS_yes {E : Nat → LEnt} {n : Nat} {has : Bool} {id no f t : Int} (h : mkE has no f t = 0) : mkS E n has id no f t = ⟨id, no, f, t, opS E id f n, clS E id t n, lnL E id f t n⟩ := if_pos h
/-- A statement, with its lines in some row of cells. -/
def StRet (s : LStm) (err : Int) (w : World) (e : Ending) (w' : World) : Prop := ∃ A c, e = .returned (.tuple #[.agg #[.int .i64 s.ac, .int .i64 s.no, .int .i64 s.f, .int .i64 s.t, .int .i64 s.op, .int .i64 s.cl, .slice A s.ls.length c], .int .i64 err]) ∧ RowPos w' A s.ls.length (atP s.ls) ∧ Below w.heap.size w w'
theorem stRet_no {w w' : World} (err : Int) (hB : Below w.heap.size w w') : StRet zStm err w (.returned (.tuple #[.agg #[.int .i64 0, .int .i64 0, .int .i64 0, .int .i64 0, .int .i64 0, .int .i64 0, .slice none 0 0], .int .i64 err])) w' :=
 ⟨none, 0, rfl, fun h => by simp [zStm] at h, hB⟩
end Go.Proofs.YtpghciiifnjimaaGreatDoor
namespace Go.Proofs.YtpghciiifnjimaaGreatDoor
set_option maxRecDepth 4000
set_option linter.unusedSimpArgs false
set_option linter.unusedVariables false
open Go.RowKit
theorem posL_snoc (l : List LPos) (e : LPos) : (l ++ [e]).flatMap posL = l.flatMap posL ++ posL e := by simp
theorem owns_else {w : World} {base : Nat} {e : TypeId} {size n : Nat} {v : Value} {xs : List Value} (h : w.ownsRow base e size v n xs) {p : Addr} (hp : p.block < base) (u : Value) : (w.setCell p u).ownsRow base e size v n xs := by
 refine ⟨h.1, h.2.imp id fun ⟨g, cap, cur, hv, hg, hh, r⟩ => ⟨g, cap, cur, hv, hg, ?_, r⟩⟩
 rw [Go.Deep.blk_setCell_other _ _ _ _ (by omega)]
 exact hh
theorem lnL_gt {E : Nat → LEnt} {id f t : Int} {k : Nat} (h : (E k).bk > t) : lnL E id f t (k + 1) = lnL E id f t k := lnL_no (by omega)
theorem lnL_lt {E : Nat → LEnt} {id f t : Int} {k : Nat} (h : (E k).bk < f) : lnL E id f t (k + 1) = lnL E id f t k := lnL_no (by omega)
theorem lnL_un {E : Nat → LEnt} {id f t : Int} {k : Nat} (h : tchE (E k) id = false) : lnL E id f t (k + 1) = lnL E id f t k := lnL_no (by rw [h]; simp)
theorem pos_own {w : World} {base : Nat} {e : TypeId} {A : Option Addr} {c : Nat} {l m : List LPos} {a : LPos} {xs : List Value} (hm : m = l ++ [a]) (hx : xs = posL a) (h : w.ownsRow base e 4 (.slice A (l.length + 1) c) (l.length + 1) (l.flatMap posL ++ xs)) :
  w.ownsRow base e 4 (.slice A m.length c) m.length (m.flatMap posL) := by
 rw [hm, List.length_append, List.length_singleton, posL_snoc, ← hx]; exact h
theorem news_new {w : World} {g : Nat} {cs : Array Value} {e : TypeId} (hg : g = w.heap.size) (j : Nat) (u : Value) (hu : cs.toList[j]? = some u) : (w.alloc (.cells cs e)).cell? ((⟨g, 0, none⟩ : Addr).add j) = some u := by
 subst hg
 exact news_cells (Go.Deep.blk_alloc_new _ _) j u hu
theorem mkE_0 {h : Bool} (hh : h = false) (no f t : Int) : mkE h no f t = 11 := by rw [hh]; rfl
theorem mkE_1 {hs : Bool} (hh : hs = true) {no : Int} (f t : Int) (h : no < 1) : mkE hs no f t = 1 := by rw [hh]; unfold mkE; simp [h]
theorem mkE_2 {hs : Bool} (hh : hs = true) {no f : Int} (t : Int) (h : ¬ no < 1) (hf : vday f = false) : mkE hs no f t = 1 := by rw [hh]; unfold mkE; simp [h, hf]
theorem mkE_3 {hs : Bool} (hh : hs = true) {no f t : Int} (h : ¬ no < 1) (hf : vday f = true) (ht : vday t = false) : mkE hs no f t = 1 := by rw [hh]; unfold mkE; simp [h, hf, ht]
theorem mkE_4 {hs : Bool} (hh : hs = true) {no f t : Int} (h : ¬ no < 1) (hf : vday f = true) (ht : vday t = true) (h2 : f > t) : mkE hs no f t = 1 := by rw [hh]; unfold mkE; simp [h, hf, ht]; omega
theorem mkE_5 {hs : Bool} (hh : hs = true) {no f t : Int} (h : ¬ no < 1) (hf : vday f = true) (ht : vday t = true) (h2 : ¬ f > t) : mkE hs no f t = 0 := by rw [hh]; unfold mkE; simp [h, hf, ht]; omega
theorem mkS_err {E : Nat → LEnt} {n : Nat} {has : Bool} {id no f t e : Int} (h : mkE has no f t = e) (he : e ≠ 0) : mkS E n has id no f t = zStm := mkS_no (by rw [h]; exact he)
def MkI (E : Nat → LEnt) (id no f t : Int) (n g : Nat) (tP : TypeId) (W : World) (v : Value) (wr : World) : Prop :=
 ∃ (k : Nat) (A : Option Addr) (c : Nat), k ≤ n ∧ v = .int .i64 k ∧ Below W.heap.size W wr ∧ g < wr.heap.size ∧ (∀ o, wr.frozen? ⟨g, o, none⟩ = false) ∧
  wr.cell? ⟨g, 0, none⟩ = some (.int .i64 id) ∧ wr.cell? ⟨g, 1, none⟩ = some (.int .i64 no) ∧ wr.cell? ⟨g, 2, none⟩ = some (.int .i64 f) ∧ wr.cell? ⟨g, 3, none⟩ = some (.int .i64 t) ∧
  wr.cell? ⟨g, 4, none⟩ = some (.int .i64 (opS E id f k)) ∧ wr.cell? ⟨g, 5, none⟩ = some (.int .i64 (clS E id t k)) ∧ wr.cell? ⟨g, 6, none⟩ = some (.slice A (lnL E id f t k).length c) ∧
  wr.ownsRow (g + 1) tP 4 (.slice A (lnL E id f t k).length c) (lnL E id f t k).length ((lnL E id f t k).flatMap posL)
set_option maxRecDepth 4000 in
set_option maxHeartbeats 2000000 in
theorem make_any (C : Array Value) (aA : Option Addr) (an ac : Nat) (jA : Option Addr) (jn jc : Nat) (hC : Bks C aA an ac jA jn jc) (a : Nat → LAcc) (E : Nat → LEnt) (id no f t : Int) (hn : an ≤ 1000000) (hjn : jn ≤ 1000000) (w : World) (hr : RowAcc w aA an a) (hj : Jrn w jA jn E) :
  Calls Tryz.prog 7 #[.agg C, .int .i64 id, .int .i64 no, .int .i64 f, .int .i64 t] w (StRet (mkS E jn (hasA a id an) id no f t) (mkE (hasA a id an) no f t) w) := by
 obtain ⟨i0, hi0, hz0, hz1, hz2⟩ := info3 pos_info
 have I0 := hide hi0
 have I1 := hide hz0
 have I2 := hide hz1
 have I3 := hide hz2
 clear hi0 hz0 hz1 hz2
 have HR := hide hr
 have HJ := hide hj
 have HCC := hide hC
 have h19 := hC.jou
 have hrow : (Tryz.prog.info? 33).map (·.size) = some C.size := by rw [hC.size]; kernel_rfl
 have HW := hide hrow
 clear hr hrow hj hC
 go_enter Tryz.func7, Tryz.ntmps7
 go_wp2_with (with_reducible refine wpList_load_row rfl 33 (.tmp 5) rfl w.heap.size rfl 33 C (0, 0) _ (two_boxes _ _ _) Tryz.underlying33 rfl HW.out ?_)
 refine (find_any C aA an ac jA jn jc HCC.out a id hn _ (HR.out.below belT)).mono ?_
 rintro e w1 ⟨rfl, hb⟩
 have q1B : Below w.heap.size w w1 := qB hb
 have q1z := hb.size
 try simp at q1z
 have q1t : w.heap.size ≤ w1.heap.size := (by omega)
 obtain ⟨q1s0, q1n0_0, q1n0_1, q1n0_2⟩ := kB w1.heap.size w.heap.size
 have q1c0_19 := cel hb w.heap.size 19
 simp [go_sem, *] at q1c0_19
 have q1f0 := fun o => fro hb w.heap.size o
 simp [go_sem, *] at q1f0
 obtain ⟨q1s1, q1n1_0, q1n1_1, q1n1_2⟩ := kB w1.heap.size (w.heap.size + 1)
 obtain ⟨q1c1_0, q1c1_1, q1c1_2, q1c1_3, q1c1_4, q1c1_5, q1c1_6, q1f1⟩ := kC7 hb (w.heap.size + 1)
 simp [go_sem, *] at q1c1_0 q1c1_1 q1c1_2 q1c1_3 q1c1_4 q1c1_5 q1c1_6 q1f1
 have q1o := belO q1B
 clear hb
 clear h19
 cases hh : hasA a id an with
 | false =>
  have HM := hide (mkE_0 hh no f t)
  have HS := hide (mkS_err (E := E) (n := jn) (id := id) HM.out (by decide))
  clear hh
  go_wp2_with fail
  refine bodyPost_ret (by simp [results, Tryz.results7, go_sem, *] <;> rfl) rfl ?_
  rw [HM.out, HS.out]
  exact stRet_no 11 belT
 | true =>
  have HH := hide hh
  clear hh
  by_cases hno : no < 1
  ·have HM := hide (mkE_1 HH.out f t hno)
   have HS := hide (mkS_err (E := E) (n := jn) (id := id) HM.out (by decide))
   go_wp2_with fail
   refine bodyPost_ret (by simp [results, Tryz.results7, go_sem, *] <;> rfl) rfl ?_
   rw [HM.out, HS.out]
   exact stRet_no 1 belT
  ·have HNO := hide hno
   have hno2 := Int.not_lt.1 hno
   clear hno
   cases hf : vday f with
   | false =>
    have HM := hide (mkE_2 HH.out t HNO.out hf)
    have HS := hide (mkS_err (E := E) (n := jn) (id := id) HM.out (by decide))
    have HF := hide hf
    clear hf
    go_wp2_with fail
    refine (valid_any f _).mono ?_
    rintro e w2 ⟨rfl, rfl⟩
    rw [HF.out]
    go_wp2_with fail
    refine bodyPost_ret (by simp [results, Tryz.results7, go_sem, *] <;> rfl) rfl ?_
    rw [HM.out, HS.out]
    exact stRet_no 1 belT
   | true =>
    have HF := hide hf
    clear hf
    cases ht : vday t with
    | false =>
     have HM := hide (mkE_3 HH.out HNO.out HF.out ht)
     have HS := hide (mkS_err (E := E) (n := jn) (id := id) HM.out (by decide))
     have HT := hide ht
     clear ht
     go_wp2_with fail
     refine (valid_any f _).mono ?_
     rintro e w2 ⟨rfl, rfl⟩
     rw [HF.out]
     go_wp2_with fail
     refine (valid_any t _).mono ?_
     rintro e w2 ⟨rfl, rfl⟩
     rw [HT.out]
     go_wp2_with fail
     refine bodyPost_ret (by simp [results, Tryz.results7, go_sem, *] <;> rfl) rfl ?_
     rw [HM.out, HS.out]
     exact stRet_no 1 belT
    | true =>
     have HT := hide ht
     clear ht
     by_cases hft : f > t
     ·have HM := hide (mkE_4 HH.out HNO.out HF.out HT.out hft)
      have HS := hide (mkS_err (E := E) (n := jn) (id := id) HM.out (by decide))
      have hft2 : t < f := hft
      clear hft
      go_wp2_with fail
      refine (valid_any f _).mono ?_
      rintro e w2 ⟨rfl, rfl⟩
      rw [HF.out]
      go_wp2_with fail
      refine (valid_any t _).mono ?_
      rintro e w2 ⟨rfl, rfl⟩
      rw [HT.out]
      go_wp2_with fail
      refine bodyPost_ret (by simp [results, Tryz.results7, go_sem, *] <;> rfl) rfl ?_
      rw [HM.out, HS.out]
      exact stRet_no 1 belT
     ·have HM := hide (mkE_5 HH.out HNO.out HF.out HT.out hft)
      have HS := hide (mkS_yes (E := E) (n := jn) (id := id) HM.out)
      have hft2 : f ≤ t := by omega
      have HFT := hide hft2
      clear hft
      go_wp2_with fail
      refine (valid_any f _).mono ?_
      rintro e w2 ⟨rfl, rfl⟩
      rw [HF.out]
      go_wp2_with fail
      refine (valid_any t _).mono ?_
      rintro e w2 ⟨rfl, rfl⟩
      rw [HT.out]
      go_wp2_with fail
      go_loopw [54] (fun v wr => MkI E id no f t jn (w1.heap.size + 1) 68 w1 v wr) (fun v _ => jn - (intOf v).toNat)
      case atStart => exact ⟨0, none, 0, by omega, rfl, by (repeat (first | (with_reducible first | exact Below.refl _ _ | assumption | refine Below.drew ?_) | ((with_reducible first | refine Below.alloc ?_ ?_ _ | refine Below.setCell ?_ ?_ _); rotate_left; (first | omega | (simp <;> omega))))), by simp, by simp [go_sem], by simp [go_sem], by simp [go_sem], by simp [go_sem], by simp [go_sem], by simp [go_sem]; rfl, by simp [go_sem]; rfl, by simp [go_sem]; rfl, ⟨rfl, .inl ⟨rfl, rfl⟩⟩⟩
      case round =>
       obtain ⟨k, A9, c9, hk, rfl, hb, hg, bf, b0, b1, b2, b3, b4, b5, b6, hown⟩ := hrel
       have H0 := hide hb
       have H1 := hide q1B
       have q2B : Below w1.heap.size w1 wr := qB hb
       have q2z := hb.size
       try simp at q2z
       have q2t : w1.heap.size ≤ wr.heap.size := (by omega)
       obtain ⟨q2s0, q2n0_0, q2n0_1, q2n0_2⟩ := kB wr.heap.size w.heap.size
       have q2c0_19 := cel hb w.heap.size 19
       simp [go_sem, *] at q2c0_19
       have q2f0 := fun o => fro hb w.heap.size o
       simp [go_sem, *] at q2f0
       obtain ⟨q2s1, q2n1_0, q2n1_1, q2n1_2⟩ := kB wr.heap.size (w.heap.size + 1)
       obtain ⟨q2c1_0, q2c1_1, q2c1_2, q2c1_3, q2c1_4, q2c1_5, q2c1_6, q2f1⟩ := kC7 hb (w.heap.size + 1)
       simp [go_sem, *] at q2c1_0 q2c1_1 q2c1_2 q2c1_3 q2c1_4 q2c1_5 q2c1_6 q2f1
       have q2o := belO q2B
       clear hb q1o q1f1 q1c1_6 q1c1_5 q1c1_4 q1c1_3 q1c1_2 q1c1_1 q1c1_0 q1s1 q1f0 q1c0_19 q1s0 q1z q1B
       by_cases hlt : k < jn
       ·have hm : (k : Int) < jn := by omega
        have HK := hide hlt
        have hk0 : (0 : Int) ≤ k := by omega
        obtain ⟨b, off, rfl, hbl, c0, c1, c2, c3, c4, c5, c6, c7, c8, d9⟩ := ((HJ.out.below H1.out).below q2B).row.at hlt
        clear hlt hk
        go_wp2_with fail
        refine (moved_any _ (E k).lA (E k).ln (E k).lc rfl (E k).legs id (HJ.out.legs k HK.out) _ (((HJ.out.row.2 k HK.out).below (H1.out.trans (q2B.mono (by omega)))).below belT)).mono ?_
        rintro e w2 ⟨rfl, hb⟩
        have H2 := hide q2B
        have HOW := hide hown
        clear hown
        have q3B : Below wr.heap.size wr w2 := qB hb
        have q3z := hb.size
        try simp at q3z
        have q3t : wr.heap.size ≤ w2.heap.size := (by omega)
        obtain ⟨q3s0, q3n0_0, q3n0_1, q3n0_2⟩ := kB w2.heap.size w.heap.size
        have q3c0_19 := cel hb w.heap.size 19
        simp [go_sem, *] at q3c0_19
        have q3f0 := fun o => fro hb w.heap.size o
        simp [go_sem, *] at q3f0
        obtain ⟨q3s1, q3n1_0, q3n1_1, q3n1_2⟩ := kB w2.heap.size (w.heap.size + 1)
        obtain ⟨q3c1_0, q3c1_1, q3c1_2, q3c1_3, q3c1_4, q3c1_5, q3c1_6, q3f1⟩ := kC7 hb (w.heap.size + 1)
        simp [go_sem, *] at q3c1_0 q3c1_1 q3c1_2 q3c1_3 q3c1_4 q3c1_5 q3c1_6 q3f1
        obtain ⟨q3s2, q3n2_0, q3n2_1, q3n2_2⟩ := kB w2.heap.size (w1.heap.size + 1)
        obtain ⟨q3c2_0, q3c2_1, q3c2_2, q3c2_3, q3c2_4, q3c2_5, q3c2_6, q3f2⟩ := kC7 hb (w1.heap.size + 1)
        simp [go_sem, *] at q3c2_0 q3c2_1 q3c2_2 q3c2_3 q3c2_4 q3c2_5 q3c2_6 q3f2
        obtain ⟨q3s3, q3n3_0, q3n3_1, q3n3_2⟩ := kB w2.heap.size wr.heap.size
        obtain ⟨q3c3_0, q3c3_1, q3c3_2, q3c3_3, q3c3_4, q3c3_5, q3c3_6, q3c3_7, q3c3_8, q3c3_9, q3f3⟩ := kC10 hb wr.heap.size
        simp [go_sem, *] at q3c3_0 q3c3_1 q3c3_2 q3c3_3 q3c3_4 q3c3_5 q3c3_6 q3c3_7 q3c3_8 q3c3_9 q3f3
        have q3o := belO q3B
        clear hb q2o q2f1 q2c1_6 q2c1_5 q2c1_4 q2c1_3 q2c1_2 q2c1_1 q2c1_0 q2s1 q2f0 q2c0_19 q2s0 q2z q2B
        by_cases g1 : (E k).bk > t
        ·have HO := hide (opS_no (E := E) (id := id) (show ¬ (E k).bk < f from by omega))
         have HC := hide (clS_no (E := E) (id := id) (show ¬ (E k).bk ≤ t from by omega))
         have HL := hide (lnL_gt (id := id) (f := f) g1)
         have g1' : t < (E k).bk := g1
         clear g1
         go_wp2_with fail
         go_roundw
         case rel => exact ⟨k + 1, A9, c9, HK.out, by go_num, H0.out.trans (q3B.mono (by omega)), by omega, fun o => q3f2 o, q3c2_0, q3c2_1, q3c2_2, q3c2_3, by rw [HO.out]; exact q3c2_4, by rw [HC.out]; exact q3c2_5, by rw [HL.out]; exact q3c2_6, by rw [HL.out]; exact owns_below HOW.out q3B⟩
         case measure => have := HK.out; simp [intOf]; omega
        ·have g1' := Int.not_lt.1 g1
         have HC := hide (clS_yes (id := id) g1')
         clear g1
         by_cases g2 : (E k).bk < f
         ·have HO := hide (opS_yes (id := id) g2)
          have HL := hide (lnL_lt (id := id) (t := t) g2)
          go_wp2_with fail
          go_roundw
          case rel => exact ⟨k + 1, A9, c9, HK.out, by go_num, H0.out.trans (by refine Below.trans (q3B.mono (by omega)) ?_; (repeat (first | (with_reducible first | exact Below.refl _ _ | assumption | refine Below.drew ?_) | ((with_reducible first | refine Below.alloc ?_ ?_ _ | refine Below.setCell ?_ ?_ _); rotate_left; (first | omega | (simp <;> omega)))))), by simp; omega, fun o => by simp [go_sem, *], by simp [go_sem, *], by simp [go_sem, *], by simp [go_sem, *], by simp [go_sem, *], by rw [HO.out]; simp [go_sem, *]; rfl, by rw [HC.out]; simp [go_sem, *]; rfl, by rw [HL.out]; simp [go_sem, *], by rw [HL.out]; exact owns_else (owns_else (owns_below HOW.out q3B) (by simp) _) (by simp) _⟩
          case measure => have := HK.out; simp [intOf]; omega
         ·have HO := hide (opS_no (E := E) (id := id) g2)
          have g2' := Int.not_lt.1 g2
          clear g2
          cases g3 : mvb (E k).legs id (E k).ln with
          | false =>
           have HL := hide (lnL_un (f := f) (t := t) (show tchE (E k) id = false from g3))
           clear g3
           go_wp2_with fail
           go_roundw
           case rel => exact ⟨k + 1, A9, c9, HK.out, by go_num, H0.out.trans (by refine Below.trans (q3B.mono (by omega)) ?_; (repeat (first | (with_reducible first | exact Below.refl _ _ | assumption | refine Below.drew ?_) | ((with_reducible first | refine Below.alloc ?_ ?_ _ | refine Below.setCell ?_ ?_ _); rotate_left; (first | omega | (simp <;> omega)))))), by simp; omega, fun o => by simp [go_sem, *], by simp [go_sem, *], by simp [go_sem, *], by simp [go_sem, *], by simp [go_sem, *], by rw [HO.out]; simp [go_sem, *], by rw [HC.out]; simp [go_sem, *]; rfl, by rw [HL.out]; simp [go_sem, *], by rw [HL.out]; exact owns_else (owns_below HOW.out q3B) (by simp) _⟩
           case measure => have := HK.out; simp [intOf]; omega
          | true =>
           have HL := hide (lnL_yes g2' g1' (show tchE (E k) id = true from g3))
           clear g3
           have HN := hide (show (lnL E id f t k).length ≤ 1000000 from by have := lnL_len E id f t k; have := HK.out; omega)
           have hz3 := q3B.size
           go_wp2_with (at_builtin; go_loud (refine wpList_append_own2 _ rfl (.tmp 71) (.tmp 80) 37 rfl (w1.heap.size + 1 + 1) 68 i0 (.agg #[.int .i64 0, .int .i64 0, .int .i64 0, .string ⟨#[]⟩]) 4 40 Tryz.underlying37 I0.out I1.out I2.out I3.out rfl (by decide) _ _ _ rfl ((owns_else (owns_below HOW.out q3B) (p := ⟨w1.heap.size + 1, 5, none⟩) (by simp) _).alloc _) ⟨w2.heap.size, 0, none⟩ 1 1 (posL ⟨(E k).id, (E k).bk, mvE (E k) id, (E k).tx⟩) rfl rfl (news_new (cs := ⟨posL ⟨(E k).id, (E k).bk, mvE (E k) id, (E k).tx⟩⟩) (by simp)) (ones_all rfl) (by have := HN.out; simp only [maxLen]; omega) (by have := HN.out; omega) (by simp; omega) ?_); intro A1 c1 w3 ho hg3 hv; have hb := below_grown (B := w1.heap.size + 1 + 1) hg3 (by simp; omega) (own_ge HOW.out); have d0 := hb.cell (p := ⟨w1.heap.size + 1, 0, none⟩) (by simp); (simp [go_sem, *] at d0); have d1 := hb.cell (p := ⟨w1.heap.size + 1, 1, none⟩) (by simp); (simp [go_sem, *] at d1); have d2 := hb.cell (p := ⟨w1.heap.size + 1, 2, none⟩) (by simp); (simp [go_sem, *] at d2); have d3 := hb.cell (p := ⟨w1.heap.size + 1, 3, none⟩) (by simp); (simp [go_sem, *] at d3); have d4 := hb.cell (p := ⟨w1.heap.size + 1, 4, none⟩) (by simp); (simp [go_sem, *] at d4); have d5 := hb.cell (p := ⟨w1.heap.size + 1, 5, none⟩) (by simp); (simp [go_sem, *] at d5); have d6 := hb.cell (p := ⟨w1.heap.size + 1, 6, none⟩) (by simp); (simp [go_sem, *] at d6); have df := fun o => hb.frozen (p := ⟨w1.heap.size + 1, o, none⟩) (by simp); (simp [go_sem, *] at df); have hz4 := hb.size; (try simp at hz4))
           go_roundw
           case rel => exact ⟨k + 1, A1, c1, HK.out, by go_num, H0.out.trans ((q3B.mono (by omega)).trans (by refine Below.setCell ?_ (by simp) _; refine Below.trans ?_ (below_grown (B := w1.heap.size) hg3 (by simp; omega) (fun k hk => by have := own_ge HOW.out k hk; omega)); (repeat (first | (with_reducible first | exact Below.refl _ _ | assumption | refine Below.drew ?_) | ((with_reducible first | refine Below.alloc ?_ ?_ _ | refine Below.setCell ?_ ?_ _); rotate_left; (first | omega | (simp <;> omega))))))), by simp; omega, fun o => by simp [go_sem, *], by simp [go_sem, *], by simp [go_sem, *], by simp [go_sem, *], by simp [go_sem, *], by rw [HO.out]; simp [go_sem, *], by rw [HC.out]; simp [go_sem, *]; rfl, by rw [HL.out]; simp [go_sem, *], owns_else (pos_own HL.out rfl ho) (by simp) _⟩
           case measure => have := HK.out; simp [intOf]; omega
       ·obtain rfl : k = jn := by omega
        clear hlt hk
        go_wp2_with fail
        refine bodyPost_ret (by simp [results, Tryz.results7, go_sem, *] <;> rfl) rfl ?_
        rw [HM.out, HS.out]
        obtain ⟨A', c', hv', hrow⟩ := own_rowPos (owns_else (owns_else (owns_else (owns_else (owns_else (owns_else (owns_else hown (p := ⟨w.heap.size + 1, 0, none⟩) (by simp; omega) (.int .i64 id)) (p := ⟨w.heap.size + 1, 1, none⟩) (by simp; omega) (.int .i64 no)) (p := ⟨w.heap.size + 1, 2, none⟩) (by simp; omega) (.int .i64 f)) (p := ⟨w.heap.size + 1, 3, none⟩) (by simp; omega) (.int .i64 t)) (p := ⟨w.heap.size + 1, 4, none⟩) (by simp; omega) (.int .i64 (opS E id f k))) (p := ⟨w.heap.size + 1, 5, none⟩) (by simp; omega) (.int .i64 (clS E id t k))) (p := ⟨w.heap.size + 1, 6, none⟩) (by simp; omega) (.slice A9 (lnL E id f t k).length c9))
        injection hv' with e1 e2 e3
        subst e1 e3
        exact ⟨A9, c9, rfl, hrow, by refine Below.trans (H1.out.trans (q2B.mono (by omega))) ?_; (repeat (first | (with_reducible first | exact Below.refl _ _ | assumption | refine Below.drew ?_) | ((with_reducible first | refine Below.alloc ?_ ?_ _ | refine Below.setCell ?_ ?_ _); rotate_left; (first | omega | (simp <;> omega)))))⟩
end Go.Proofs.YtpghciiifnjimaaGreatDoor
