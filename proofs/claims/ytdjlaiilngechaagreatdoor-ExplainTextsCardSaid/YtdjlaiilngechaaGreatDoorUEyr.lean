/- Texts laid together: Eyr. -/
import Derived.Test.YtdjlaiilngechaaGreatDoorUEyq
import Derived.Test.YtdjlaiilngechaaGreatDoorUExW
namespace Go.Proofs.YtdjlaiilngechaaGreatDoor
set_option maxRecDepth 4000
set_option linter.unusedSimpArgs false
set_option linter.unusedVariables false
open Go.RowKit
theorem ex_lns20 (C : Array Value) (tb pb ab jb b1 b2 : Nat) : lnsL (exB C 20 tb pb ab jb b1 b2) 1000 0 9 = [exL1] := by
 have h : serE (exB C 20 tb pb ab jb b1 b2) 1000 0 9 = 0 := rfl
 unfold lnsL
 rw [if_pos h, show ((9 : Int) - 0 + 1).toNat = 10 from rfl, lnL_congr (g := exF 20) (fun i hi => ex_line C tb pb ab jb b1 b2 20 (by omega))]
 exact ex_ln20
theorem ex_lns5 (C : Array Value) (tb pb ab jb b1 b2 : Nat) : lnsL (exB C 5 tb pb ab jb b1 b2) 1000 0 9 = [exL2, exL3] := by
 have h : serE (exB C 5 tb pb ab jb b1 b2) 1000 0 9 = 0 := rfl
 unfold lnsL
 rw [if_pos h, show ((9 : Int) - 0 + 1).toNat = 10 from rfl, lnL_congr (g := exF 5) (fun i hi => ex_line C tb pb ab jb b1 b2 5 (by omega))]
 exact ex_ln5
theorem ex_lnsN (C : Array Value) (tb pb ab jb b1 b2 : Nat) : lnsL (exB C 5 tb pb ab jb b1 b2) 1001 0 9 = [] := by
 have h : serE (exB C 5 tb pb ab jb b1 b2) 1001 0 9 = 11 := rfl
 unfold lnsL
 rw [if_neg (by rw [h]; decide)]
def onX (A : Option Addr) (c : Nat) (_ : Nat) : LnR := (exL1, A, c)
def twX (A1 : Option Addr) (c1 : Nat) (A2 : Option Addr) (c2 : Nat) : Nat → LnR
 | 0 => (exL2, A1, c1)
 | _ => (exL3, A2, c2)
theorem RowLn.congr {w : World} {A : Option Addr} {n : Nat} {x y : Nat → LnR} (h : RowLn w A n x) (e : ∀ k, k < n → x k = y k) : RowLn w A n y :=
 ⟨RowS.congr h.row fun k j hk _ => by rw [e k hk], fun k hk => by rw [← e k hk]; exact h.sl k hk⟩
def LvL1 (w : World) (e : Ending) (w' : World) : Prop := ∃ A c A1 c1, e = .returned (.tuple #[.slice A 1 c, .int .i64 0]) ∧ RowLn w' A 1 (onX A1 c1) ∧ Below w.heap.size w w'
def LvL2 (w : World) (e : Ending) (w' : World) : Prop := ∃ A c A1 c1 A2 c2, e = .returned (.tuple #[.slice A 2 c, .int .i64 0]) ∧ RowLn w' A 2 (twX A1 c1 A2 c2) ∧ Below w.heap.size w w'
def LvL0 (w : World) (e : Ending) (w' : World) : Prop := ∃ A c, e = .returned (.tuple #[.slice A 0 c, .int .i64 11]) ∧ Below w.heap.size w w'
theorem lv_lines1 {C : Array Value} {tb pb ab jb b1 b2 : Nat} (hB : BkOK (exB C 20 tb pb ab jb b1 b2)) (w : World) (hw : BkIn w (exB C 20 tb pb ab jb b1 b2)) : Calls Tryz.prog 8 #[.agg C, .int .i64 1000, .int .i64 0, .int .i64 9] w (LvL1 w) := by
 refine (lines_any _ hB 1000 0 9 (fun _ => by decide) w hw).mono ?_
 rintro e w' ⟨A, c, l, rfl, hr, hl, hb⟩
 rw [ex_lns20] at hl
 match l, hl with
 | [(x, A1, c1)], hl =>
  have e1 : x = exL1 := by simpa using hl
  subst e1
  exact ⟨A, c, A1, c1, rfl, hr.congr (fun k hk => by
   have h0 : k < 1 := hk
   obtain rfl : k = 0 := by omega
   rfl), hb⟩
theorem lv_lines2 {C : Array Value} {tb pb ab jb b1 b2 : Nat} (hB : BkOK (exB C 5 tb pb ab jb b1 b2)) (w : World) (hw : BkIn w (exB C 5 tb pb ab jb b1 b2)) : Calls Tryz.prog 8 #[.agg C, .int .i64 1000, .int .i64 0, .int .i64 9] w (LvL2 w) := by
 refine (lines_any _ hB 1000 0 9 (fun _ => by decide) w hw).mono ?_
 rintro e w' ⟨A, c, l, rfl, hr, hl, hb⟩
 rw [ex_lns5] at hl
 match l, hl with
 | [(x, A1, c1), (y, A2, c2)], hl =>
  have e1 : x = exL2 ∧ y = exL3 := by simpa using hl
  obtain ⟨rfl, rfl⟩ := e1
  exact ⟨A, c, A1, c1, A2, c2, rfl, hr.congr fun k hk => by
   have : k = 0 ∨ k = 1 := by simp at hk; omega
   rcases this with rfl | rfl <;> rfl, hb⟩
theorem lv_lines0 {C : Array Value} {tb pb ab jb b1 b2 : Nat} (hB : BkOK (exB C 5 tb pb ab jb b1 b2)) (w : World) (hw : BkIn w (exB C 5 tb pb ab jb b1 b2)) : Calls Tryz.prog 8 #[.agg C, .int .i64 1001, .int .i64 0, .int .i64 9] w (LvL0 w) := by
 refine (lines_any _ hB 1001 0 9 (fun _ => by decide) w hw).mono ?_
 rintro e w' ⟨A, c, l, rfl, hr, hl, hb⟩
 rw [ex_lnsN] at hl
 match l, hl with
 | [], hl => exact ⟨A, c, rfl, hb⟩
theorem ex_win : WIn exL1.gr := by unfold WIn; decide
theorem ex_ib1 : IB exL1.sl.length (fsts exL1.sl) (snds exL1.sl) := fun k hk => by
 obtain rfl : k = 0 := by have : k < 1 := hk; omega
 unfold IIn
 exact ⟨by decide, by decide⟩
theorem lv_sum (A : Option Addr) (c : Nat) (A1 : Option Addr) (c1 : Nat) (w : World) (hr : RowLn w A 1 (onX A1 c1)) : Calls Tryz.prog 15 #[.slice A 1 c] w fun e w' => e = .returned (.tuple #[.agg #[.int .i64 0, .int .u64 65880000000000], .int .i64 0]) ∧ Below w.heap.size w w' := by
 have h := esum_any A 1 c (onX A1 c1) (by decide) (fun k _ => ex_win) w hr
 rw [show hiW (smFV (linOf (onX A1 c1)) 1) = 0 from by kernel_rfl, show loW (smFV (linOf (onX A1 c1)) 1) = 65880000000000 from by kernel_rfl, show smFE (linOf (onX A1 c1)) 1 = 0 from by kernel_rfl] at h
 exact h
def LvT (w : World) (e : Ending) (w' : World) : Prop := ∃ A c, e = .returned (.tuple #[.slice A 1 c, .int .i64 0]) ∧ RowTx w' A 1 (fun _ => ⟨exT.toArray⟩) ∧ Below w.heap.size w w'
theorem lv_text (A : Option Addr) (c : Nat) (A1 : Option Addr) (c1 : Nat) (w : World) (hr : RowLn w A 1 (onX A1 c1)) (ht : Tab w) : Calls Tryz.prog 13 #[.slice A 1 c, .int .i64 2] w (LvT w) := by
 refine (etexts_any A 1 c (onX A1 c1) 2 (by decide) (fun k _ => ⟨by show (1 : Nat) ≤ 1000; decide, ex_win, ex_ib1⟩) w hr ht).mono ?_
 rintro e w' ⟨B, d, m, rfl, hm, hr2, hb⟩
 have h0 : txE (linOf (onX A1 c1)) 2 1 = 0 := ex_text.1
 rw [h0] at hm ⊢
 rw [if_pos rfl] at hm
 subst hm
 refine ⟨B, d, rfl, fun hn => ?_, hb⟩
 obtain ⟨g, off, e, hlt, hc⟩ := hr2 hn
 refine ⟨g, off, e, hlt, fun k hk => ?_⟩
 rw [hc k hk]
 show some (Value.string ⟨(tL exL1 2).toArray⟩) = _
 rw [ex_text.2]
def LvD (w : World) (e : Ending) (w' : World) : Prop := ∃ A c A1 c1 A2 c2, e = .returned (.slice A 2 c) ∧ RowLn w' A 2 (twX A1 c1 A2 c2) ∧ Below w.heap.size w w'
theorem lv_diff (A B : Option Addr) (c d : Nat) (A0 : Option Addr) (c0 : Nat) (A1 : Option Addr) (c1 : Nat) (A2 : Option Addr) (c2 : Nat) (w : World) (hr : RowLn w B 1 (onX A0 c0)) (hs : RowLn w A 2 (twX A1 c1 A2 c2)) : Calls Tryz.prog 18 #[.slice B 1 d, .slice A 2 c] w (LvD w) := by
 refine (diff_any A B 1 2 c d (twX A1 c1 A2 c2) (onX A0 c0) (by decide) (by decide) (fun k hk => by
  have : k = 0 ∨ k = 1 := by omega
  rcases this with rfl | rfl <;> (show (1 : Nat) ≤ 1000000; decide)) w hs hr).mono ?_
 rintro e w' ⟨E, q, l, rfl, hr2, hl, hb⟩
 rw [show dfL (twX A1 c1 A2 c2) (onX A0 c0) 1 2 = [exL2, exL3] from by kernel_rfl] at hl
 match l, hl with
 | [(x, A3, c3), (y, A4, c4)], hl =>
  have e1 : x = exL2 ∧ y = exL3 := by simpa using hl
  obtain ⟨rfl, rfl⟩ := e1
  exact ⟨E, q, A3, c3, A4, c4, rfl, hr2.congr fun k hk => by
   have : k = 0 ∨ k = 1 := by simp at hk; omega
   rcases this with rfl | rfl <;> rfl, hb⟩
theorem lv_same (A B : Option Addr) (c d : Nat) (A1 : Option Addr) (c1 : Nat) (A2 : Option Addr) (c2 : Nat) (B1 : Option Addr) (d1 : Nat) (B2 : Option Addr) (d2 : Nat) (w : World) (hr : RowLn w A 2 (twX A1 c1 A2 c2)) (hs : RowLn w B 2 (twX B1 d1 B2 d2)) : Calls Tryz.prog 10 #[.slice A 2 c, .slice B 2 d] w fun e w' => e = .returned (.bool true) ∧ Below w.heap.size w w' := by
 refine (rsameX_any A B 2 2 c d _ _ (by decide) (fun k hk => by
  have : k = 0 ∨ k = 1 := by omega
  rcases this with rfl | rfl <;> (show (1 : Nat) ≤ 140737488355328; decide)) w hr hs).mono ?_
 rintro e w' ⟨rfl, hb⟩
 refine ⟨?_, hb⟩
 rw [decide_eq_true]
 refine ⟨rfl, fun k hk => ?_⟩
 have : k = 0 ∨ k = 1 := by omega
 rcases this with rfl | rfl
 ·exact eqLn_eq.2 rfl
 ·exact eqLn_eq.2 rfl
theorem lv_mul (w : World) : Calls Tryz.prog 34 #[.int .i64 1500000000, .int .i64 43920] w fun e w' => e = .returned (.agg #[.int .i64 0, .int .u64 65880000000000]) ∧ Below w.heap.size w w' := by
 have h := rmul_any 1500000000 43920 (by decide) (by decide) (by decide) (by decide) w
 rw [show hiW (1500000000 * 43920) = 0 from by decide +kernel, show loW (1500000000 * 43920) = 65880000000000 from by decide +kernel] at h
 exact h
end Go.Proofs.YtdjlaiilngechaaGreatDoor
