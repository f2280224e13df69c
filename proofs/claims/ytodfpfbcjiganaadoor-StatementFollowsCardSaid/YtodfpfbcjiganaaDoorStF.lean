/- What Make answers, in plain words; statement.Make. -/
import Derived.Test.YtodfpfbcjiganaaDoorStE
import Derived.Test.YtodfpfbcjiganaaDoorDaA
import Derived.Laws.Rows
namespace Go.Proofs.YtodfpfbcjiganaaDoor
set_option linter.unusedSimpArgs false
set_option linter.unusedVariables false
open Go.RowKit

/-- The lines of a statement, of the first k entries. -/
def lnL (E : Nat → LEnt) (id f t : Int) : Nat → List LPos
  | 0 => []
  | k + 1 => lnL E id f t k ++ (if f ≤ (E k).bk ∧ (E k).bk ≤ t ∧ tchE (E k) id = true then [⟨(E k).id, (E k).bk, mvE (E k) id, (E k).tx⟩] else [])
theorem lnL_len (E : Nat → LEnt) (id f t : Int) : ∀ k, (lnL E id f t k).length ≤ k
  | 0 => Nat.le_refl _
  | k + 1 => by
    have := lnL_len E id f t k
    unfold lnL
    rw [List.length_append]
    split <;> simp <;> omega
theorem lnL_yes {E : Nat → LEnt} {id f t : Int} {k : Nat} (h1 : f ≤ (E k).bk) (h2 : (E k).bk ≤ t) (h3 : tchE (E k) id = true) : lnL E id f t (k + 1) = lnL E id f t k ++ [⟨(E k).id, (E k).bk, mvE (E k) id, (E k).tx⟩] := by
  show lnL E id f t k ++ _ = _; rw [if_pos ⟨h1, h2, h3⟩]
theorem lnL_no {E : Nat → LEnt} {id f t : Int} {k : Nat} (h : ¬ (f ≤ (E k).bk ∧ (E k).bk ≤ t ∧ tchE (E k) id = true)) : lnL E id f t (k + 1) = lnL E id f t k := by
  show lnL E id f t k ++ _ = _; rw [if_neg h]; simp
def opB (f : Int) (e : LEnt) : Bool := decide (e.bk < f)
def clB (t : Int) (e : LEnt) : Bool := decide (e.bk ≤ t)
def opS (E : Nat → LEnt) (id f : Int) (n : Nat) : Int := sumE E id (opB f) n
def clS (E : Nat → LEnt) (id t : Int) (n : Nat) : Int := sumE E id (clB t) n
theorem opS_yes {E : Nat → LEnt} {id f : Int} {k : Nat} (h : (E k).bk < f) : opS E id f (k + 1) = wrap64 (opS E id f k + mvE (E k) id) := if_pos (by simpa [opB] using h)
theorem opS_no {E : Nat → LEnt} {id f : Int} {k : Nat} (h : ¬ (E k).bk < f) : opS E id f (k + 1) = opS E id f k := if_neg (by simpa [opB] using h)
theorem clS_yes {E : Nat → LEnt} {id t : Int} {k : Nat} (h : (E k).bk ≤ t) : clS E id t (k + 1) = wrap64 (clS E id t k + mvE (E k) id) := if_pos (by simpa [clB] using h)
theorem clS_no {E : Nat → LEnt} {id t : Int} {k : Nat} (h : ¬ (E k).bk ≤ t) : clS E id t (k + 1) = clS E id t k := if_neg (by simpa [clB] using h)
/-- The error of Make. -/
def mkE (has : Bool) (no f t : Int) : Int := if has = false then 11 else if no < 1 then 1 else if vday f = false then 1 else if vday t = false then 1 else if f > t then 1 else 0
/-- A statement. -/
structure LStm where
  ac : Int
  no : Int
  f : Int
  t : Int
  op : Int
  cl : Int
  ls : List LPos
def zStm : LStm := ⟨0, 0, 0, 0, 0, 0, []⟩
def mkS (E : Nat → LEnt) (n : Nat) (has : Bool) (id no f t : Int) : LStm := if mkE has no f t = 0 then ⟨id, no, f, t, opS E id f n, clS E id t n, lnL E id f t n⟩ else zStm
theorem mkS_no {E : Nat → LEnt} {n : Nat} {has : Bool} {id no f t : Int} (h : mkE has no f t ≠ 0) : mkS E n has id no f t = zStm := if_neg h
theorem mkS_yes {E : Nat → LEnt} {n : Nat} {has : Bool} {id no f t : Int} (h : mkE has no f t = 0) : mkS E n has id no f t = ⟨id, no, f, t, opS E id f n, clS E id t n, lnL E id f t n⟩ := if_pos h
/-- A statement, with its lines in some row of cells. -/
def StRet (s : LStm) (err : Int) (w : World) (e : Ending) (w' : World) : Prop := ∃ A c, e = .returned (.tuple #[.agg #[.int .i64 s.ac, .int .i64 s.no, .int .i64 s.f, .int .i64 s.t, .int .i64 s.op, .int .i64 s.cl, .slice A s.ls.length c], .int .i64 err]) ∧ RowPos w' A s.ls.length (atP s.ls) ∧ Below w.heap.size w w'
theorem stRet_no {w w' : World} (err : Int) (hB : Below w.heap.size w w') : StRet zStm err w (.returned (.tuple #[.agg #[.int .i64 0, .int .i64 0, .int .i64 0, .int .i64 0, .int .i64 0, .int .i64 0, .slice none 0 0], .int .i64 err])) w' :=
  ⟨none, 0, rfl, fun h => by simp [zStm] at h, hB⟩
end Go.Proofs.YtodfpfbcjiganaaDoor
