/- Shards as numbers: the lists of accounts by shard. No program in sight. -/
import Derived.Test.YtapfofnicbhoeaaDoorRowM
import Derived.Test.YtapfofnicbhoeaaDoorShC
namespace Go.Proofs.YtapfofnicbhoeaaDoor
open Go.RowKit

theorem hx_bd (x : Int) (b : UInt8) : 0 ≤ hx x b ∧ hx x b < 18446744073709551616 := by
  unfold hx; rw [wrapU]; omega
theorem hext_bd (l : List UInt8) : ∀ h : Int, 0 ≤ h → h < 18446744073709551616 → 0 ≤ hext h l ∧ hext h l < 18446744073709551616 := by
  unfold hext
  induction l with
  | nil => intro h h0 h1; exact ⟨h0, h1⟩
  | cons b l ih => intro h _ _; rw [List.foldl_cons]; exact ih _ (hx_bd h b).1 (hx_bd h b).2
theorem good8_iff {n : Int} : good8 n = true ↔ 1 ≤ n ∧ n ≤ 8 := by unfold good8; simp
theorem shOf_bd (id : Int) {n : Int} (h : good8 n = true) : 0 ≤ shOf id n ∧ shOf id n < n := by
  obtain ⟨h1, h2⟩ := good8_iff.1 h
  obtain ⟨b1, b2⟩ := hext_bd (Lib.itoa id) 14695981039346656037 (by decide) (by decide)
  unfold shOf; rw [if_pos h]
  generalize hext 14695981039346656037 (Lib.itoa id) = x at b1 b2
  have e : x.tmod n = x % n := Int.tmod_eq_emod_of_nonneg b1
  rw [e]
  have m1 := Int.emod_nonneg x (show n ≠ 0 by omega)
  have m2 := Int.emod_lt_of_pos x (show 0 < n by omega)
  unfold wrap64
  omega
theorem shOf_bad (id : Int) {n : Int} (h : good8 n = false) : shOf id n = 0 := by unfold shOf; rw [h]; rfl
/-- The accounts of shard j among the first k. -/
def bk (f : Nat → Int) (N : Int) (k j : Nat) : List Int := ((List.range k).map f).filter (fun x => shOf x N == (j : Int))
theorem bk_zero (f : Nat → Int) (N : Int) (j : Nat) : bk f N 0 j = [] := rfl
theorem bk_succ (f : Nat → Int) (N : Int) (k j : Nat) : bk f N (k + 1) j = if shOf (f k) N = (j : Int) then bk f N k j ++ [f k] else bk f N k j := by
  unfold bk
  rw [List.range_succ, List.map_append, List.filter_append]
  by_cases h : shOf (f k) N = (j : Int) <;> simp [h]
theorem bk_len (f : Nat → Int) (N : Int) (k j : Nat) : (bk f N k j).length ≤ k := by
  unfold bk; exact Nat.le_trans (List.length_filter_le _ _) (by simp)
/-- The number of shards, or 0. -/
def shs (N : Int) : Nat := if good8 N then N.toNat else 0
/-- What Split leaves: a slice for each shard, with its accounts. -/
def SpRet (n : Nat) (f : Nat → Int) (N : Int) (w : World) (e : Ending) (w' : World) : Prop :=
  ∃ A c, e = .returned (.slice A (shs N) c) ∧ RowRow w' A (shs N) (bk f N n) ∧ Below w.heap.size w w'
/-- The rounds of Split: after k accounts. -/
def SpInv (g : Nat) (ts e : TypeId) (N n : Nat) (f : Nat → Int) (w : World) (v : Value) (wr : World) : Prop :=
  ∃ k : Nat, k ≤ n ∧ v = .int .i64 k ∧ Buckets wr g ts e N (bk f N k) ∧ Below w.heap.size w wr
end Go.Proofs.YtapfofnicbhoeaaDoor
