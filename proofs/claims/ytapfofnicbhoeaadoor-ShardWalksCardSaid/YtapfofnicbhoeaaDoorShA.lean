/- Contracts of package shard and its reference, 1: numbers of shards, digests. (Printed by gen/sha.py.) -/
import Derived.Test.YtapfofnicbhoeaaDoorReg
import Derived.Test.YtapfofnicbhoeaaDoorProg
import Derived.KernelRfl
import Derived.WalkSpells
import Derived.WalkLawsBesides
import Derived.Sort.WalkA
namespace Go.Proofs.YtapfofnicbhoeaaDoor
open Go.RowKit

/-- A number of shards. -/
def good8 (n : Int) : Bool := decide (1 ≤ n ∧ n ≤ 8)
theorem number_any (n : Int) (w : World) :
    Calls Tryd.prog 20 #[.int .i64 n] w fun e w' => e = .returned (.bool (good8 n)) ∧ w = w' := by
  by_cases h1 : 1 ≤ n
  · by_cases h2 : n ≤ 8
    · have HD := hide (show good8 n = true from decide_eq_true ⟨h1, h2⟩)
      go_enter Tryd.func20, Tryd.ntmps20
      go_wp2_with fail
      go_ret
      exact ⟨by rw [HD.out]; rfl, rfl⟩
    · have HD := hide (show good8 n = false from decide_eq_false (fun h => h2 h.2))
      go_enter Tryd.func20, Tryd.ntmps20
      go_wp2_with fail
      go_ret
      exact ⟨by rw [HD.out]; rfl, rfl⟩
  · have HD := hide (show good8 n = false from decide_eq_false (fun h => h1 h.1))
    go_enter Tryd.func20, Tryd.ntmps20
    go_wp2_with fail
    go_ret
    exact ⟨by rw [HD.out]; rfl, rfl⟩
theorem rgood_any (n : Int) (w : World) :
    Calls Tryd.prog 13 #[.int .i64 n] w fun e w' => e = .returned (.bool (good8 n)) ∧ w = w' := by
  by_cases h1 : 1 ≤ n
  · by_cases h2 : n ≤ 8
    · have HD := hide (show good8 n = true from decide_eq_true ⟨h1, h2⟩)
      go_enter Tryd.func13, Tryd.ntmps13
      go_wp2_with fail
      go_ret
      exact ⟨by rw [HD.out]; rfl, rfl⟩
    · have HD := hide (show good8 n = false from decide_eq_false (fun h => h2 h.2))
      go_enter Tryd.func13, Tryd.ntmps13
      go_wp2_with fail
      go_ret
      exact ⟨by rw [HD.out]; rfl, rfl⟩
  · have HD := hide (show good8 n = false from decide_eq_false (fun h => h1 h.1))
    go_enter Tryd.func13, Tryd.ntmps13
    go_wp2_with fail
    go_ret
    exact ⟨by rw [HD.out]; rfl, rfl⟩
/-- One step of the digest, in the walk's own words. -/
def hx (x : Int) (b : UInt8) : Int := IntKind.u64.wrap (bits BinOp.xor IntKind.u64 x (IntKind.u64.wrap (b.toNat : Int)) * 1099511628211)
def hext (h : Int) (l : List UInt8) : Int := l.foldl hx h
theorem hext_succ {h : Int} {s : ByteArray} {k : Nat} (hk : k < s.size) : hext h (s.data.toList.take (k + 1)) = hx (hext h (s.data.toList.take k)) s[k] := by
  have hk2 : k < s.data.toList.length := by simpa using hk
  rw [List.take_succ_eq_append_getElem hk2]
  unfold hext
  rw [List.foldl_append]
  simp; rfl
def ExtInv (h : Int) (s : ByteArray) (w : World) (v0 v8 : Value) (wr : World) : Prop :=
  ∃ k : Nat, k ≤ s.size ∧ v0 = .int .u64 (hext h (s.data.toList.take k)) ∧ v8 = .int .i64 k ∧ Below w.heap.size w wr
theorem dext_any (h : Int) (s : ByteArray) (hl : s.size ≤ 140737488355328) (w : World) :
    Calls Tryd.prog 25 #[.int .u64 h, .string s] w fun e w' => e = .returned (.int .u64 (hext h s.data.toList)) ∧ Below w.heap.size w w' := by
  go_enter Tryd.func25, Tryd.ntmps25
  go_wp2_with fail
  go_loopw [0, 8] (fun v0 v8 wr => ExtInv h s w v0 v8 wr) (fun _ v _ => s.size - (intOf v).toNat)
  case atStart => exact ⟨0, by omega, by simp [hext], rfl, by (repeat (first | (with_reducible exact Below.refl _ _) | (with_reducible assumption) | ((with_reducible refine Below.alloc ?_ ?_ _); (rotate_left); (first | omega | (simp <;> omega))) | ((with_reducible refine Below.setCell ?_ ?_ _); (rotate_left); (first | omega | (simp <;> omega))) | (with_reducible refine Below.drew ?_) | (with_reducible refine below_drewN ?_ _)))⟩
  case round =>
    obtain ⟨k, hk, rfl, rfl, hB⟩ := hrel
    by_cases hlt : k < s.size
    · have hm1 : (k : Int) < s.size := by omega
      go_wp2_with fail
      go_roundw
      case rel => exact ⟨k + 1, by omega, by rw [hext_succ hlt]; rfl, by go_num, hB⟩
      case measure => simp [intOf]; omega
    · have hm1 : ¬ (k : Int) < s.size := by omega
      have hkn : k = s.size := by omega
      have HE := hide (show hext h (s.data.toList.take k) = hext h s.data.toList from by rw [hkn, List.take_of_length_le (by simp)])
      clear hkn
      go_wp2_with fail
      go_ret
      exact ⟨by rw [← HE.out]; rfl, hB⟩
theorem rext_any (h : Int) (s : ByteArray) (hl : s.size ≤ 140737488355328) (w : World) :
    Calls Tryd.prog 27 #[.int .u64 h, .string s] w fun e w' => e = .returned (.int .u64 (hext h s.data.toList)) ∧ Below w.heap.size w w' := by
  go_enter Tryd.func27, Tryd.ntmps27
  go_wp2_with fail
  go_loopw [0, 5] (fun v0 v8 wr => ExtInv h s w v0 v8 wr) (fun _ v _ => s.size - (intOf v).toNat)
  case atStart => exact ⟨0, by omega, by simp [hext], rfl, by (repeat (first | (with_reducible exact Below.refl _ _) | (with_reducible assumption) | ((with_reducible refine Below.alloc ?_ ?_ _); (rotate_left); (first | omega | (simp <;> omega))) | ((with_reducible refine Below.setCell ?_ ?_ _); (rotate_left); (first | omega | (simp <;> omega))) | (with_reducible refine Below.drew ?_) | (with_reducible refine below_drewN ?_ _)))⟩
  case round =>
    obtain ⟨k, hk, rfl, rfl, hB⟩ := hrel
    by_cases hlt : k < s.size
    · have hm1 : (k : Int) < s.size := by omega
      go_wp2_with fail
      go_roundw
      case rel => exact ⟨k + 1, by omega, by rw [hext_succ hlt]; rfl, by go_num, hB⟩
      case measure => simp [intOf]; omega
    · have hm1 : ¬ (k : Int) < s.size := by omega
      have hkn : k = s.size := by omega
      have HE := hide (show hext h (s.data.toList.take k) = hext h s.data.toList from by rw [hkn, List.take_of_length_le (by simp)])
      clear hkn
      go_wp2_with fail
      go_ret
      exact ⟨by rw [← HE.out]; rfl, hB⟩
end Go.Proofs.YtapfofnicbhoeaaDoor
