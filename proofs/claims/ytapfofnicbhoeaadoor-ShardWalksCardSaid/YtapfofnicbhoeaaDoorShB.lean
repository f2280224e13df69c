/- Contracts of package shard and its reference, 2: decimal texts, shards of accounts. -/
import Derived.Test.YtapfofnicbhoeaaDoorShA
import Derived.Test.YtapfofnicbhoeaaDoorShelf
import Derived.Lib.ItoaLen
import Derived.Lib.ItoaMem
import Derived.Test.YtapfofnicbhoeaaDoorBits
namespace Go.Proofs.YtapfofnicbhoeaaDoor
open Go.RowKit

def emptyOf : Value → Nat | .string s => if s.size = 0 then 1 else 0 | _ => 0
def NatInv (N : Nat) (w : World) (v0 v3 : Value) (wr : World) : Prop :=
  ∃ (m : Nat) (l : List UInt8), v0 = .int .u64 m ∧ v3 = .string ⟨l.toArray⟩ ∧ m ≤ N ∧ ((l = [] ∧ m = N) ∨ (l ≠ [] ∧ (if m = 0 then l else Lib.decDigits m ++ l) = Lib.decDigits N)) ∧ Below w.heap.size w wr
theorem dig_piece {i : Nat} (h : i < 10) : ((⟨#[48, 49, 50, 51, 52, 53, 54, 55, 56, 57]⟩ : ByteArray).extract i (i + 1)) = ⟨[UInt8.ofNat (48 + i)].toArray⟩ := by
  have : ∀ j : Fin 10, ((⟨#[48, 49, 50, 51, 52, 53, 54, 55, 56, 57]⟩ : ByteArray).extract j.val (j.val + 1)) = ⟨[UInt8.ofNat (48 + j.val)].toArray⟩ := by decide +kernel
  exact this ⟨i, h⟩
theorem dig_cons {i : Nat} (h : i < 10) (l : List UInt8) : ((⟨#[48, 49, 50, 51, 52, 53, 54, 55, 56, 57]⟩ : ByteArray).extract i (i + 1)) ++ (⟨l.toArray⟩ : ByteArray) = ⟨(UInt8.ofNat (48 + i) :: l).toArray⟩ := by
  rw [dig_piece h]
  apply ByteArray.ext
  rw [ByteArray.data_append]
  simp
/-- One round of the reference's loop. -/
theorem nat_step {N m : Nat} {l : List UInt8} (hl : (l = [] ∧ m = N) ∨ (l ≠ [] ∧ 0 < m ∧ (if m = 0 then l else Lib.decDigits m ++ l) = Lib.decDigits N)) :
    (if m / 10 = 0 then UInt8.ofNat (48 + m % 10) :: l else Lib.decDigits (m / 10) ++ (UInt8.ofNat (48 + m % 10) :: l)) = Lib.decDigits N := by
  have key : (if m / 10 = 0 then UInt8.ofNat (48 + m % 10) :: l else Lib.decDigits (m / 10) ++ (UInt8.ofNat (48 + m % 10) :: l)) = Lib.decDigits m ++ l := by
    by_cases h : m < 10
    · rw [if_pos (by omega), Lib.decDigits, dif_pos h, Nat.mod_eq_of_lt h]; rfl
    · rw [if_neg (by omega)]
      conv => rhs; rw [Lib.decDigits, dif_neg h]
      simp
  rw [key]
  rcases hl with ⟨rfl, rfl⟩ | ⟨_, hm, he⟩
  · simp
  · rwa [if_neg (by omega)] at he
theorem nat_len {N m : Nat} {l : List UInt8} (hN : N < 18446744073709551616) (hl : (l = [] ∧ m = N) ∨ (l ≠ [] ∧ (if m = 0 then l else Lib.decDigits m ++ l) = Lib.decDigits N)) : l.length ≤ 20 := by
  have h20 := Lib.nDigits_le20 N (by omega)
  rw [← Lib.decDigits_length] at h20
  rcases hl with ⟨rfl, _⟩ | ⟨_, he⟩
  · simp
  · rw [← he] at h20
    split at h20
    · exact h20
    · rw [List.length_append] at h20; omega
theorem emptyOf_cons (x : UInt8) (l : List UInt8) : emptyOf (.string ⟨(x :: l).toArray⟩) = 0 := by
  unfold emptyOf
  simp [ByteArray.size]
theorem natural_any (N : Nat) (hN : N < 18446744073709551616) (w : World) :
    Calls Tryd.prog 28 #[.int .u64 N] w fun e w' => e = .returned (.string ⟨(Lib.decDigits N).toArray⟩) ∧ Below w.heap.size w w' := by
  go_enter Tryd.func28, Tryd.ntmps28
  go_wp2_with fail
  go_loopw [0, 3] (fun v0 v3 wr => NatInv N w v0 v3 wr) (fun v0 v3 _ => (intOf v0).toNat + emptyOf v3)
  case atStart => exact ⟨N, [], rfl, rfl, Nat.le_refl _, .inl ⟨rfl, rfl⟩, by (repeat (first | (with_reducible exact Below.refl _ _) | (with_reducible assumption) | ((with_reducible refine Below.alloc ?_ ?_ _); (rotate_left); (first | omega | (simp <;> omega))) | ((with_reducible refine Below.setCell ?_ ?_ _); (rotate_left); (first | omega | (simp <;> omega))) | (with_reducible refine Below.drew ?_) | (with_reducible refine below_drewN ?_ _)))⟩
  case round =>
    obtain ⟨m, l, rfl, rfl, hm, hl, hB⟩ := hrel
    have hlen := nat_len hN hl
    have hm10 : m % 10 < 10 := Nat.mod_lt _ (by decide)
    have HD := hide (dig_cons hm10 l)
    have HL := hide hl
    clear hl
    by_cases hl0 : l = []
    · subst hl0
      obtain rfl : m = N := by
        rcases HL.out with ⟨_, h⟩ | ⟨h, _⟩
        · exact h
        · exact absurd rfl h
      have HS := hide (nat_step (N := m) (m := m) (l := []) (.inl ⟨rfl, rfl⟩))
      go_wp2_with fail
      all_goals first
        | (exfalso; omega)
        | (go_roundw
           case rel => exact ⟨m / 10, [UInt8.ofNat (48 + m % 10)], by simp, by rw [HD.out], by omega, .inr ⟨by simp, HS.out⟩, hB⟩
           case measure => rw [HD.out, emptyOf_cons]; show ((m : Int) / 10).toNat + 0 < (m : Int).toNat + 1; omega)
    · have hie : l.isEmpty = false := by simpa using hl0
      by_cases hm0 : 0 < m
      · have HS := hide (nat_step (l := l) (by
          rcases HL.out with h | ⟨h1, h2⟩
          · exact .inl h
          · exact .inr ⟨h1, hm0, h2⟩))
        go_wp2_with fail
        all_goals first
          | (exfalso; omega)
          | (go_roundw
             case rel => exact ⟨m / 10, UInt8.ofNat (48 + m % 10) :: l, by simp, by rw [HD.out], by omega, .inr ⟨by simp, HS.out⟩, hB⟩
             case measure => rw [HD.out, emptyOf_cons]; show ((m : Int) / 10).toNat + 0 < (m : Int).toNat + _; omega)
      · have HE : Hid (l = Lib.decDigits N) := by
          rcases HL.out with ⟨h, _⟩ | ⟨_, h⟩
          · exact absurd h hl0
          · rwa [if_pos (by omega)] at h
        obtain rfl : m = 0 := by omega
        go_wp2_with fail
        go_ret
        exact ⟨by rw [← HE.out]; rfl, hB⟩
theorem minus_cons (l : List UInt8) : (⟨#[45]⟩ : ByteArray) ++ (⟨l.toArray⟩ : ByteArray) = ⟨(45 :: l).toArray⟩ := by
  apply ByteArray.ext
  rw [ByteArray.data_append]
  simp
theorem rint_any (n : Int) (h1 : -9223372036854775808 ≤ n) (h2 : n ≤ 9223372036854775807) (w : World) :
    Calls Tryd.prog 24 #[.int .i64 n] w fun e w' => e = .returned (.string ⟨(Lib.itoa n).toArray⟩) ∧ Below w.heap.size w w' := by
  by_cases h : 0 ≤ n
  · obtain ⟨N, rfl⟩ : ∃ N : Nat, n = N := ⟨n.toNat, by omega⟩
    have HI := hide (Lib.itoa_nonneg N)
    go_enter Tryd.func24, Tryd.ntmps24
    go_wp2_with fail
    refine (natural_any N (by omega) _).mono ?_
    rintro e w1 ⟨rfl, hb⟩
    go_wp2_with fail
    go_ret
    exact ⟨by rw [HI.out]; rfl, hb⟩
  · obtain ⟨N, rfl⟩ : ∃ N : Nat, n = -(N : Int) := ⟨n.natAbs, by omega⟩
    have HI := hide (Lib.itoa_neg N (by omega))
    have HV := hide (show IntKind.u64.wrap (bits BinOp.xor IntKind.u64 IntKind.u64.max (IntKind.u64.wrap (-(N : Int))) + 1) = N from by
      rw [wrapU (-(N : Int)), xor_maxU _ (by omega) (by omega), wrapU]; unfold notU; omega)
    have HM := hide (minus_cons (Lib.decDigits N))
    have h20 := Lib.nDigits_le20 N (by omega)
    rw [← Lib.decDigits_length] at h20
    go_enter Tryd.func24, Tryd.ntmps24
    go_wp2_with fail
    rw [HV.out]
    refine (natural_any N (by omega) _).mono ?_
    rintro e w1 ⟨rfl, hb⟩
    go_wp2_with fail
    all_goals first
      | (exfalso; omega)
      | (go_ret; exact ⟨by rw [HI.out, ← HM.out]; rfl, hb⟩)
end Go.Proofs.YtapfofnicbhoeaaDoor
