/- Texts as lists of bytes: decimal digits. No program in sight. -/
import Derived.WalkKit
import Derived.Test.YtodfpfbcjiganaaDoorNum
import Derived.Lib.ItoaNum
import Derived.Lib.ItoaLen
import Derived.Lib.ItoaMem
import Derived.Lib.Strings
namespace Go.Proofs.YtodfpfbcjiganaaDoor
set_option linter.unusedSimpArgs false
set_option linter.unusedVariables false
open Go.RowKit

theorem bcat (a b : List UInt8) : (⟨a.toArray⟩ : ByteArray) ++ (⟨b.toArray⟩ : ByteArray) = ⟨(a ++ b).toArray⟩ := by
  apply ByteArray.ext
  rw [ByteArray.data_append]
  simp
theorem bsize (a : List UInt8) : (⟨a.toArray⟩ : ByteArray).size = a.length := by simp [ByteArray.size]
theorem blist (s : ByteArray) : s = ⟨s.data.toList.toArray⟩ := by apply ByteArray.ext; simp
theorem dig_piece {i : Nat} (h : i < 10) : ((⟨#[48, 49, 50, 51, 52, 53, 54, 55, 56, 57]⟩ : ByteArray).extract i (i + 1)) = ⟨[UInt8.ofNat (48 + i)].toArray⟩ := by
  have : ∀ j : Fin 10, ((⟨#[48, 49, 50, 51, 52, 53, 54, 55, 56, 57]⟩ : ByteArray).extract j.val (j.val + 1)) = ⟨[UInt8.ofNat (48 + j.val)].toArray⟩ := by decide +kernel
  exact this ⟨i, h⟩
theorem dig_cons {i : Nat} (h : i < 10) (l : List UInt8) : ((⟨#[48, 49, 50, 51, 52, 53, 54, 55, 56, 57]⟩ : ByteArray).extract i (i + 1)) ++ (⟨l.toArray⟩ : ByteArray) = ⟨(UInt8.ofNat (48 + i) :: l).toArray⟩ := by
  rw [dig_piece h, bcat]; rfl
/-- A digit as a byte. -/
def dgt (n : Nat) : UInt8 := UInt8.ofNat (48 + n % 10)
/-- The last k digits of a number. -/
def dgs (n : Nat) : Nat → List UInt8
  | 0 => []
  | k + 1 => dgt (n / 10 ^ k) :: dgs n k
theorem dgs_len (n : Nat) : ∀ k, (dgs n k).length = k
  | 0 => rfl
  | k + 1 => by simp [dgs, dgs_len n k]
def d2 (n : Nat) : List UInt8 := [dgt (n / 10), dgt n]
def d4 (n : Nat) : List UInt8 := [dgt (n / 1000), dgt (n / 100), dgt (n / 10), dgt n]
theorem dgs_2 (n : Nat) : dgs n 2 = d2 n := by simp [dgs, d2]
theorem dgs_4 (n : Nat) : dgs n 4 = d4 n := by simp [dgs, d4]
theorem dec_step {u : Nat} (h : ¬ u < 10) : Lib.decDigits u = Lib.decDigits (u / 10) ++ [dgt u] := by rw [Lib.decDigits, dif_neg h]; rfl
theorem dec_one {u : Nat} (h : u < 10) : Lib.decDigits u = [dgt u] := by rw [Lib.decDigits_one h]; unfold dgt; rw [Nat.mod_eq_of_lt h]
theorem itoa_2 {n : Nat} (h1 : 10 ≤ n) (h2 : n < 100) : Lib.itoa n = d2 n := by
  rw [Lib.itoa_nonneg, dec_step (by omega), dec_one (by omega)]; rfl
theorem itoa_1 {n : Nat} (h : n < 10) : 48 :: Lib.itoa n = d2 n := by
  rw [Lib.itoa_nonneg, dec_one h]
  have e : n / 10 = 0 := by omega
  simp [d2, e]; rfl
theorem itoa_4 {n : Nat} (h1 : 1000 ≤ n) (h2 : n < 10000) : Lib.itoa n = d4 n := by
  rw [Lib.itoa_nonneg, dec_step (by omega), dec_step (by omega), dec_step (by omega), dec_one (by omega)]
  simp [d4, Nat.div_div_eq_div_mul]
/-- The byte is a digit. -/
def isD (c : UInt8) : Bool := decide (48 ≤ c.toNat ∧ c.toNat ≤ 57)
theorem isD_iff {c : UInt8} : isD c = true ↔ 48 ≤ c.toNat ∧ c.toNat ≤ 57 := by unfold isD; simp
def alld (l : List UInt8) : Bool := l.all isD
/-- The number that digits stand for. -/
def numL (l : List UInt8) : Nat := l.foldl (fun n c => 10 * n + (c.toNat - 48)) 0
theorem numL_snoc (l : List UInt8) (c : UInt8) : numL (l ++ [c]) = 10 * numL l + (c.toNat - 48) := by unfold numL; rw [List.foldl_append]; rfl
theorem alld_snoc (l : List UInt8) (c : UInt8) : alld (l ++ [c]) = (alld l && isD c) := by unfold alld; rw [List.all_append]; simp
theorem numL_lt : ∀ (k : Nat) (l : List UInt8), l.length = k → alld l = true → numL l < 10 ^ k
  | 0, l, h, _ => by
    have : l = [] := List.eq_nil_of_length_eq_zero h
    subst this; decide
  | k + 1, l, h, ha => by
    rcases List.eq_nil_or_concat l with rfl | ⟨m, c, rfl⟩
    · simp at h
    · rw [List.concat_eq_append] at *
      rw [alld_snoc, Bool.and_eq_true] at ha
      have ih := numL_lt k m (by simpa using h) ha.1
      have hc := isD_iff.1 ha.2
      rw [numL_snoc, Nat.pow_succ]
      omega
theorem dgt_nat (n : Nat) : (dgt n).toNat = 48 + n % 10 := by
  unfold dgt
  rw [UInt8.toNat_ofNat']
  omega
theorem dgt_isD (n : Nat) : isD (dgt n) = true := by rw [isD_iff, dgt_nat]; omega
theorem dgt_of {c : UInt8} (h : isD c = true) : dgt (c.toNat - 48) = c := by
  have := isD_iff.1 h
  apply UInt8.toNat_inj.1
  rw [dgt_nat]
  omega
theorem dgt_congr {a b : Nat} (h : a % 10 = b % 10) : dgt a = dgt b := by unfold dgt; rw [h]
/-- Two digits and their number. -/
theorem num_d2 {n : Nat} (h : n < 100) : numL (d2 n) = n ∧ alld (d2 n) = true := by
  unfold d2 numL alld
  simp only [List.foldl_cons, List.foldl_nil, dgt_nat, List.all_cons, List.all_nil, dgt_isD, Bool.and_self, and_true]
  omega
theorem num_d4 {n : Nat} (h : n < 10000) : numL (d4 n) = n ∧ alld (d4 n) = true := by
  unfold d4 numL alld
  simp only [List.foldl_cons, List.foldl_nil, dgt_nat, List.all_cons, List.all_nil, dgt_isD, Bool.and_self, and_true]
  omega
theorem d2_num {a b : UInt8} (h : alld [a, b] = true) : d2 (numL [a, b]) = [a, b] := by
  simp [alld] at h
  obtain ⟨ha, hb⟩ := h
  have na := isD_iff.1 ha
  have nb := isD_iff.1 hb
  unfold d2 numL
  simp only [List.foldl_cons, List.foldl_nil]
  rw [show dgt ((10 * (10 * 0 + (a.toNat - 48)) + (b.toNat - 48)) / 10) = a by rw [← dgt_of ha]; exact dgt_congr (by rw [dgt_nat]; omega),
    show dgt (10 * (10 * 0 + (a.toNat - 48)) + (b.toNat - 48)) = b by rw [← dgt_of hb]; exact dgt_congr (by rw [dgt_nat]; omega)]
theorem d4_num {a b c d : UInt8} (h : alld [a, b, c, d] = true) : d4 (numL [a, b, c, d]) = [a, b, c, d] := by
  simp [alld] at h
  obtain ⟨ha, hb, hc, hd⟩ := h
  have na := isD_iff.1 ha
  have nb := isD_iff.1 hb
  have nc := isD_iff.1 hc
  have nd := isD_iff.1 hd
  have e : numL [a, b, c, d] = 1000 * (a.toNat - 48) + 100 * (b.toNat - 48) + 10 * (c.toNat - 48) + (d.toNat - 48) := by
    unfold numL; simp only [List.foldl_cons, List.foldl_nil]; omega
  unfold d4
  rw [e]
  rw [show dgt ((1000 * (a.toNat - 48) + 100 * (b.toNat - 48) + 10 * (c.toNat - 48) + (d.toNat - 48)) / 1000) = a by rw [← dgt_of ha]; exact dgt_congr (by rw [dgt_nat]; omega),
    show dgt ((1000 * (a.toNat - 48) + 100 * (b.toNat - 48) + 10 * (c.toNat - 48) + (d.toNat - 48)) / 100) = b by rw [← dgt_of hb]; exact dgt_congr (by rw [dgt_nat]; omega),
    show dgt ((1000 * (a.toNat - 48) + 100 * (b.toNat - 48) + 10 * (c.toNat - 48) + (d.toNat - 48)) / 10) = c by rw [← dgt_of hc]; exact dgt_congr (by rw [dgt_nat]; omega),
    show dgt (1000 * (a.toNat - 48) + 100 * (b.toNat - 48) + 10 * (c.toNat - 48) + (d.toNat - 48)) = d by rw [← dgt_of hd]; exact dgt_congr (by rw [dgt_nat]; omega)]
end Go.Proofs.YtodfpfbcjiganaaDoor
