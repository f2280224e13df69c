/- Texts laid together: Str NuM NuP. -/
import Derived.Test.YtdjhkhadjmndoaaDoorQNum
import Derived.WalkKit
import Derived.Lib.ItoaNum
import Derived.Lib.ItoaLen
import Derived.Lib.ItoaMem
import Derived.Lib.Strings
import Derived.Lib.Repeat
namespace Go.Proofs.YtdjhkhadjmndoaaDoor
set_option maxRecDepth 4000
set_option linter.unusedSimpArgs false
set_option linter.unusedVariables false
open Go.RowKit
theorem bcat (a b : List UInt8) : (⟨a.toArray⟩ : ByteArray) ++ (⟨b.toArray⟩ : ByteArray) = ⟨(a ++ b).toArray⟩ := by
  apply ByteArray.ext
  rw [ByteArray.data_append]
  simp
theorem bsize (a : List UInt8) : (⟨a.toArray⟩ : ByteArray).size = a.length := by simp [ByteArray.size]
theorem blist (s : ByteArray) : s = ⟨s.data.toList.toArray⟩ := by apply ByteArray.ext; simp
theorem dig_piece {i : Nat} (h : i < 10) : ((⟨#[48, 49, 50, 51, 52, 53, 54, 55, 56, 57]⟩ : ByteArray).extract i (i + 1)) = ⟨[UInt8.ofNat (48 + i)].toArray⟩ := by
  have : ∀ j : Fin 10, ((⟨#[48, 49, 50, 51, 52, 53, 54, 55, 56, 57]⟩ : ByteArray).extract j.val (j.val + 1)) = ⟨[UInt8.ofNat (48 + j.val)].toArray⟩ := by decide +kernel
  exact this ⟨i, h⟩
theorem dig_cons {i : Nat} (h : i < 10) (l : List UInt8) : ((⟨#[48, 49, 50, 51, 52, 53, 54, 55, 56, 57]⟩ : ByteArray).extract i (i + 1)) ++ (⟨l.toArray⟩ : ByteArray) = ⟨(UInt8.ofNat (48 + i) :: l).toArray⟩ := by
  rw [dig_piece h, bcat]; rfl
/-- A digit as a byte. -/
def dgt (n : Nat) : UInt8 := UInt8.ofNat (48 + n % 10)
/-- The last k digits of a number. -/
def dgs (n : Nat) : Nat → List UInt8
  | 0 => []
  | k + 1 => dgt (n / 10 ^ k) :: dgs n k
theorem dgs_len (n : Nat) : ∀ k, (dgs n k).length = k
  | 0 => rfl
  | k + 1 => by simp [dgs, dgs_len n k]
def d2 (n : Nat) : List UInt8 := [dgt (n / 10), dgt n]
def d4 (n : Nat) : List UInt8 := [dgt (n / 1000), dgt (n / 100), dgt (n / 10), dgt n]
theorem dec_step {u : Nat} (h : ¬ u < 10) : Lib.decDigits u = Lib.decDigits (u / 10) ++ [dgt u] := by rw [Lib.decDigits, dif_neg h]; rfl
theorem dec_one {u : Nat} (h : u < 10) : Lib.decDigits u = [dgt u] := by rw [Lib.decDigits_one h]; unfold dgt; rw [Nat.mod_eq_of_lt h]
theorem itoa_2 {n : Nat} (h1 : 10 ≤ n) (h2 : n < 100) : Lib.itoa n = d2 n := by
  rw [Lib.itoa_nonneg, dec_step (by omega), dec_one (by omega)]; rfl
theorem itoa_1 {n : Nat} (h : n < 10) : 48 :: Lib.itoa n = d2 n := by
  rw [Lib.itoa_nonneg, dec_one h]
  have e : n / 10 = 0 := by omega
  simp [d2, e]; rfl
/-- The byte is a digit. -/
def isD (c : UInt8) : Bool := decide (48 ≤ c.toNat ∧ c.toNat ≤ 57)
theorem isD_iff {c : UInt8} : isD c = true ↔ 48 ≤ c.toNat ∧ c.toNat ≤ 57 := by unfold isD; simp
def alld (l : List UInt8) : Bool := l.all isD
/-- The number that digits stand for. -/
def numL (l : List UInt8) : Nat := l.foldl (fun n c => 10 * n + (c.toNat - 48)) 0
theorem numL_snoc (l : List UInt8) (c : UInt8) : numL (l ++ [c]) = 10 * numL l + (c.toNat - 48) := by unfold numL; rw [List.foldl_append]; rfl
theorem alld_snoc (l : List UInt8) (c : UInt8) : alld (l ++ [c]) = (alld l && isD c) := by unfold alld; rw [List.all_append]; simp
theorem numL_lt : ∀ (k : Nat) (l : List UInt8), l.length = k → alld l = true → numL l < 10 ^ k
  | 0, l, h, _ => by
    have : l = [] := List.eq_nil_of_length_eq_zero h
    subst this; decide
  | k + 1, l, h, ha => by
    rcases List.eq_nil_or_concat l with rfl | ⟨m, c, rfl⟩
    · simp at h
    · rw [List.concat_eq_append] at *
      rw [alld_snoc, Bool.and_eq_true] at ha
      have ih := numL_lt k m (by simpa using h) ha.1
      have hc := isD_iff.1 ha.2
      rw [numL_snoc, Nat.pow_succ]
      omega
theorem dgt_nat (n : Nat) : (dgt n).toNat = 48 + n % 10 := by
  unfold dgt
  rw [UInt8.toNat_ofNat']
  omega
theorem dgt_isD (n : Nat) : isD (dgt n) = true := by rw [isD_iff, dgt_nat]; omega
end Go.Proofs.YtdjhkhadjmndoaaDoor
namespace Go.Proofs.YtdjhkhadjmndoaaDoor
set_option maxRecDepth 4000
set_option linter.unusedSimpArgs false
set_option linter.unusedVariables false
open Go.RowKit
theorem snocInd {α : Type} {p : List α → Prop} (h0 : p []) (hs : ∀ l a, p l → p (l ++ [a])) (l : List α) : p l := by
  have key : ∀ m : List α, p m.reverse := fun m => by
    induction m with
    | nil => exact h0
    | cons a m ih => rw [List.reverse_cons]; exact hs _ _ ih
  have := key l.reverse
  rwa [List.reverse_reverse] at this
/-- The byte is a digit or a capital letter. -/
def isP (c : UInt8) : Bool := isD c || decide (65 ≤ c.toNat ∧ c.toNat ≤ 90)
def allp (l : List UInt8) : Bool := l.all isP
/-- One step of the remainder by 97. -/
def stp (n : Nat) (c : UInt8) : Nat := if c.toNat ≤ 57 then (10 * n + (c.toNat - 48)) % 97 else (100 * n + (c.toNat - 65) + 10) % 97
def rem (l : List UInt8) : Nat := l.foldl stp 0
theorem rem_snoc (l : List UInt8) (c : UInt8) : rem (l ++ [c]) = stp (rem l) c := by unfold rem; rw [List.foldl_append]; rfl
theorem stp_lt (n : Nat) (c : UInt8) : stp n c < 97 := by unfold stp; split <;> exact Nat.mod_lt _ (by decide)
theorem rem_lt : ∀ l, rem l < 97 := fun l => by
  rcases List.eq_nil_or_concat l with rfl | ⟨m, c, rfl⟩
  · decide
  · rw [List.concat_eq_append, rem_snoc]; exact stp_lt _ _
theorem allp_snoc (l : List UInt8) (c : UInt8) : allp (l ++ [c]) = (allp l && isP c) := by unfold allp; rw [List.all_append]; simp
/-- What stands before the check digits. -/
def headT (n : Nat) : List UInt8 := [67, 66] ++ dgs n 8
def chkN (n : Nat) : Nat := 98 - rem (headT n ++ [48, 48])
/-- The number of an account. -/
def numT (n : Nat) : List UInt8 := headT n ++ d2 (chkN n)
def okId (id : Int) : Bool := decide (1000 ≤ id ∧ id ≤ 99999999)
/-- The number of any Id. -/
def numI (id : Int) : List UInt8 := if okId id = true then numT id.toNat else []
theorem headT_len (n : Nat) : (headT n).length = 10 := by simp [headT, dgs_len]
theorem numT_len (n : Nat) : (numT n).length = 12 := by simp [numT, headT_len, d2]
theorem alld_dgs (n : Nat) : ∀ k, alld (dgs n k) = true
  | 0 => rfl
  | k + 1 => by
    unfold dgs alld
    rw [List.all_cons, dgt_isD]
    exact alld_dgs n k
theorem allp_alld {l : List UInt8} (h : alld l = true) : allp l = true := by
  unfold allp
  unfold alld at h
  rw [List.all_eq_true] at h ⊢
  intro c hc
  unfold isP
  rw [h c hc]; rfl
theorem allp_head (n : Nat) : allp (headT n ++ [48, 48]) = true := by
  unfold headT allp
  rw [List.append_assoc, List.all_append, List.all_append]
  have := allp_alld (alld_dgs n 8)
  unfold allp at this
  rw [this]
  decide
theorem allp_h (n : Nat) : allp (headT n) = true := by
  have h := allp_head n
  unfold allp at h ⊢
  rw [List.all_append, Bool.and_eq_true] at h
  exact h.1
theorem numL_append (a b : List UInt8) : numL (a ++ b) = numL a * 10 ^ b.length + numL b := by
  induction b using snocInd with
  | h0 => simp [numL]
  | hs m d ih =>
    rw [← List.append_assoc, numL_snoc, numL_snoc, ih, List.length_append, List.length_singleton, Nat.pow_succ, show numL a * (10 ^ m.length * 10) = 10 * (numL a * 10 ^ m.length) by rw [Nat.mul_comm (10 ^ m.length) 10, Nat.mul_left_comm]]
    omega
theorem num_dgs (n : Nat) : ∀ k, numL (dgs n k) = n % 10 ^ k
  | 0 => by simp [dgs, numL, Nat.mod_one]
  | k + 1 => by
    have ih := num_dgs n k
    have e : dgs n (k + 1) = [dgt (n / 10 ^ k)] ++ dgs n k := rfl
    rw [e, numL_append, dgs_len, ih]
    have h1 : numL [dgt (n / 10 ^ k)] = n / 10 ^ k % 10 := by
      unfold numL; simp only [List.foldl_cons, List.foldl_nil, dgt_nat]; omega
    rw [h1, Nat.pow_succ, Nat.mod_mul, Nat.mul_comm (10 ^ k)]
    omega
/-- The eight digits that stand in a number. -/
theorem numT_mid (n : Nat) : ((numT n).drop 2).take 8 = dgs n 8 := by
  unfold numT headT
  have := dgs_len n 8
  simp [List.take_append, this]
end Go.Proofs.YtdjhkhadjmndoaaDoor
namespace Go.Proofs.YtdjhkhadjmndoaaDoor
set_option maxRecDepth 4000
set_option linter.unusedSimpArgs false
set_option linter.unusedVariables false
open Go.RowKit
theorem dgs_snoc (n : Nat) : ∀ k, dgs n (k + 1) = dgs (n / 10) k ++ [dgt n]
  | 0 => by simp [dgs]
  | k + 1 => by
    have ih := dgs_snoc n k
    show dgt (n / 10 ^ (k + 1)) :: dgs n (k + 1) = _
    rw [ih]
    show _ = dgt (n / 10 / 10 ^ k) :: dgs (n / 10) k ++ [dgt n]
    rw [Nat.div_div_eq_div_mul, Nat.pow_succ, Nat.mul_comm (10 ^ k) 10]
    rfl
theorem dgs_zero : ∀ k, dgs 0 k = List.replicate k 48
  | 0 => rfl
  | k + 1 => by
    show dgt (0 / 10 ^ k) :: dgs 0 k = _
    rw [dgs_zero k, Nat.zero_div]; rfl
theorem dgs_pad : ∀ (k n : Nat), 1 ≤ k → n < 10 ^ k → (Lib.decDigits n).length ≤ k ∧ dgs n k = List.replicate (k - (Lib.decDigits n).length) 48 ++ Lib.decDigits n
  | 0, _, h, _ => by omega
  | k + 1, n, _, h => by
    by_cases hn : n < 10
    · rw [dec_one hn, dgs_snoc, show n / 10 = 0 by omega, dgs_zero]
      exact ⟨by simp, by simp⟩
    · have hk : 1 ≤ k := by
        rcases Nat.eq_zero_or_pos k with rfl | h'
        · simp at h; omega
        · exact h'
      obtain ⟨h1, h2⟩ := dgs_pad k (n / 10) hk (by rw [Nat.pow_succ] at h; omega)
      rw [dec_step hn, dgs_snoc, h2]
      exact ⟨by simp; omega, by simp⟩
theorem itoa_pad {n : Nat} (h : n < 100000000) : (Lib.itoa n).length ≤ 8 ∧ List.replicate (8 - (Lib.itoa n).length) 48 ++ Lib.itoa n = dgs n 8 := by
  rw [Lib.itoa_nonneg]
  obtain ⟨h1, h2⟩ := dgs_pad 8 n (by decide) (by simpa using h)
  exact ⟨h1, h2.symm⟩
/-- The eight bytes behind the letters. -/
def midL (l : List UInt8) : List UInt8 := (l.drop 2).take 8
noncomputable def idOk (l : List UInt8) : Bool := decide (l.length = 12 ∧ alld (midL l) = true ∧ numI (numL (midL l)) = l)
noncomputable def idV (l : List UInt8) : Int := if idOk l = true then numL (midL l) else 0
noncomputable def idE (l : List UInt8) : Int := if idOk l = true then 0 else 2
theorem id_yes {l : List UInt8} (h : idOk l = true) : idV l = numL (midL l) ∧ idE l = 0 := by unfold idV idE; rw [if_pos h, if_pos h]; exact ⟨rfl, rfl⟩
theorem id_no {l : List UInt8} (h : ¬ (l.length = 12 ∧ alld (midL l) = true ∧ numI (numL (midL l)) = l)) : idV l = 0 ∧ idE l = 2 := by
  have : idOk l = false := by unfold idOk; exact decide_eq_false h
  unfold idV idE; rw [this]; exact ⟨rfl, rfl⟩
theorem id_iff {l : List UInt8} : idOk l = true ↔ l.length = 12 ∧ alld (midL l) = true ∧ numI (numL (midL l)) = l := by unfold idOk; simp
theorem numI_ok {id : Int} (h : okId id = true) : ∃ n : Nat, id = n ∧ 1000 ≤ n ∧ n < 100000000 ∧ numI id = numT n := by
  have h' := h
  unfold okId at h'
  simp only [decide_eq_true_eq] at h'
  refine ⟨id.toNat, by omega, by omega, by omega, ?_⟩
  unfold numI
  rw [if_pos h]
theorem numI_no {id : Int} (h : okId id = false) : numI id = [] := by unfold numI; rw [h]; rfl
theorem mid_numT (n : Nat) : midL (numT n) = dgs n 8 := numT_mid n
/-- A number leads to its Id. -/
theorem id_num {id : Int} (h : okId id = true) : idV (numI id) = id ∧ idE (numI id) = 0 := by
  obtain ⟨n, rfl, h1, h2, e⟩ := numI_ok h
  have e3 : numL (midL (numI n)) = n := by rw [e, mid_numT, num_dgs, Nat.mod_eq_of_lt (by simpa using h2)]
  have hk : idOk (numI n) = true := id_iff.2 ⟨by rw [e]; exact numT_len n, by rw [e, mid_numT]; exact alld_dgs n 8, by rw [e3]⟩
  rw [(id_yes hk).1, (id_yes hk).2, e3]
  exact ⟨rfl, rfl⟩
end Go.Proofs.YtdjhkhadjmndoaaDoor
