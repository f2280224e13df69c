/- Texts of amounts: money.Format and the reference's. -/
import Derived.Test.YtodfpfbcjiganaaDoorMnM
import Derived.Test.YtodfpfbcjiganaaDoorDfE
import Derived.Test.YtodfpfbcjiganaaDoorRec
namespace Go.Proofs.YtodfpfbcjiganaaDoor
set_option linter.unusedSimpArgs false
set_option linter.unusedVariables false
open Go.RowKit

theorem bext (l : List UInt8) (i j : Nat) : (⟨l.toArray⟩ : ByteArray).extract i j = ⟨((l.drop i).take (j - i)).toArray⟩ := by
  apply ByteArray.ext
  simp
theorem fin_point (sg l m : List UInt8) (q D k : Nat) (hq : l.length = q) (hm : m.length = D) (hk : k = q + D) (x : List UInt8) (hx : x = l ++ m) :
    (((⟨sg.toArray⟩ : ByteArray) ++ (⟨x.toArray⟩ : ByteArray).extract 0 q) ++ (⟨#[46]⟩ : ByteArray)) ++ (⟨x.toArray⟩ : ByteArray).extract q k = ⟨(sg ++ (l ++ 46 :: m)).toArray⟩ := by
  subst hx hk hq hm
  have e : (⟨#[46]⟩ : ByteArray) = ⟨[46].toArray⟩ := rfl
  rw [bext, bext, e, bcat, bcat, bcat]
  simp
theorem fin_frac (sg l x m : List UInt8) (n : Nat) (hx : x.drop 1 = m) (hn : n = x.length) :
    (((⟨sg.toArray⟩ : ByteArray) ++ (⟨l.toArray⟩ : ByteArray)) ++ (⟨#[46]⟩ : ByteArray)) ++ (⟨x.toArray⟩ : ByteArray).extract 1 n = ⟨(sg ++ (l ++ 46 :: m)).toArray⟩ := by
  subst hx hn
  have e : (⟨#[46]⟩ : ByteArray) = ⟨[46].toArray⟩ := rfl
  rw [bext, e, bcat, bcat, bcat]
  have : (List.drop 1 x).take (x.length - 1) = List.drop 1 x := List.take_of_length_le (by simp)
  rw [this]; simp
theorem quo_id {a p u : Nat} (h : u = a / p) (ha : a ≤ 1000000000000) : IntKind.i64.wrap ((a : Int) / p) = u := by
  have : u ≤ a := by rw [h]; exact Nat.div_le_self _ _
  rw [← Int.natCast_ediv, ← h, i64w]; unfold wrap64; omega
theorem tmod_id {a p v : Nat} (h : v = a % p) : (a : Int).tmod p = v := by rw [h]; exact (Int.ofNat_tmod a p).symm
def vmB (n : Int) : Bool := decide (-1000000000000 ≤ n ∧ n ≤ 1000000000000)
def plB (d : Int) : Bool := decide (0 ≤ d ∧ d ≤ 4)
theorem mnB_eq (n d : Int) : mnB n d = (vmB n && plB d) := by unfold mnB vmB plB; rw [← Bool.decide_and]; exact decide_eq_decide.2 ⟨fun ⟨a, b, c, d⟩ => ⟨⟨a, b⟩, c, d⟩, fun ⟨⟨a, b⟩, c, d⟩ => ⟨a, b, c, d⟩⟩
theorem vmB_iff {n : Int} : vmB n = true ↔ -1000000000000 ≤ n ∧ n ≤ 1000000000000 := by unfold vmB; simp
theorem plB_iff {d : Int} : plB d = true ↔ 0 ≤ d ∧ d ≤ 4 := by unfold plB; simp
theorem mvalid_any (n : Int) (w : World) :
    Calls Tryd.prog 45 #[.int .i64 n] w fun e w' => e = .returned (.bool (vmB n)) ∧ w = w' := by
  by_cases h1 : -1000000000000 ≤ n
  · by_cases h2 : n ≤ 1000000000000
    · have HD := hide (show vmB n = true from by unfold vmB; simp [h1, h2])
      go_enter Tryd.func45, Tryd.ntmps45
      go_wp2_with fail
      go_ret
      exact ⟨by rw [HD.out]; rfl, rfl⟩
    · have HD := hide (show vmB n = false from by unfold vmB; simp; omega)
      go_enter Tryd.func45, Tryd.ntmps45
      go_wp2_with fail
      go_ret
      exact ⟨by rw [HD.out]; rfl, rfl⟩
  · have HD := hide (show vmB n = false from by unfold vmB; simp; omega)
    go_enter Tryd.func45, Tryd.ntmps45
    go_wp2_with fail
    go_ret
    exact ⟨by rw [HD.out]; rfl, rfl⟩
theorem mplaces_any (n : Int) (w : World) :
    Calls Tryd.prog 46 #[.int .i64 n] w fun e w' => e = .returned (.bool (plB n)) ∧ w = w' := by
  by_cases h1 : 0 ≤ n
  · by_cases h2 : n ≤ 4
    · have HD := hide (show plB n = true from by unfold plB; simp [h1, h2])
      go_enter Tryd.func46, Tryd.ntmps46
      go_wp2_with fail
      go_ret
      exact ⟨by rw [HD.out]; rfl, rfl⟩
    · have HD := hide (show plB n = false from by unfold plB; simp; omega)
      go_enter Tryd.func46, Tryd.ntmps46
      go_wp2_with fail
      go_ret
      exact ⟨by rw [HD.out]; rfl, rfl⟩
  · have HD := hide (show plB n = false from by unfold plB; simp; omega)
    go_enter Tryd.func46, Tryd.ntmps46
    go_wp2_with fail
    go_ret
    exact ⟨by rw [HD.out]; rfl, rfl⟩
theorem rmvalid_any (n : Int) (w : World) :
    Calls Tryd.prog 50 #[.int .i64 n] w fun e w' => e = .returned (.bool (vmB n)) ∧ w = w' := by
  by_cases h1 : -1000000000000 ≤ n
  · by_cases h2 : n ≤ 1000000000000
    · have HD := hide (show vmB n = true from by unfold vmB; simp [h1, h2])
      go_enter Tryd.func50, Tryd.ntmps50
      go_wp2_with fail
      go_ret
      exact ⟨by rw [HD.out]; rfl, rfl⟩
    · have HD := hide (show vmB n = false from by unfold vmB; simp; omega)
      go_enter Tryd.func50, Tryd.ntmps50
      go_wp2_with fail
      go_ret
      exact ⟨by rw [HD.out]; rfl, rfl⟩
  · have HD := hide (show vmB n = false from by unfold vmB; simp; omega)
    go_enter Tryd.func50, Tryd.ntmps50
    go_wp2_with fail
    go_ret
    exact ⟨by rw [HD.out]; rfl, rfl⟩
def DcI (n : Nat) (w : World) (v0 v3 : Value) (wr : World) : Prop := ∃ (q : Nat) (l : List UInt8), q ≤ n ∧ v0 = .int .i64 q ∧ v3 = .string ⟨l.toArray⟩ ∧ Lib.decDigits n = Lib.decDigits q ++ l ∧ w = wr
set_option maxHeartbeats 1000000 in
theorem rdigits_any (n : Nat) (h : n < 9223372036854775808) (w : World) :
    Calls Tryd.prog 52 #[.int .i64 n] w fun e w' => e = .returned (.string ⟨(Lib.decDigits n).toArray⟩) ∧ w = w' := by
  go_enter Tryd.func52, Tryd.ntmps52
  go_wp2_with fail
  go_loopw [0, 3] (fun v0 v3 wr => DcI n w v0 v3 wr) (fun v0 _ _ => (intOf v0).toNat)
  case atStart => exact ⟨n, [], Nat.le_refl _, rfl, rfl, by simp, rfl⟩
  case round =>
    obtain ⟨q, l, hqn, rfl, rfl, hd, rfl⟩ := hrel
    have hl : l.length ≤ 20 := by have h1 := congrArg List.length hd; rw [List.length_append, Lib.decDigits_length, Lib.decDigits_length] at h1; have := Lib.nDigits_le20 n (by omega); omega
    have HD := hide hd
    clear hd
    by_cases hq : q < 10
    · have hq1 : ¬ (9 : Int) < q := by omega
      have hq2 : (q : Int) < 10 := by omega
      have HC := hide (show ((⟨#[48, 49, 50, 51, 52, 53, 54, 55, 56, 57]⟩ : ByteArray).extract q (q + 1)) ++ (⟨l.toArray⟩ : ByteArray) = ⟨(Lib.decDigits n).toArray⟩ by rw [dig_cons hq, HD.out, dec_one hq]; unfold dgt; rw [Nat.mod_eq_of_lt hq]; rfl)
      go_wp2_with fail
      all_goals first
        | (exfalso; omega)
        | (go_ret
           exact ⟨by rw [← HC.out]; rfl, rfl⟩)
    · have hq1 : (9 : Int) < q := by omega
      have hq10 : q % 10 < 10 := Nat.mod_lt _ (by decide)
      have HC := hide (dig_cons hq10 l)
      have HN := hide (show Lib.decDigits n = Lib.decDigits (q / 10) ++ (UInt8.ofNat (48 + q % 10) :: l) by rw [HD.out, dec_step hq, List.append_assoc]; rfl)
      clear hq
      go_wp2_with fail
      all_goals first
        | (exfalso; omega)
        | (go_roundw
           case rel => exact ⟨q / 10, UInt8.ofNat (48 + q % 10) :: l, by omega, by go_num, by rw [HC.out], HN.out, rfl⟩
           case measure => simp [intOf]; omega)
set_option maxHeartbeats 1000000 in
theorem rDigits_any (n : Nat) (h : n < 9223372036854775808) (w : World) :
    Calls Tryd.prog 39 #[.int .i64 n] w fun e w' => e = .returned (.string ⟨(Lib.decDigits n).toArray⟩) ∧ w = w' := by
  go_enter Tryd.func39, Tryd.ntmps39
  go_wp2_with fail
  go_loopw [0, 3] (fun v0 v3 wr => DcI n w v0 v3 wr) (fun v0 _ _ => (intOf v0).toNat)
  case atStart => exact ⟨n, [], Nat.le_refl _, rfl, rfl, by simp, rfl⟩
  case round =>
    obtain ⟨q, l, hqn, rfl, rfl, hd, rfl⟩ := hrel
    have hl : l.length ≤ 20 := by have h1 := congrArg List.length hd; rw [List.length_append, Lib.decDigits_length, Lib.decDigits_length] at h1; have := Lib.nDigits_le20 n (by omega); omega
    have HD := hide hd
    clear hd
    by_cases hq : q < 10
    · have hq1 : ¬ (9 : Int) < q := by omega
      have hq2 : (q : Int) < 10 := by omega
      have HC := hide (show ((⟨#[48, 49, 50, 51, 52, 53, 54, 55, 56, 57]⟩ : ByteArray).extract q (q + 1)) ++ (⟨l.toArray⟩ : ByteArray) = ⟨(Lib.decDigits n).toArray⟩ by rw [dig_cons hq, HD.out, dec_one hq]; unfold dgt; rw [Nat.mod_eq_of_lt hq]; rfl)
      go_wp2_with fail
      all_goals first
        | (exfalso; omega)
        | (go_ret
           exact ⟨by rw [← HC.out]; rfl, rfl⟩)
    · have hq1 : (9 : Int) < q := by omega
      have hq10 : q % 10 < 10 := Nat.mod_lt _ (by decide)
      have HC := hide (dig_cons hq10 l)
      have HN := hide (show Lib.decDigits n = Lib.decDigits (q / 10) ++ (UInt8.ofNat (48 + q % 10) :: l) by rw [HD.out, dec_step hq, List.append_assoc]; rfl)
      clear hq
      go_wp2_with fail
      all_goals first
        | (exfalso; omega)
        | (go_roundw
           case rel => exact ⟨q / 10, UInt8.ofNat (48 + q % 10) :: l, by omega, by go_num, by rw [HC.out], HN.out, rfl⟩
           case measure => simp [intOf]; omega)
theorem pow_le4 : ∀ {i : Nat}, i ≤ 4 → 10 ^ i ≤ 10000 := fun {i} h => Nat.pow_le_pow_right (n := 10) (by decide) h
def PwI (d : Nat) (w : World) (v3 v4 : Value) (wr : World) : Prop := ∃ i : Nat, i ≤ d ∧ v3 = .int .i64 (10 ^ i : Nat) ∧ v4 = .int .i64 i ∧ w = wr
theorem power_any (d : Nat) (h : d ≤ 4) (w : World) :
    Calls Tryd.prog 51 #[.int .i64 d] w fun e w' => e = .returned (.int .i64 (10 ^ d : Nat)) ∧ w = w' := by
  go_enter Tryd.func51, Tryd.ntmps51
  go_wp2_with fail
  go_loopw [3, 4] (fun v3 v4 wr => PwI d w v3 v4 wr) (fun _ v _ => d - (intOf v).toNat)
  case atStart => exact ⟨0, by omega, rfl, rfl, rfl⟩
  case round =>
    obtain ⟨i, hi, rfl, rfl, rfl⟩ := hrel
    obtain ⟨p, hp⟩ : ∃ p, p = 10 ^ i := ⟨_, rfl⟩
    have hp4 : p ≤ 10000 := by rw [hp]; exact pow_le4 (by omega)
    have HP := hide hp
    rw [← hp]
    clear hp
    by_cases hlt : i < d
    · have hm : (i : Int) < d := by omega
      go_wp2_with fail
      go_roundw
      case rel => exact ⟨i + 1, by omega, by have := HP.out; rw [Nat.pow_succ, ← this]; go_num, by go_num, rfl⟩
      case measure => simp [intOf]; omega
    · obtain rfl : i = d := by omega
      go_wp2_with fail
      go_ret
      exact ⟨by rw [HP.out]; rfl, rfl⟩
theorem mnL_neg {a D : Nat} (h : 0 < a) : mnL (-(a : Int)) D = [45] ++ (wholeL a D ++ (if D = 0 then [] else 46 :: dgs a D)) := by
  unfold mnL; rw [if_pos (by omega), Int.natAbs_neg, Int.natAbs_natCast, List.append_assoc]
theorem mnL_pos (a D : Nat) : mnL (a : Int) D = [] ++ (wholeL a D ++ (if D = 0 then [] else 46 :: dgs a D)) := by
  unfold mnL; rw [if_neg (by omega), Int.natAbs_natCast, List.append_assoc]
def FmI (a D : Nat) (W : World) (v : Value) (wr : World) : Prop := ∃ k, Lib.nDigits a ≤ k ∧ k ≤ 20 ∧ (k = Lib.nDigits a ∨ k ≤ D + 1) ∧ v = .string ⟨(dgs a k).toArray⟩ ∧ W = wr
end Go.Proofs.YtodfpfbcjiganaaDoor
