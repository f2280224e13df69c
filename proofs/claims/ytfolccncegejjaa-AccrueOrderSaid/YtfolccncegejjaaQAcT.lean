/- Texts laid together: AcT. -/
import Derived.Test.YtfolccncegejjaaQStr
import Derived.Test.YtfolccncegejjaaQReg
import Derived.Test.YtfolccncegejjaaQStA
import Derived.Deep.QuietTactic
import Derived.BigQuiet
namespace Go.Proofs.Ytfolccncegejjaa
set_option maxRecDepth 4000
set_option linter.unusedSimpArgs false
set_option linter.unusedVariables false
open Go.RowKit
def RsI (l : List UInt8) (w : World) (v3 v4 : Value) (wr : World) : Prop := ∃ (k : Nat) (n : Int), k ≤ l.length ∧ 0 ≤ n ∧ n ≤ 96 ∧ v3 = .int .i64 n ∧ v4 = .int .i64 k ∧ w = wr
set_option maxHeartbeats 1000000 in
theorem rest_any (l : List UInt8) (h10 : l.length ≤ 1000) (w : World) :
    Calls Try.prog 72 #[.string ⟨l.toArray⟩] w fun e w' => (∃ n : Int, 0 ≤ n ∧ n ≤ 96 ∧ e = .returned (.int .i64 n)) ∧ w = w' := by
  have hsz : (⟨l.toArray⟩ : ByteArray).size = l.length := bsize l
  go_enter Try.func72, Try.ntmps72
  go_wp2_with fail
  go_loopw [3, 4] (fun v3 v4 wr => RsI l w v3 v4 wr) (fun _ v _ => l.length - (intOf v).toNat)
  case atStart => exact ⟨0, 0, by omega, by omega, by omega, rfl, rfl, rfl⟩
  case round =>
    obtain ⟨k, n, hk, n0, n1, rfl, rfl, rfl⟩ := hrel
    by_cases hlt : k < l.length
    · have hm1 : (k : Int) < l.length := by omega
      have hix : k < (⟨l.toArray⟩ : ByteArray).size := by rw [bsize]; exact hlt
      obtain ⟨c, hc⟩ : ∃ c : Int, c = ((⟨l.toArray⟩ : ByteArray)[k].toNat : Nat) := ⟨_, rfl⟩
      have c0 : 0 ≤ ((⟨l.toArray⟩ : ByteArray)[k].toNat : Int) := by omega
      have c1 : ((⟨l.toArray⟩ : ByteArray)[k].toNat : Int) ≤ 255 := by have := (⟨l.toArray⟩ : ByteArray)[k].toNat_lt; omega
      clear hc c
      by_cases h1 : ((⟨l.toArray⟩ : ByteArray)[k].toNat : Int) ≤ 57
      · by_cases h2 : 48 ≤ ((⟨l.toArray⟩ : ByteArray)[k].toNat : Int)
        · go_wp2_with fail
          go_roundw
          case rel => refine ⟨k + 1, _, by omega, ?_, ?_, rfl, by go_num, rfl⟩ <;> omega
          case measure => simp [intOf]; omega
        · have h3 := Int.not_le.1 h2
          clear h2
          go_wp2_with fail
          go_roundw
          case rel => refine ⟨k + 1, _, by omega, ?_, ?_, rfl, by go_num, rfl⟩ <;> omega
          case measure => simp [intOf]; omega
      · have h1' := Int.not_le.1 h1
        clear h1
        by_cases h2 : 65 ≤ ((⟨l.toArray⟩ : ByteArray)[k].toNat : Int)
        · go_wp2_with fail
          go_roundw
          case rel => refine ⟨k + 1, _, by omega, ?_, ?_, rfl, by go_num, rfl⟩ <;> omega
          case measure => simp [intOf]; omega
        · have h3 := Int.not_le.1 h2
          clear h2
          go_wp2_with fail
          go_roundw
          case rel => refine ⟨k + 1, _, by omega, ?_, ?_, rfl, by go_num, rfl⟩ <;> omega
          case measure => simp [intOf]; omega
    · obtain rfl : k = l.length := by omega
      go_wp2_with fail
      go_ret
      exact ⟨⟨n, n0, n1, rfl⟩, rfl⟩
def PlI (l : List UInt8) (w : World) (v3 : Value) (wr : World) : Prop := ∃ k : Nat, k ≤ l.length ∧ v3 = .int .i64 k ∧ w = wr
set_option maxHeartbeats 1000000 in
theorem plain_any (l : List UInt8) (h10 : l.length ≤ 1000) (w : World) :
    Calls Try.prog 71 #[.string ⟨l.toArray⟩] w fun e w' => (∃ b : Bool, e = .returned (.bool b)) ∧ w = w' := by
  have hsz : (⟨l.toArray⟩ : ByteArray).size = l.length := bsize l
  go_enter Try.func71, Try.ntmps71
  go_wp2_with fail
  go_loopw [3] (fun v3 wr => PlI l w v3 wr) (fun v _ => l.length - (intOf v).toNat)
  case atStart => exact ⟨0, by omega, rfl, rfl⟩
  case round =>
    obtain ⟨k, hk, rfl, rfl⟩ := hrel
    by_cases hlt : k < l.length
    · have hm1 : (k : Int) < l.length := by omega
      have hix : k < (⟨l.toArray⟩ : ByteArray).size := by rw [bsize]; exact hlt
      by_cases h1 : ((⟨l.toArray⟩ : ByteArray)[k].toNat : Int) < 48
      · have a1 : ((⟨l.toArray⟩ : ByteArray)[k].toNat : Int) < 65 := by omega
        go_wp2_with fail
        go_ret
        exact ⟨⟨_, rfl⟩, rfl⟩
      · have g1 := Int.not_lt.1 h1
        clear h1
        by_cases h2 : (57 : Int) < ((⟨l.toArray⟩ : ByteArray)[k].toNat : Nat)
        · by_cases h3 : ((⟨l.toArray⟩ : ByteArray)[k].toNat : Int) < 65
          · go_wp2_with fail
            go_ret
            exact ⟨⟨_, rfl⟩, rfl⟩
          · have g3 := Int.not_lt.1 h3
            clear h3
            by_cases h4 : (90 : Int) < ((⟨l.toArray⟩ : ByteArray)[k].toNat : Nat)
            · go_wp2_with fail
              go_ret
              exact ⟨⟨_, rfl⟩, rfl⟩
            · have g4 := Int.not_lt.1 h4
              clear h4
              go_wp2_with fail
              go_roundw
              case rel => exact ⟨k + 1, by omega, by go_num, rfl⟩
              case measure => simp [intOf]; omega
        · have g2 := Int.not_lt.1 h2
          clear h2
          go_wp2_with fail
          go_roundw
          case rel => exact ⟨k + 1, by omega, by go_num, rfl⟩
          case measure => simp [intOf]; omega
    · obtain rfl : k = l.length := by omega
      go_wp2_with fail
      go_ret
      exact ⟨⟨_, rfl⟩, rfl⟩
set_option maxHeartbeats 1000000 in
theorem seal_any (l : List UInt8) (h0 : 1 ≤ l.length) (h10 : l.length ≤ 46) (w : World) :
    Calls Try.prog 58 #[.string ⟨l.toArray⟩] w fun e w' => (∃ s E, e = .returned (.tuple #[.string s, .int .i64 E])) ∧ Below w.heap.size w w' := by
  have hsz : (⟨l.toArray⟩ : ByteArray).size = l.length := bsize l
  have hl1 : (1 : Int) ≤ l.length := by omega
  have hl2 : (l.length : Int) ≤ 46 := by omega
  go_enter Try.func58, Try.ntmps58
  go_wp2_with fail
  refine (plain_any l (by omega) _).mono ?_
  rintro e w1 ⟨⟨b, rfl⟩, rfl⟩
  cases b with
  | false =>
    go_wp2_with fail
    refine bodyPost_ret (by simp [results, Try.results58, go_sem, *] <;> rfl) rfl ?_
    exact ⟨⟨_, _, rfl⟩, by (repeat (first | (with_reducible first | exact Below.refl _ _ | assumption | refine Below.drew ?_ | refine below_drewN ?_ _) | ((with_reducible first | refine Below.alloc ?_ ?_ _ | refine Below.setCell ?_ ?_ _); rotate_left; (first | omega | (simp <;> omega)))))⟩
  | true =>
    have HR := hide (bcat l [48, 48])
    go_wp2_with fail
    rw [show (⟨#[48, 48]⟩ : ByteArray) = ⟨[48, 48].toArray⟩ from rfl, HR.out]
    refine (rest_any (l ++ [48, 48]) (by simp; omega) _).mono ?_
    rintro e w2 ⟨⟨n, n0, n1, rfl⟩, rfl⟩
    obtain ⟨m, hm⟩ : ∃ m : Nat, n = 98 - m := ⟨(98 - n).toNat, by omega⟩
    subst hm
    have m1 : 2 ≤ m := by omega
    have m2 : m ≤ 98 := by omega
    go_wp2_with fail
    rw [show (98 : Int) - (98 - (m : Int)) = m from by omega]
    have q1 : m / 10 < 10 := by omega
    have q2 : m % 10 < 10 := Nat.mod_lt _ (by decide)
    go_quiet (fail)
    go_wp2_with fail
    refine bodyPost_ret (by simp [results, Try.results58, go_sem, *] <;> rfl) rfl ?_
    exact ⟨⟨_, _, rfl⟩, by (repeat (first | (with_reducible first | exact Below.refl _ _ | assumption | refine Below.drew ?_ | refine below_drewN ?_ _) | ((with_reducible first | refine Below.alloc ?_ ?_ _ | refine Below.setCell ?_ ?_ _); rotate_left; (first | omega | (simp <;> omega)))))⟩
def NbI (n : Nat) (w : World) (v0 v3 v4 : Value) (wr : World) : Prop := ∃ i : Nat, i ≤ 8 ∧ v0 = .int .i64 (n / 10 ^ i : Nat) ∧ v3 = .string ⟨(dgs n i).toArray⟩ ∧ v4 = .int .i64 i ∧ w = wr
set_option maxHeartbeats 2000000 in
theorem number_any (n : Nat) (h1 : 1000 ≤ n) (h : n ≤ 99999999) (w : World) :
    Calls Try.prog 36 #[.int .i64 n] w fun e w' => (∃ s, e = .returned (.string s)) ∧ Below w.heap.size w w' := by
  have g1 : (1000 : Int) ≤ n := by omega
  have g2 : (n : Int) ≤ 99999999 := by omega
  go_enter Try.func36, Try.ntmps36
  go_wp2_with fail
  go_loopw [0, 3, 4] (fun v0 v3 v4 wr => NbI n w v0 v3 v4 wr) (fun _ _ v _ => 8 - (intOf v).toNat)
  case atStart => exact ⟨0, by omega, by simp, rfl, rfl, rfl⟩
  case round =>
    obtain ⟨i, hi, rfl, rfl, rfl, rfl⟩ := hrel
    have hl := dgs_len n i
    by_cases hlt : i < 8
    · have hm1 : (i : Int) < 8 := by omega
      obtain ⟨q, hq⟩ : ∃ q, q = n / 10 ^ i := ⟨_, rfl⟩
      have hqn : q ≤ n := by rw [hq]; exact Nat.div_le_self _ _
      have HQ := hide hq
      rw [← hq]
      clear hq
      have hq10 : q % 10 < 10 := Nat.mod_lt _ (by decide)
      have HD := hide (dig_cons hq10 (dgs n i))
      have hl2 : (dgs n i).length ≤ 20 := by omega
      clear hl
      go_wp2_with fail
      all_goals first
        | (exfalso; omega)
        | (go_roundw
           case rel => exact ⟨i + 1, by omega, by have := HQ.out; rw [Nat.pow_succ, ← Nat.div_div_eq_div_mul, ← this]; go_num, by rw [HD.out]; have := HQ.out; simp only [dgs, dgt]; rw [← this], by go_num, rfl⟩
           case measure => simp [intOf]; omega)
    · obtain rfl : i = 8 := by omega
      have HR := hide (bcat [67, 66] (dgs n 8))
      go_wp2_with fail
      rw [show (⟨#[67, 66]⟩ : ByteArray) = ⟨[67, 66].toArray⟩ from rfl, HR.out]
      refine (seal_any ([67, 66] ++ dgs n 8) (by simp) (by simp; omega) _).mono ?_
      rintro e w1 ⟨⟨s, E, rfl⟩, hb⟩
      go_wp2_with fail
      go_ret
      exact ⟨⟨_, rfl⟩, hb⟩
end Go.Proofs.Ytfolccncegejjaa
