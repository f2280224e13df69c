/- Texts laid together: NuA Tab NuB NuC NaA. -/
import Derived.Test.YtdjhkhadjmndoaaDoorQNuM
import Derived.Test.YtdjhkhadjmndoaaDoorQReg
import Derived.Test.YtdjhkhadjmndoaaDoorQStA
import Derived.Test.YtdjhkhadjmndoaaDoorQShelf
import Derived.Deep.QuietTactic
import Derived.BigQuiet
import Derived.Lib.AppendIntMem
namespace Go.Proofs.YtdjhkhadjmndoaaDoor
set_option maxRecDepth 4000
set_option linter.unusedSimpArgs false
set_option linter.unusedVariables false
open Go.RowKit
theorem retI {k : IntKind} {a b : Int} (h : a = b) : Ending.returned (.int k a) = .returned (.int k b) := by rw [h]
theorem retB {a b : Bool} (h : a = b) : Ending.returned (.bool a) = .returned (.bool b) := by rw [h]
theorem retS {a b : List UInt8} (h : a = b) : Ending.returned (.string ⟨a.toArray⟩) = .returned (.string ⟨b.toArray⟩) := by rw [h]
theorem take_snoc {l : List UInt8} {k : Nat} (h : k < l.length) : l.take (k + 1) = l.take k ++ [l[k]] := List.take_succ_eq_append_getElem h
theorem bget {l : List UInt8} {k : Nat} (h : k < (⟨l.toArray⟩ : ByteArray).size) : (⟨l.toArray⟩ : ByteArray)[k] = l[k]'(by rwa [bsize] at h) := by
  show (l.toArray)[k]'(by simpa [ByteArray.size] using h) = _
  simp
theorem rem_take {l : List UInt8} {k : Nat} (h : k < l.length) : rem (l.take (k + 1)) = stp (rem (l.take k)) l[k] := by rw [take_snoc h, rem_snoc]
def RsX (l : List UInt8) (w : World) (v3 v4 : Value) (wr : World) : Prop := ∃ k : Nat, k ≤ l.length ∧ v3 = .int .i64 (rem (l.take k) : Nat) ∧ v4 = .int .i64 k ∧ w = wr
set_option maxHeartbeats 1000000 in
theorem restx_any (l : List UInt8) (h10 : l.length ≤ 1000) (hp : allp l = true) (w : World) :
    Calls Tryd.prog 59 #[.string ⟨l.toArray⟩] w fun e w' => e = .returned (.int .i64 (rem l : Nat)) ∧ w = w' := by
  have hsz : (⟨l.toArray⟩ : ByteArray).size = l.length := bsize l
  have HP := hide hp
  clear hp
  go_enter Tryd.func59, Tryd.ntmps59
  go_wp2_with fail
  go_loopw [3, 4] (fun v3 v4 wr => RsX l w v3 v4 wr) (fun _ v _ => l.length - (intOf v).toNat)
  case atStart => exact ⟨0, by omega, rfl, rfl, rfl⟩
  case round =>
    obtain ⟨k, hk, rfl, rfl, rfl⟩ := hrel
    by_cases hlt : k < l.length
    · have hm1 : (k : Int) < l.length := by omega
      have hix : k < (⟨l.toArray⟩ : ByteArray).size := by rw [bsize]; exact hlt
      have HS := hide (rem_take hlt)
      have HG := hide (bget hix)
      have hc : isP l[k] = true := by
        have := HP.out
        unfold allp at this
        exact List.all_eq_true.1 this _ (List.getElem_mem hlt)
      have r0 := rem_lt (l.take k)
      obtain ⟨r, hr⟩ : ∃ r, r = rem (l.take k) := ⟨_, rfl⟩
      rw [← hr] at r0
      have HR := hide hr
      rw [← hr]
      clear hr
      have c0 : 0 ≤ ((⟨l.toArray⟩ : ByteArray)[k].toNat : Int) := by omega
      have c1 : ((⟨l.toArray⟩ : ByteArray)[k].toNat : Int) ≤ 255 := by have := (⟨l.toArray⟩ : ByteArray)[k].toNat_lt; omega
      have hc2 : (48 ≤ (⟨l.toArray⟩ : ByteArray)[k].toNat ∧ (⟨l.toArray⟩ : ByteArray)[k].toNat ≤ 57) ∨ (65 ≤ (⟨l.toArray⟩ : ByteArray)[k].toNat ∧ (⟨l.toArray⟩ : ByteArray)[k].toNat ≤ 90) := by
        rw [HG.out]
        unfold isP isD at hc
        simpa using hc
      have r1 : (0 : Int) ≤ r := by omega
      have r2 : (r : Int) ≤ 96 := by omega
      clear hc r0
      by_cases h1 : ((⟨l.toArray⟩ : ByteArray)[k].toNat : Int) ≤ 57
      · have h2 : 48 ≤ ((⟨l.toArray⟩ : ByteArray)[k].toNat : Int) := by omega
        clear hc2
        go_wp2_with fail
        go_roundw
        case rel =>
          refine ⟨k + 1, by omega, ?_, by go_num, rfl⟩
          rw [HS.out, ← HR.out, ← HG.out]
          unfold stp
          rw [if_pos (by omega)]
          congr 1
          omega
        case measure => simp [intOf]; omega
      · have h1' := Int.not_le.1 h1
        clear h1
        have h2 : 65 ≤ ((⟨l.toArray⟩ : ByteArray)[k].toNat : Int) := by omega
        have h3 : ((⟨l.toArray⟩ : ByteArray)[k].toNat : Int) ≤ 90 := by omega
        clear hc2
        go_wp2_with fail
        go_roundw
        case rel =>
          refine ⟨k + 1, by omega, ?_, by go_num, rfl⟩
          rw [HS.out, ← HR.out, ← HG.out]
          unfold stp
          rw [if_neg (by omega)]
          congr 1
          omega
        case measure => simp [intOf]; omega
    · obtain rfl : k = l.length := by omega
      have HT := hide (List.take_length (l := l))
      go_wp2_with fail
      go_ret
      exact ⟨retI (by rw [HT.out]), rfl⟩
def PlX (l : List UInt8) (w : World) (v3 : Value) (wr : World) : Prop := ∃ k : Nat, k ≤ l.length ∧ v3 = .int .i64 k ∧ allp (l.take k) = true ∧ w = wr
theorem allp_take {l : List UInt8} {k : Nat} (h : k < l.length) (hp : allp (l.take k) = true) : allp (l.take (k + 1)) = isP l[k] := by rw [take_snoc h, allp_snoc, hp]; rfl
theorem allp_no {l : List UInt8} {k : Nat} (h : k < l.length) (hc : isP l[k] = false) : allp l = false := by
  cases hp : allp l with
  | false => rfl
  | true =>
    unfold allp at hp
    have := List.all_eq_true.1 hp _ (List.getElem_mem h)
    rw [hc] at this; cases this
set_option maxHeartbeats 1000000 in
theorem plainx_any (l : List UInt8) (h10 : l.length ≤ 1000) (w : World) :
    Calls Tryd.prog 58 #[.string ⟨l.toArray⟩] w fun e w' => e = .returned (.bool (allp l)) ∧ w = w' := by
  have hsz : (⟨l.toArray⟩ : ByteArray).size = l.length := bsize l
  go_enter Tryd.func58, Tryd.ntmps58
  go_wp2_with fail
  go_loopw [3] (fun v3 wr => PlX l w v3 wr) (fun v _ => l.length - (intOf v).toNat)
  case atStart => exact ⟨0, by omega, rfl, rfl, rfl⟩
  case round =>
    obtain ⟨k, hk, rfl, hp, rfl⟩ := hrel
    by_cases hlt : k < l.length
    · have hm1 : (k : Int) < l.length := by omega
      have hix : k < (⟨l.toArray⟩ : ByteArray).size := by rw [bsize]; exact hlt
      have HA := hide (allp_take hlt hp)
      have HN := hide (fun h => allp_no hlt h)
      have HG := hide (bget hix)
      have HC := hide (show isP l[k] = (decide (48 ≤ (⟨l.toArray⟩ : ByteArray)[k].toNat ∧ (⟨l.toArray⟩ : ByteArray)[k].toNat ≤ 57) || decide (65 ≤ (⟨l.toArray⟩ : ByteArray)[k].toNat ∧ (⟨l.toArray⟩ : ByteArray)[k].toNat ≤ 90)) by rw [HG.out]; rfl)
      clear hp
      by_cases h1 : ((⟨l.toArray⟩ : ByteArray)[k].toNat : Int) < 48
      · have a1 : ((⟨l.toArray⟩ : ByteArray)[k].toNat : Int) < 65 := by omega
        go_wp2_with fail
        go_ret
        exact ⟨retB (by rw [HN.out (by rw [HC.out, decide_eq_false (by omega), decide_eq_false (by omega)]; rfl)]), rfl⟩
      · have g1 := Int.not_lt.1 h1
        clear h1
        by_cases h2 : (57 : Int) < ((⟨l.toArray⟩ : ByteArray)[k].toNat : Nat)
        · by_cases h3 : ((⟨l.toArray⟩ : ByteArray)[k].toNat : Int) < 65
          · go_wp2_with fail
            go_ret
            exact ⟨retB (by rw [HN.out (by rw [HC.out, decide_eq_false (by omega), decide_eq_false (by omega)]; rfl)]), rfl⟩
          · have g3 := Int.not_lt.1 h3
            clear h3
            by_cases h4 : (90 : Int) < ((⟨l.toArray⟩ : ByteArray)[k].toNat : Nat)
            · go_wp2_with fail
              go_ret
              exact ⟨retB (by rw [HN.out (by rw [HC.out, decide_eq_false (by omega), decide_eq_false (by omega)]; rfl)]), rfl⟩
            · have g4 := Int.not_lt.1 h4
              clear h4
              go_wp2_with fail
              go_roundw
              case rel => exact ⟨k + 1, by omega, by go_num, by rw [HA.out, HC.out, decide_eq_false (show ¬ _ from by omega), decide_eq_true (by omega)]; rfl, rfl⟩
              case measure => simp [intOf]; omega
        · have g2 := Int.not_lt.1 h2
          clear h2
          go_wp2_with fail
          go_roundw
          case rel => exact ⟨k + 1, by omega, by go_num, by rw [HA.out, HC.out, decide_eq_true (by omega)]; rfl, rfl⟩
          case measure => simp [intOf]; omega
    · obtain rfl : k = l.length := by omega
      have HT := hide (show true = allp l by rw [← hp, List.take_length])
      clear hp
      go_wp2_with fail
      go_ret
      exact ⟨retB HT.out, rfl⟩
/-- What Seal answers. -/
def sealS (l : List UInt8) : List UInt8 := if allp l = true then l ++ d2 (98 - rem (l ++ [48, 48])) else []
def sealE (l : List UInt8) : Int := if allp l = true then 0 else 2
theorem allp_00 {l : List UInt8} (h : allp l = true) : allp (l ++ [48, 48]) = true := by
  unfold allp at h ⊢
  rw [List.all_append, h]; decide
set_option maxHeartbeats 1000000 in
theorem sealx_any (l : List UInt8) (h0 : 1 ≤ l.length) (h10 : l.length ≤ 46) (w : World) :
    Calls Tryd.prog 30 #[.string ⟨l.toArray⟩] w fun e w' => e = .returned (.tuple #[.string ⟨(sealS l).toArray⟩, .int .i64 (sealE l)]) ∧ Below w.heap.size w w' := by
  have hsz : (⟨l.toArray⟩ : ByteArray).size = l.length := bsize l
  have hl1 : (1 : Int) ≤ l.length := by omega
  have hl2 : (l.length : Int) ≤ 46 := by omega
  cases hb : allp l with
  | false =>
    have HP := hide (plainx_any l (by omega))
    rw [hb] at HP
    have HS := hide (show sealS l = [] by unfold sealS; rw [hb]; rfl)
    have HE := hide (show sealE l = 2 by unfold sealE; rw [hb]; rfl)
    clear hb
    go_enter Tryd.func30, Tryd.ntmps30
    go_wp2_with fail
    refine (HP.out _).mono ?_
    rintro e w1 ⟨rfl, rfl⟩
    go_wp2_with fail
    refine bodyPost_ret (by simp [results, Tryd.results30, go_sem, *] <;> rfl) rfl ?_
    exact ⟨by rw [HS.out, HE.out], by (repeat (first | (with_reducible first | exact Below.refl _ _ | assumption | refine Below.drew ?_ | refine below_drewN ?_ _) | ((with_reducible first | refine Below.alloc ?_ ?_ _ | refine Below.setCell ?_ ?_ _); rotate_left; (first | omega | (simp <;> omega)))))⟩
  | true =>
    have HP := hide (plainx_any l (by omega))
    rw [hb] at HP
    have h00 := allp_00 hb
    have HQ := hide (restx_any (l ++ [48, 48]) (by simp; omega) h00)
    have HS := hide (show sealS l = l ++ d2 (98 - rem (l ++ [48, 48])) by unfold sealS; rw [hb]; rfl)
    have HE := hide (show sealE l = 0 by unfold sealE; rw [hb]; rfl)
    clear hb h00
    have hr := rem_lt (l ++ [48, 48])
    generalize rem (l ++ [48, 48]) = r at *
    have HR := hide (bcat l [48, 48])
    go_enter Tryd.func30, Tryd.ntmps30
    go_wp2_with fail
    refine (HP.out _).mono ?_
    rintro e w1 ⟨rfl, rfl⟩
    go_wp2_with fail
    rw [show (⟨#[48, 48]⟩ : ByteArray) = ⟨[48, 48].toArray⟩ from rfl, HR.out]
    refine (HQ.out _).mono ?_
    rintro e w2 ⟨rfl, rfl⟩
    obtain ⟨m, hm⟩ : ∃ m : Nat, r = 98 - m ∧ m ≤ 98 ∧ 2 ≤ m := ⟨98 - r, by omega⟩
    obtain ⟨hm, m2, m1⟩ := hm
    have HM := hide (show 98 - r = m by omega)
    have e1 : ((r : Nat) : Int) = 98 - (m : Int) := by omega
    rw [e1]
    clear hm hr e1
    have q1 : m / 10 < 10 := by omega
    have q2 : m % 10 < 10 := Nat.mod_lt _ (by decide)
    go_wp2_with fail
    rw [show (98 : Int) - (98 - (m : Int)) = m from by omega]
    have H2 := hide (show (⟨#[48, 49, 50, 51, 52, 53, 54, 55, 56, 57]⟩ : ByteArray).extract (m / 10) (m / 10 + 1) = ⟨[dgt (m / 10)].toArray⟩ by rw [dig_piece q1, show UInt8.ofNat (48 + m / 10) = dgt (m / 10) by unfold dgt; rw [Nat.mod_eq_of_lt q1]])
    have H3 := hide (show (⟨#[48, 49, 50, 51, 52, 53, 54, 55, 56, 57]⟩ : ByteArray).extract (m % 10) (m % 10 + 1) = ⟨[dgt m].toArray⟩ by rw [dig_piece q2]; rfl)
    go_quiet (fail)
    go_wp2_with fail
    refine bodyPost_ret (by simp [results, Tryd.results30, go_sem, *] <;> rfl) rfl ?_
    refine ⟨?_, by (repeat (first | (with_reducible first | exact Below.refl _ _ | assumption | refine Below.drew ?_ | refine below_drewN ?_ _) | ((with_reducible first | refine Below.alloc ?_ ?_ _ | refine Below.setCell ?_ ?_ _); rotate_left; (first | omega | (simp <;> omega)))))⟩
    rw [HS.out, HE.out, HM.out]
    first | rw [H2.out, H3.out, bcat, bcat, List.append_assoc]; rfl | skip
    done
def NbX (n : Nat) (w : World) (v0 v3 v4 : Value) (wr : World) : Prop := ∃ i : Nat, i ≤ 8 ∧ v0 = .int .i64 (n / 10 ^ i : Nat) ∧ v3 = .string ⟨(dgs n i).toArray⟩ ∧ v4 = .int .i64 i ∧ w = wr
theorem sealS_head (n : Nat) : sealS (headT n) = numT n ∧ sealE (headT n) = 0 := by
  unfold sealS sealE
  rw [allp_h n]
  exact ⟨rfl, rfl⟩
set_option maxHeartbeats 2000000 in
theorem numberR_any (id : Int) (w : World) :
    Calls Tryd.prog 9 #[.int .i64 id] w fun e w' => e = .returned (.string ⟨(numI id).toArray⟩) ∧ Below w.heap.size w w' := by
  by_cases g1 : 1000 ≤ id
  · by_cases g2 : id ≤ 99999999
    · have HN := hide (show numI id = numT id.toNat by unfold numI okId; rw [if_pos (decide_eq_true ⟨g1, g2⟩)])
      obtain ⟨n, rfl⟩ : ∃ n : Nat, id = n := ⟨id.toNat, by omega⟩
      rw [show ((n : Int)).toNat = n from rfl] at HN
      go_enter Tryd.func9, Tryd.ntmps9
      go_wp2_with fail
      go_loopw [0, 3, 4] (fun v0 v3 v4 wr => NbX n w v0 v3 v4 wr) (fun _ _ v _ => 8 - (intOf v).toNat)
      case atStart => exact ⟨0, by omega, by simp, rfl, rfl, rfl⟩
      case round =>
        obtain ⟨i, hi, rfl, rfl, rfl, rfl⟩ := hrel
        have hl := dgs_len n i
        by_cases hlt : i < 8
        · have hm1 : (i : Int) < 8 := by omega
          obtain ⟨q, hq⟩ : ∃ q, q = n / 10 ^ i := ⟨_, rfl⟩
          have hqn : q ≤ n := by rw [hq]; exact Nat.div_le_self _ _
          have HQ := hide hq
          rw [← hq]
          clear hq
          have hq10 : q % 10 < 10 := Nat.mod_lt _ (by decide)
          have HD := hide (dig_cons hq10 (dgs n i))
          have hl2 : (dgs n i).length ≤ 20 := by omega
          clear hl
          go_wp2_with fail
          all_goals first
            | (exfalso; omega)
            | (go_roundw
               case rel => exact ⟨i + 1, by omega, by have := HQ.out; rw [Nat.pow_succ, ← Nat.div_div_eq_div_mul, ← this]; go_num, by rw [HD.out]; have := HQ.out; simp only [dgs, dgt]; rw [← this], by go_num, rfl⟩
               case measure => simp [intOf]; omega)
        · obtain rfl : i = 8 := by omega
          have HR := hide (bcat [67, 66] (dgs n 8))
          have HS := hide (sealS_head n)
          go_wp2_with fail
          rw [show (⟨#[67, 66]⟩ : ByteArray) = ⟨[67, 66].toArray⟩ from rfl, HR.out]
          refine (sealx_any (headT n) (by rw [headT_len]; omega) (by rw [headT_len]; omega) _).mono ?_
          rintro e w1 ⟨rfl, hb⟩
          go_wp2_with fail
          go_ret
          exact ⟨retS (by rw [HN.out, HS.out.1]), hb⟩
    · have HN := hide (show numI id = [] by unfold numI okId; rw [if_neg (by simp; omega)])
      have g3 := Int.not_le.1 g2
      clear g2
      go_enter Tryd.func9, Tryd.ntmps9
      go_wp2_with fail
      go_ret
      exact ⟨by rw [HN.out]; rfl, by (repeat (first | (with_reducible first | exact Below.refl _ _ | assumption | refine Below.drew ?_ | refine below_drewN ?_ _) | ((with_reducible first | refine Below.alloc ?_ ?_ _ | refine Below.setCell ?_ ?_ _); rotate_left; (first | omega | (simp <;> omega)))))⟩
  · have HN := hide (show numI id = [] by unfold numI okId; rw [if_neg (by simp; omega)])
    have g3 := Int.not_le.1 g1
    clear g1
    go_enter Tryd.func9, Tryd.ntmps9
    go_wp2_with fail
    go_ret
    exact ⟨by rw [HN.out]; rfl, by (repeat (first | (with_reducible first | exact Below.refl _ _ | assumption | refine Below.drew ?_ | refine below_drewN ?_ _) | ((with_reducible first | refine Below.alloc ?_ ?_ _ | refine Below.setCell ?_ ?_ _); rotate_left; (first | omega | (simp <;> omega)))))⟩
end Go.Proofs.YtdjhkhadjmndoaaDoor
namespace Go.Proofs.YtdjhkhadjmndoaaDoor
set_option maxRecDepth 4000
set_option linter.unusedSimpArgs false
set_option linter.unusedVariables false
open Go.RowKit
/-- The library's table of powers of ten lies in its variable. -/
def Tab (w : World) : Prop := Lib.TabIs Tryd.prog w "internal/strconv.uint64pow10" .u64 Lib.pow10Tab
theorem Tab.below {w w' : World} (h : Tab w) (hb : Below w.heap.size w w') : Tab w' := by
  unfold Tab Lib.TabIs World.var? at *
  cases hg : Program.globalNamed Tryd.prog "internal/strconv.uint64pow10" with
  | none => simp [hg] at h
  | some g =>
    simp only [hg, Option.bind_some] at h ⊢
    have hlt : g < w.heap.size := by
      rcases Nat.lt_or_ge g w.heap.size with h' | h'
      · exact h'
      · rw [Array.getElem?_eq_none h'] at h; simp at h
    rw [hb.block g hlt]
    exact h
theorem itoa_any (n : Int) (i1 : -9223372036854775808 ≤ n) (i2 : n ≤ 9223372036854775807) (w : World) (ht : Tab w) :
    Calls Tryd.prog 27 #[.int .i64 n] w fun e w' => e = .returned (.string ⟨(Lib.itoa n).toArray⟩) ∧ Below w.heap.size w w' := by
  refine (Tryd.strconv_Itoa n i1 i2 w ht).mono ?_
  rintro e w1 ⟨rfl, k, os, rfl⟩
  exact ⟨rfl, Lib.below_grow _ w (Nat.le_refl _) k os⟩
end Go.Proofs.YtdjhkhadjmndoaaDoor
namespace Go.Proofs.YtdjhkhadjmndoaaDoor
set_option maxRecDepth 4000
set_option linter.unusedSimpArgs false
set_option linter.unusedVariables false
open Go.RowKit
theorem retIB {a b : Int} {c d : Bool} (h : a = b) (h2 : c = d) : Ending.returned (.tuple #[.int .i64 a, .bool c]) = .returned (.tuple #[.int .i64 b, .bool d]) := by rw [h, h2]
theorem retSI {a b : List UInt8} {c d : Int} (h : a = b) (h2 : c = d) : Ending.returned (.tuple #[.string ⟨a.toArray⟩, .int .i64 c]) = .returned (.tuple #[.string ⟨b.toArray⟩, .int .i64 d]) := by rw [h, h2]
theorem retBI {a b : ByteArray} {c d : Int} (h : a = b) (h2 : c = d) : Ending.returned (.tuple #[.string a, .int .i64 c]) = .returned (.tuple #[.string b, .int .i64 d]) := by rw [h, h2]
def RmX (l : List UInt8) (w : World) (v4 v9 : Value) (wr : World) : Prop := ∃ k : Nat, k ≤ l.length ∧ v4 = .int .i64 (rem (l.take k) : Nat) ∧ v9 = .int .i64 k ∧ allp (l.take k) = true ∧ w = wr
/-- What the remainder answers. -/
def rmV (l : List UInt8) : Int := if allp l = true then rem l else 0
set_option maxHeartbeats 1000000 in
theorem remainder_any (l : List UInt8) (h10 : l.length ≤ 1000) (w : World) :
    Calls Tryd.prog 51 #[.string ⟨l.toArray⟩] w fun e w' => e = .returned (.tuple #[.int .i64 (rmV l), .bool (allp l)]) ∧ w = w' := by
  have hsz : (⟨l.toArray⟩ : ByteArray).size = l.length := bsize l
  go_enter Tryd.func51, Tryd.ntmps51
  go_wp2_with fail
  go_loopw [4, 9] (fun v4 v9 wr => RmX l w v4 v9 wr) (fun _ v _ => l.length - (intOf v).toNat)
  case atStart => exact ⟨0, by omega, rfl, rfl, rfl, rfl⟩
  case round =>
    obtain ⟨k, hk, rfl, rfl, hp, rfl⟩ := hrel
    by_cases hlt : k < l.length
    · have hm1 : (k : Int) < l.length := by omega
      have hix : k < (⟨l.toArray⟩ : ByteArray).size := by rw [bsize]; exact hlt
      have HS := hide (rem_take hlt)
      have HA := hide (allp_take hlt hp)
      have HN := hide (fun h => allp_no hlt h)
      have HG := hide (bget hix)
      have HC := hide (show isP l[k] = (decide (48 ≤ (⟨l.toArray⟩ : ByteArray)[k].toNat ∧ (⟨l.toArray⟩ : ByteArray)[k].toNat ≤ 57) || decide (65 ≤ (⟨l.toArray⟩ : ByteArray)[k].toNat ∧ (⟨l.toArray⟩ : ByteArray)[k].toNat ≤ 90)) by rw [HG.out]; rfl)
      have r0 := rem_lt (l.take k)
      obtain ⟨r, hr⟩ : ∃ r, r = rem (l.take k) := ⟨_, rfl⟩
      rw [← hr] at r0
      have HR := hide hr
      rw [← hr]
      have c0 : 0 ≤ ((⟨l.toArray⟩ : ByteArray)[k].toNat : Int) := by omega
      have c1 : ((⟨l.toArray⟩ : ByteArray)[k].toNat : Int) ≤ 255 := by have := (⟨l.toArray⟩ : ByteArray)[k].toNat_lt; omega
      have r1 : (0 : Int) ≤ r := by omega
      have r2 : (r : Int) ≤ 96 := by omega
      clear hp hr r0
      by_cases h1 : (48 : Int) ≤ ((⟨l.toArray⟩ : ByteArray)[k].toNat : Nat)
      · by_cases h2 : ((⟨l.toArray⟩ : ByteArray)[k].toNat : Int) ≤ 57
        · go_wp2_with fail
          go_roundw
          case rel =>
            refine ⟨k + 1, by omega, ?_, by go_num, by rw [HA.out, HC.out, decide_eq_true (by omega)]; rfl, rfl⟩
            rw [HS.out, ← HR.out, ← HG.out]
            unfold stp
            rw [if_pos (by omega)]
            congr 1
            omega
          case measure => simp [intOf]; omega
        · have g2 := Int.not_le.1 h2
          clear h2
          by_cases h3 : (65 : Int) ≤ ((⟨l.toArray⟩ : ByteArray)[k].toNat : Nat)
          · by_cases h4 : ((⟨l.toArray⟩ : ByteArray)[k].toNat : Int) ≤ 90
            · go_wp2_with fail
              go_roundw
              case rel =>
                refine ⟨k + 1, by omega, ?_, by go_num, by rw [HA.out, HC.out, decide_eq_false (show ¬ _ from by omega), decide_eq_true (by omega)]; rfl, rfl⟩
                rw [HS.out, ← HR.out, ← HG.out]
                unfold stp
                rw [if_neg (by omega)]
                congr 1
                omega
              case measure => simp [intOf]; omega
            · have g4 := Int.not_le.1 h4
              clear h4
              have HF := hide (HN.out (by rw [HC.out, decide_eq_false (by omega), decide_eq_false (by omega)]; rfl))
              have HV := hide (show rmV l = 0 by unfold rmV; rw [HF.out]; rfl)
              go_wp2_with fail
              go_ret2
              exact ⟨retIB HV.out.symm HF.out.symm, rfl⟩
          · have g3 := Int.not_le.1 h3
            clear h3
            have HF := hide (HN.out (by rw [HC.out, decide_eq_false (by omega), decide_eq_false (by omega)]; rfl))
            have HV := hide (show rmV l = 0 by unfold rmV; rw [HF.out]; rfl)
            go_wp2_with fail
            go_ret2
            exact ⟨retIB HV.out.symm HF.out.symm, rfl⟩
      · have g1 := Int.not_le.1 h1
        clear h1
        have g3 : ((⟨l.toArray⟩ : ByteArray)[k].toNat : Int) < 65 := by omega
        have HF := hide (HN.out (by rw [HC.out, decide_eq_false (by omega), decide_eq_false (by omega)]; rfl))
        have HV := hide (show rmV l = 0 by unfold rmV; rw [HF.out]; rfl)
        go_wp2_with fail
        go_ret2
        exact ⟨retIB HV.out.symm HF.out.symm, rfl⟩
    · obtain rfl : k = l.length := by omega
      have HF := hide (show allp l = true by rw [← hp, List.take_length])
      have HV := hide (show rmV l = rem (l.take l.length) by unfold rmV; rw [HF.out, List.take_length]; rfl)
      clear hp
      go_wp2_with fail
      go_ret2
      exact ⟨retIB HV.out.symm HF.out.symm, rfl⟩
theorem allp_of00 {l : List UInt8} (h : allp l = false) : allp (l ++ [48, 48]) = false := by
  unfold allp at h ⊢
  rw [List.all_append, h]; rfl
set_option maxHeartbeats 1000000 in
theorem sealp_any (l : List UInt8) (h0 : 1 ≤ l.length) (h10 : l.length ≤ 46) (w : World) (ht : Tab w) :
    Calls Tryd.prog 28 #[.string ⟨l.toArray⟩] w fun e w' => e = .returned (.tuple #[.string ⟨(sealS l).toArray⟩, .int .i64 (sealE l)]) ∧ Below w.heap.size w w' := by
  have hsz : (⟨l.toArray⟩ : ByteArray).size = l.length := bsize l
  have hl1 : (1 : Int) ≤ l.length := by omega
  have hl2 : (l.length : Int) ≤ 46 := by omega
  have HT := hide ht
  clear ht
  have HQ := hide (remainder_any (l ++ [48, 48]) (by simp; omega))
  have HR := hide (bcat l [48, 48])
  cases hb : allp l with
  | false =>
    have HS := hide (show sealS l = [] by unfold sealS; rw [hb]; rfl)
    have HE := hide (show sealE l = 2 by unfold sealE; rw [hb]; rfl)
    rw [show rmV (l ++ [48, 48]) = 0 by unfold rmV; rw [allp_of00 hb]; rfl, allp_of00 hb] at HQ
    clear hb
    go_enter Tryd.func28, Tryd.ntmps28
    go_wp2_with fail
    rw [show (⟨#[48, 48]⟩ : ByteArray) = ⟨[48, 48].toArray⟩ from rfl, HR.out]
    refine (HQ.out _).mono ?_
    rintro e w1 ⟨rfl, rfl⟩
    go_wp2_with fail
    go_ret2
    exact ⟨retSI HS.out.symm HE.out.symm, by (repeat (first | (with_reducible first | exact Below.refl _ _ | assumption | refine Below.drew ?_ | refine below_drewN ?_ _) | ((with_reducible first | refine Below.alloc ?_ ?_ _ | refine Below.setCell ?_ ?_ _); rotate_left; (first | omega | (simp <;> omega)))))⟩
  | true =>
    have HS := hide (show sealS l = l ++ d2 (98 - rem (l ++ [48, 48])) by unfold sealS; rw [hb]; rfl)
    have HE := hide (show sealE l = 0 by unfold sealE; rw [hb]; rfl)
    have hr := rem_lt (l ++ [48, 48])
    rw [show rmV (l ++ [48, 48]) = rem (l ++ [48, 48]) by unfold rmV; rw [allp_00 hb]; rfl, allp_00 hb] at HQ
    clear hb
    generalize rem (l ++ [48, 48]) = r at *
    obtain ⟨m, hm⟩ : ∃ m : Nat, r = 98 - m ∧ m ≤ 98 ∧ 2 ≤ m := ⟨98 - r, by omega⟩
    obtain ⟨hm, m2, m1⟩ := hm
    have HM := hide (show 98 - r = m by omega)
    have e1 : ((r : Nat) : Int) = 98 - (m : Int) := by omega
    rw [e1] at HQ
    clear hm hr e1
    by_cases h10' : 10 ≤ m
    · have HI := hide (itoa_2 h10' (by omega))
      have HI2 := hide (itoa_any (m : Int) (by omega) (by omega))
      rw [HI.out] at HI2
      have h2 : (⟨(d2 m).toArray⟩ : ByteArray).size = 2 := by rw [bsize]; rfl
      have h3 := HR
      have HC := hide (bcat l (d2 m))
      clear h3
      go_enter Tryd.func28, Tryd.ntmps28
      go_wp2_with fail
      rw [show (⟨#[48, 48]⟩ : ByteArray) = ⟨[48, 48].toArray⟩ from rfl, HR.out]
      refine (HQ.out _).mono ?_
      rintro e w1 ⟨rfl, rfl⟩
      go_wp2_with fail
      rw [show (98 : Int) - (98 - (m : Int)) = m from by omega]
      refine (HI2.out _ HT.out).mono ?_
      rintro e w2 ⟨rfl, hb⟩
      go_wp2_with fail
      go_ret2
      exact ⟨retBI (by rw [HS.out, HM.out, HC.out]) HE.out.symm, hb⟩
    · have HI := hide (itoa_1 (show m < 10 by omega))
      have HI2 := hide (itoa_any (m : Int) (by omega) (by omega))
      have hlen : (Lib.itoa (m : Int)).length = 1 := by
        have := congrArg List.length HI.out
        simp [d2] at this
        simpa using this
      have h2 : (⟨(Lib.itoa (m : Int)).toArray⟩ : ByteArray).size = 1 := by rw [bsize]; exact hlen
      have HC := hide (bcat l (d2 m))
      have HC2 := hide (show (⟨#[48]⟩ : ByteArray) ++ ⟨(Lib.itoa (m : Int)).toArray⟩ = ⟨(d2 m).toArray⟩ by rw [show (⟨#[48]⟩ : ByteArray) = ⟨[48].toArray⟩ from rfl, bcat, ← HI.out]; rfl)
      clear hlen
      go_enter Tryd.func28, Tryd.ntmps28
      go_wp2_with fail
      rw [show (⟨#[48, 48]⟩ : ByteArray) = ⟨[48, 48].toArray⟩ from rfl, HR.out]
      refine (HQ.out _).mono ?_
      rintro e w1 ⟨rfl, rfl⟩
      go_wp2_with fail
      rw [show (98 : Int) - (98 - (m : Int)) = m from by omega]
      refine (HI2.out _ HT.out).mono ?_
      rintro e w2 ⟨rfl, hb⟩
      go_wp2_with fail
      go_ret2
      exact ⟨retBI (by rw [HS.out, HM.out, ← HC.out, ← HC2.out]) HE.out.symm, hb⟩
theorem rep_48 : ∀ c, Lib.repeatL [48] c = List.replicate c 48
  | 0 => rfl
  | c + 1 => by show [48] ++ Lib.repeatL [48] c = _; rw [rep_48 c]; rfl
set_option maxHeartbeats 1000000 in
theorem number_any (id : Int) (w : World) (ht : Tab w) :
    Calls Tryd.prog 8 #[.int .i64 id] w fun e w' => e = .returned (.string ⟨(numI id).toArray⟩) ∧ Below w.heap.size w w' := by
  have HT := hide ht
  clear ht
  by_cases g1 : 1000 ≤ id
  · by_cases g2 : id ≤ 99999999
    · have HN := hide (show numI id = numT id.toNat by unfold numI okId; rw [if_pos (decide_eq_true ⟨g1, g2⟩)])
      obtain ⟨n, rfl⟩ : ∃ n : Nat, id = n := ⟨id.toNat, by omega⟩
      rw [show ((n : Int)).toNat = n from rfl] at HN
      have HI2 := hide (itoa_any (n : Int) (by omega) (by omega))
      obtain ⟨p1, p2⟩ := itoa_pad (n := n) (by omega)
      obtain ⟨s, hs⟩ : ∃ s, s = Lib.itoa (n : Int) := ⟨_, rfl⟩
      rw [← hs] at HI2 p1 p2
      have h2 : (⟨s.toArray⟩ : ByteArray).size = s.length := bsize s
      have e8 : (8 : Int) - (s.length : Int) = ((8 - s.length : Nat) : Int) := by omega
      have HE8 := hide e8
      obtain ⟨z, hz⟩ : ∃ z, z = List.replicate (8 - s.length) (48 : UInt8) := ⟨_, rfl⟩
      have HRp := hide (Tryd.strings_Repeat ⟨#[48]⟩ (8 - s.length))
      rw [show (⟨#[48]⟩ : ByteArray).data.toList = [48] from rfl, rep_48, ← hz] at HRp
      rw [← hz] at p2
      have zl : z.length = 8 - s.length := by rw [hz]; simp
      have HC1 := hide (show (⟨#[67, 66]⟩ : ByteArray) ++ ⟨z.toArray⟩ = ⟨([67, 66] ++ z).toArray⟩ by rw [show (⟨#[67, 66]⟩ : ByteArray) = ⟨[67, 66].toArray⟩ from rfl, bcat])
      have HC2 := hide (show (⟨([67, 66] ++ z).toArray⟩ : ByteArray) ++ ⟨s.toArray⟩ = ⟨(headT n).toArray⟩ by rw [bcat, List.append_assoc, p2]; rfl)
      have HSL := hide (sealS_head n)
      have q1 : (⟨z.toArray⟩ : ByteArray).size = z.length := bsize z
      have q2 : ((⟨#[67, 66]⟩ : ByteArray) ++ ⟨z.toArray⟩ : ByteArray).size = 2 + z.length := by rw [HC1.out, bsize]; simp; omega
      clear hz
      have HL8 := hide p1
      clear p2 hs e8
      go_enter Tryd.func8, Tryd.ntmps8
      go_wp2_with fail
      refine (HI2.out _ HT.out).mono ?_
      rintro e w1 ⟨rfl, hb⟩
      have B1 := hide hb
      clear hb
      go_wp2_with fail
      rw [HE8.out]
      refine (HRp.out _ (by omega) (by show 1 * (8 - s.length) ≤ _; omega)).mono ?_
      rintro e w2 ⟨rfl, hb⟩
      have B2 := hide (B1.out.trans (hb.mono B1.out.size))
      clear hb
      go_wp2_with fail
      rw [HC1.out, HC2.out]
      refine (sealp_any (headT n) (by rw [headT_len]; omega) (by rw [headT_len]; omega) _ (HT.out.below B2.out)).mono ?_
      rintro e w3 ⟨rfl, hb⟩
      have B3 := hide (B2.out.trans (hb.mono B2.out.size))
      rw [HSL.out.1, HSL.out.2]
      clear hb
      go_wp2_with fail
      go_ret
      exact ⟨retS (by rw [HN.out]), B3.out⟩
    · have HN := hide (show numI id = [] by unfold numI okId; rw [if_neg (by simp; omega)])
      have g3 := Int.not_le.1 g2
      clear g2
      go_enter Tryd.func8, Tryd.ntmps8
      go_wp2_with fail
      go_ret
      exact ⟨by rw [HN.out]; rfl, by (repeat (first | (with_reducible first | exact Below.refl _ _ | assumption | refine Below.drew ?_ | refine below_drewN ?_ _) | ((with_reducible first | refine Below.alloc ?_ ?_ _ | refine Below.setCell ?_ ?_ _); rotate_left; (first | omega | (simp <;> omega)))))⟩
  · have HN := hide (show numI id = [] by unfold numI okId; rw [if_neg (by simp; omega)])
    have g3 := Int.not_le.1 g1
    clear g1
    go_enter Tryd.func8, Tryd.ntmps8
    go_wp2_with fail
    go_ret
    exact ⟨by rw [HN.out]; rfl, by (repeat (first | (with_reducible first | exact Below.refl _ _ | assumption | refine Below.drew ?_ | refine below_drewN ?_ _) | ((with_reducible first | refine Below.alloc ?_ ?_ _ | refine Below.setCell ?_ ?_ _); rotate_left; (first | omega | (simp <;> omega)))))⟩
end Go.Proofs.YtdjhkhadjmndoaaDoor
namespace Go.Proofs.YtdjhkhadjmndoaaDoor
set_option maxRecDepth 4000
set_option linter.unusedSimpArgs false
set_option linter.unusedVariables false
open Go.RowKit
theorem retII {a b c d : Int} (h : a = b) (h2 : c = d) : Ending.returned (.tuple #[.int .i64 a, .int .i64 c]) = .returned (.tuple #[.int .i64 b, .int .i64 d]) := by rw [h, h2]
theorem midL_get {l : List UInt8} {k : Nat} (h : k < (midL l).length) (h2 : k + 2 < l.length) : (midL l)[k] = l[k + 2] := by simp [midL, Nat.add_comm]
theorem mid_get {s : ByteArray} {k : Nat} (hi : k + 2 < s.size) (hk : k < (midL s.data.toList).length) : s[k + 2] = (midL s.data.toList)[k] := by
  rw [midL_get hk (by rw [Array.length_toList]; exact hi), Array.getElem_toList]
  rfl
def IdX (m : List UInt8) (w : World) (v4 v5 : Value) (wr : World) : Prop := ∃ k j : Nat, k ≤ 8 ∧ j = k + 2 ∧ v4 = .int .i64 (numL (m.take k) : Nat) ∧ v5 = .int .i64 j ∧ alld (m.take k) = true ∧ w = wr
set_option maxRecDepth 20000 in
set_option maxHeartbeats 2000000 in
theorem idp_any (s : ByteArray) (w : World) (ht : Tab w) :
    Calls Tryd.prog 10 #[.string s] w fun e w' => e = .returned (.tuple #[.int .i64 (idV s.data.toList), .int .i64 (idE s.data.toList)]) ∧ Below w.heap.size w w' := by
  have HT := hide ht
  clear ht
  have HL := hide (show s.data.toList.length = s.size by rw [Array.length_toList]; rfl)
  by_cases h12 : s.size = 12
  · obtain ⟨m, hm⟩ : ∃ m, m = midL s.data.toList := ⟨_, rfl⟩
    have hml : m.length = 8 := by rw [hm]; unfold midL; rw [List.length_take, List.length_drop, HL.out]; omega
    have HG := hide (fun (k j : Nat) (hj : j = k + 2) (hk : k < m.length) (hi : j < s.size) => show s[j] = m[k] by
      subst hm hj
      exact mid_get hi hk)
    have HM := hide hm
    have HML := hide hml
    have H12 := hide h12
    have hs12 : (s.size : Int) = 12 := by omega
    clear hm hml h12
    go_enter Tryd.func10, Tryd.ntmps10
    go_wp2_with fail
    go_loopw [4, 5] (fun v4 v5 wr => IdX m w v4 v5 wr) (fun _ v _ => 10 - (intOf v).toNat)
    case atStart => exact ⟨0, 2, by omega, rfl, rfl, rfl, rfl, rfl⟩
    case round =>
      obtain ⟨k, j, hk, hjk, rfl, rfl, ha, rfl⟩ := hrel
      have HJ := hide hjk
      clear hs12
      have HA0 := hide ha
      have hnl := numL_lt (m.take k).length (m.take k) rfl ha
      have hnb : numL (m.take k) < 100000000 := by
        refine Nat.lt_of_lt_of_le hnl ?_
        rw [List.length_take]
        refine Nat.le_trans (Nat.pow_le_pow_right (by decide) (show min k m.length ≤ 8 by omega)) (by decide)
      by_cases hlt : k < 8
      · have hkm : k < m.length := by rw [HML.out]; exact hlt
        have hix : j < s.size := by rw [H12.out]; omega
        have HE := hide (HG.out k j hjk hkm hix)
        have HTk := hide (take_snoc hkm)
        have HN := hide (numL_snoc (m.take k) m[k])
        have HAA := hide (alld_snoc (m.take k) m[k])
        have HD := hide (show isD m[k] = decide (48 ≤ s[j].toNat ∧ s[j].toNat ≤ 57) by rw [HE.out]; rfl)
        obtain ⟨r, hr⟩ : ∃ r, r = numL (m.take k) := ⟨_, rfl⟩
        rw [← hr] at hnb
        have HR := hide hr
        rw [← hr]
        have r0 : (0 : Int) ≤ r := by omega
        have HB := hide (show ∃ z : Int, z = 100000000 ∧ (r : Int) < z from ⟨100000000, rfl, by omega⟩)
        have c0 : 0 ≤ (s[j].toNat : Int) := by omega
        have c1 : (s[j].toNat : Int) ≤ 255 := by have := s[j].toNat_lt; omega
        have k1 : (j : Int) < 10 := by omega
        have k2 : (0 : Int) ≤ j := by omega
        have k3 : (j : Int) < s.size := by omega
        have HK := hide hlt
        clear ha hr hnl hnb hk hlt hjk
        by_cases h1 : (s[j].toNat : Int) < 48
        · have HF := hide (id_no (l := s.data.toList) (fun hh => by
            have := hh.2.1
            rw [← HM.out] at this
            unfold alld at this
            have := List.all_eq_true.1 this _ (List.getElem_mem (show k < m.length by rw [HML.out]; exact HK.out))
            rw [HD.out] at this
            simp at this
            omega))
          go_wp2_with fail
          go_ret2
          exact ⟨retII HF.out.1.symm HF.out.2.symm, by (repeat (first | (with_reducible first | exact Below.refl _ _ | assumption | refine Below.drew ?_ | refine below_drewN ?_ _) | ((with_reducible first | refine Below.alloc ?_ ?_ _ | refine Below.setCell ?_ ?_ _); rotate_left; (first | omega | (simp <;> omega)))))⟩
        · have g1 := Int.not_lt.1 h1
          clear h1
          by_cases h2 : (57 : Int) < (s[j].toNat : Nat)
          · have HF := hide (id_no (l := s.data.toList) (fun hh => by
              have := hh.2.1
              rw [← HM.out] at this
              unfold alld at this
              have := List.all_eq_true.1 this _ (List.getElem_mem (show k < m.length by rw [HML.out]; exact HK.out))
              rw [HD.out] at this
              simp at this
              omega))
            go_wp2_with fail
            go_ret2
            exact ⟨retII HF.out.1.symm HF.out.2.symm, by (repeat (first | (with_reducible first | exact Below.refl _ _ | assumption | refine Below.drew ?_ | refine below_drewN ?_ _) | ((with_reducible first | refine Below.alloc ?_ ?_ _ | refine Below.setCell ?_ ?_ _); rotate_left; (first | omega | (simp <;> omega)))))⟩
          · have g2 := Int.not_lt.1 h2
            clear h2
            go_wp2_with fail
            go_roundw
            case rel =>
              refine ⟨k + 1, j + 1, HK.out, by rw [HJ.out], ?_, by go_num, by rw [HTk.out, HAA.out, HA0.out, HD.out, decide_eq_true (by omega)]; rfl, rfl⟩
              rw [HTk.out, HN.out, ← HR.out, ← HE.out]
              obtain ⟨z, hz, hrz⟩ := HB.out
              congr 1
              unfold wrap64
              omega
            case measure => simp [intOf]; omega
      · obtain rfl : k = 8 := by omega
        obtain rfl : j = 10 := by omega
        have HTk := hide (show m.take 8 = m from List.take_of_length_le (by rw [HML.out]; omega))
        rw [HTk.out] at hnb ⊢
        have ha2 : alld m = true := by rw [← HTk.out]; exact ha
        have hnb2 : (numL m : Int) < 100000000 := by omega
        clear hnl hnb ha
        cases hq : (decide (numI (numL m) = s.data.toList)) with
        | true =>
          have HQ := hide (of_decide_eq_true hq)
          have HF := hide (id_yes (id_iff.2 ⟨by rw [HL.out, H12.out], by rw [← HM.out]; exact ha2, by rw [← HM.out]; exact HQ.out⟩))
          clear hq ha2
          go_wp2_with fail
          refine (number_any _ _ (HT.out)).mono ?_
          rintro e w1 ⟨rfl, hb⟩
          rw [HQ.out, show (⟨s.data.toList.toArray⟩ : ByteArray) = s from (blist s).symm]
          go_wp2_with fail
          go_ret2
          exact ⟨retII (by rw [HF.out.1, ← HM.out]) HF.out.2.symm, hb⟩
        | false =>
          have HQ := hide (of_decide_eq_false hq)
          have HF := hide (id_no (l := s.data.toList) (fun hh => HQ.out (by rw [HM.out]; exact hh.2.2)))
          clear hq ha2
          go_wp2_with fail
          refine (number_any _ _ (HT.out)).mono ?_
          rintro e w1 ⟨rfl, hb⟩
          obtain ⟨t, ht⟩ : ∃ t : ByteArray, t = ⟨(numI (numL m)).toArray⟩ := ⟨_, rfl⟩
          rw [← ht]
          have hne : (t.toList == s.toList) = false := by
            rw [Lib.toList_data, Lib.toList_data, ht]
            simpa using HQ.out
          have hne2 : (t.toList != s.toList) = true := by unfold bne; rw [hne]; rfl
          clear ht
          go_wp2_with fail
          go_ret2
          exact ⟨retII HF.out.1.symm HF.out.2.symm, hb⟩
  · have HF := hide (id_no (l := s.data.toList) (fun hh => h12 (by rw [← HL.out]; exact hh.1)))
    have hs : ((s.size : Int) == 12) = false := by simp; omega
    have hs2 : ((s.size : Int) != 12) = true := by simp; omega
    clear h12
    go_enter Tryd.func10, Tryd.ntmps10
    go_wp2_with fail
    go_ret2
    exact ⟨retII HF.out.1.symm HF.out.2.symm, by (repeat (first | (with_reducible first | exact Below.refl _ _ | assumption | refine Below.drew ?_ | refine below_drewN ?_ _) | ((with_reducible first | refine Below.alloc ?_ ?_ _ | refine Below.setCell ?_ ?_ _); rotate_left; (first | omega | (simp <;> omega)))))⟩
end Go.Proofs.YtdjhkhadjmndoaaDoor
namespace Go.Proofs.YtdjhkhadjmndoaaDoor
set_option maxRecDepth 4000
set_option linter.unusedSimpArgs false
set_option linter.unusedVariables false
open Go.RowKit
/-- The byte c may stand at place j of a name. -/
def okj (j c : Nat) : Prop := (97 ≤ c ∧ c ≤ 122) ∨ (j ≠ 0 ∧ (c = 95 ∨ (48 ≤ c ∧ c ≤ 57)))
def NmOK (s : ByteArray) : Prop := 1 ≤ s.size ∧ s.size ≤ 16 ∧ ∀ j (h : j < s.size), okj j s[j].toNat
noncomputable def nameB (s : ByteArray) : Bool := @decide (NmOK s) (Classical.propDecidable _)
theorem nameB_yes {s : ByteArray} (h : NmOK s) : nameB s = true := by unfold nameB; exact @decide_eq_true _ (Classical.propDecidable _) h
theorem nameB_no {s : ByteArray} (h : ¬ NmOK s) : nameB s = false := by unfold nameB; exact @decide_eq_false _ (Classical.propDecidable _) h
theorem nm_bad {s : ByteArray} {k : Nat} (h : k < s.size) (hb : ¬ okj k s[k].toNat) : Ending.returned (.bool false) = .returned (.bool (nameB s)) := by rw [nameB_no fun hh => hb (hh.2.2 k h)]
def NmI (s : ByteArray) (w : World) (v : Value) (wr : World) : Prop := ∃ k : Nat, k ≤ s.size ∧ v = .int .i64 k ∧ (∀ j (h : j < s.size), j < k → okj j s[j].toNat) ∧ w = wr
theorem okj_snoc {s : ByteArray} {k : Nat} (h : ∀ j (h : j < s.size), j < k → okj j s[j].toNat) (hk : k < s.size) (ho : okj k s[k].toNat) : ∀ j (h : j < s.size), j < k + 1 → okj j s[j].toNat := fun j hj hl => by
  by_cases he : j = k
  · subst he; exact ho
  · exact h j hj (by omega)
set_option maxRecDepth 20000 in
set_option maxHeartbeats 2000000 in
theorem named_any (s : ByteArray) (hs : s.size ≤ maxLen) (w : World) : Calls Tryd.prog 39 #[.string s] w fun e w' => e = .returned (.bool (nameB s)) ∧ Below w.heap.size w w' := by
  have HS := hide (show ∃ z : Nat, z = 9223372036854775807 ∧ s.size ≤ z from ⟨_, rfl, hs⟩)
  clear hs
  go_enter Tryd.func39, Tryd.ntmps39
  go_wp2_with fail
  go_loopw [8] (fun v wr => NmI s w v wr) (fun v _ => s.size - (intOf v).toNat)
  case atStart => exact ⟨0, by omega, rfl, fun j _ h => absurd h (by omega), rfl⟩
  case round =>
    obtain ⟨k, hk, rfl, ha, rfl⟩ := hrel
    have HA := hide ha
    have HK := hide hk
    by_cases hlt : k < s.size
    · have HLT := hide hlt
      have HW := hide (show wrap64 ((k : Int) + 1) = (k : Int) + 1 by
        obtain ⟨z, hz, hz2⟩ := HS.out
        unfold wrap64
        omega)
      have c0 : 0 ≤ (s[k].toNat : Int) := by omega
      have c1 : (s[k].toNat : Int) ≤ 255 := by have := s[k].toNat_lt; omega
      have k1 : (k : Int) < s.size := by omega
      have k2 : (0 : Int) ≤ k := by omega
      have HC := hide (show ¬ okj k s[k].toNat → Ending.returned (.bool false) = .returned (.bool (nameB s)) from fun hb => nm_bad hlt hb)
      have HD := hide (show okj k s[k].toNat → ∀ j (h : j < s.size), j < k + 1 → okj j s[j].toNat from fun hb => okj_snoc ha hlt hb)
      clear ha hk
      by_cases h1 : (97 : Int) ≤ s[k].toNat
      · have d1 : decide ((97 : Int) ≤ s[k].toNat) = true := by simpa using (by omega : ((97 : Int) ≤ s[k].toNat))
        by_cases h2 : (s[k].toNat : Int) ≤ 122
        · have d2 : decide ((s[k].toNat : Int) ≤ 122) = true := by simpa using (by omega : ((s[k].toNat : Int) ≤ 122))
          clear hlt
          go_wp2_with fail
          all_goals try (exfalso; first | omega | (rename_i hh; simp at hh; omega))
          go_roundw
          case rel => exact ⟨k + 1, HLT.out, by rw [HW.out]; simp, HD.out (.inl ⟨by omega, by omega⟩), rfl⟩
          case measure => have := HLT.out; rw [HW.out]; simp [intOf]; omega
        · have d2 : decide ((s[k].toNat : Int) ≤ 122) = false := by simpa using (by omega : ¬ ((s[k].toNat : Int) ≤ 122))
          have d3 : decide ((s[k].toNat : Int) < 48) = false := by simpa using (by omega : ¬ ((s[k].toNat : Int) < 48))
          have d4 : decide ((57 : Int) < s[k].toNat) = true := by simpa using (by omega : ((57 : Int) < s[k].toNat))
          have g2 := Int.not_le.1 h2
          have e1 : ((s[k].toNat : Int) != 95) = true := by simp; omega
          have g3 : ¬ (s[k].toNat : Int) < 48 := by omega
          have g4 : (57 : Int) < s[k].toNat := by omega
          clear hlt
          by_cases h0 : k = 0
          · have e0 : ((k : Int) == 0) = true := by simp; omega
            have HZ := hide (HC.out (by unfold okj; omega))
            clear h0
            go_wp2_with fail
            all_goals try (exfalso; first | omega | (rename_i hh; simp at hh; omega))
            go_ret
            exact ⟨HZ.out, by (repeat (first | (with_reducible first | exact Below.refl _ _ | assumption | refine Below.drew ?_ | refine below_drewN ?_ _) | ((with_reducible first | refine Below.alloc ?_ ?_ _ | refine Below.setCell ?_ ?_ _); rotate_left; (first | omega | (simp <;> omega)))))⟩
          · have e0 : ((k : Int) == 0) = false := by simp; omega
            have HZ := hide (HC.out (by unfold okj; omega))
            clear h0
            go_wp2_with fail
            all_goals try (exfalso; first | omega | (rename_i hh; simp at hh; omega))
            go_ret
            exact ⟨HZ.out, by (repeat (first | (with_reducible first | exact Below.refl _ _ | assumption | refine Below.drew ?_ | refine below_drewN ?_ _) | ((with_reducible first | refine Below.alloc ?_ ?_ _ | refine Below.setCell ?_ ?_ _); rotate_left; (first | omega | (simp <;> omega)))))⟩
      · have d1 : decide ((97 : Int) ≤ s[k].toNat) = false := by simpa using (by omega : ¬ ((97 : Int) ≤ s[k].toNat))
        have g1 := Int.not_le.1 h1
        clear hlt
        by_cases h0 : k = 0
        · have e0 : ((k : Int) == 0) = true := by simp; omega
          have HZ := hide (HC.out (by unfold okj; omega))
          clear h0
          go_wp2_with fail
          all_goals try (exfalso; first | omega | (rename_i hh; simp at hh; omega))
          go_ret
          exact ⟨HZ.out, by (repeat (first | (with_reducible first | exact Below.refl _ _ | assumption | refine Below.drew ?_ | refine below_drewN ?_ _) | ((with_reducible first | refine Below.alloc ?_ ?_ _ | refine Below.setCell ?_ ?_ _); rotate_left; (first | omega | (simp <;> omega)))))⟩
        · have e0 : ((k : Int) == 0) = false := by simp; omega
          have H0 := hide h0
          clear h0
          by_cases h5 : (s[k].toNat : Int) = 95
          · have e1 : ((s[k].toNat : Int) != 95) = false := by simp; omega
            have HO := hide (HD.out (.inr ⟨H0.out, .inl (by omega)⟩))
            go_wp2_with fail
            all_goals try (exfalso; first | omega | (rename_i hh; simp at hh; omega))
            go_roundw
            case rel => exact ⟨k + 1, HLT.out, by rw [HW.out]; simp, HO.out, rfl⟩
            case measure => have := HLT.out; rw [HW.out]; simp [intOf]; omega
          · have e1 : ((s[k].toNat : Int) != 95) = true := by simp; omega
            by_cases h6 : (s[k].toNat : Int) < 48
            · have d3 : decide ((s[k].toNat : Int) < 48) = true := by simpa using (by omega : ((s[k].toNat : Int) < 48))
              have HZ := hide (HC.out (by unfold okj; omega))
              go_wp2_with fail
              all_goals try (exfalso; first | omega | (rename_i hh; simp at hh; omega))
              go_ret
              exact ⟨HZ.out, by (repeat (first | (with_reducible first | exact Below.refl _ _ | assumption | refine Below.drew ?_ | refine below_drewN ?_ _) | ((with_reducible first | refine Below.alloc ?_ ?_ _ | refine Below.setCell ?_ ?_ _); rotate_left; (first | omega | (simp <;> omega)))))⟩
            · have d3 : decide ((s[k].toNat : Int) < 48) = false := by simpa using (by omega : ¬ ((s[k].toNat : Int) < 48))
              by_cases h7 : (57 : Int) < s[k].toNat
              · have d4 : decide ((57 : Int) < s[k].toNat) = true := by simpa using (by omega : ((57 : Int) < s[k].toNat))
                have HZ := hide (HC.out (by unfold okj; omega))
                have g6 := Int.not_lt.1 h6
                go_wp2_with fail
                all_goals try (exfalso; first | omega | (rename_i hh; simp at hh; omega))
                go_ret
                exact ⟨HZ.out, by (repeat (first | (with_reducible first | exact Below.refl _ _ | assumption | refine Below.drew ?_ | refine below_drewN ?_ _) | ((with_reducible first | refine Below.alloc ?_ ?_ _ | refine Below.setCell ?_ ?_ _); rotate_left; (first | omega | (simp <;> omega)))))⟩
              · have d4 : decide ((57 : Int) < s[k].toNat) = false := by simpa using (by omega : ¬ ((57 : Int) < s[k].toNat))
                have HO := hide (HD.out (.inr ⟨H0.out, .inr ⟨by omega, by omega⟩⟩))
                have g6 := Int.not_lt.1 h6
                have g7 := Int.not_lt.1 h7
                go_wp2_with fail
                all_goals try (exfalso; first | omega | (rename_i hh; simp at hh; omega))
                go_roundw
                case rel => exact ⟨k + 1, HLT.out, by rw [HW.out]; simp, HO.out, rfl⟩
                case measure => have := HLT.out; rw [HW.out]; simp [intOf]; omega
    · obtain rfl : k = s.size := by omega
      have hne : ¬ ((s.size : Int) < s.size) := by omega
      clear ha hk hlt
      by_cases h1 : (1 : Int) ≤ s.size
      · have d1 : decide ((1 : Int) ≤ s.size) = true := by simpa using (by omega : ((1 : Int) ≤ s.size))
        by_cases h2 : (s.size : Int) ≤ 16
        · have HF := hide (nameB_yes (s := s) ⟨by omega, by omega, fun j h => HA.out j h h⟩)
          go_wp2_with fail
          all_goals try (exfalso; first | omega | (rename_i hh; simp at hh; omega))
          go_ret
          exact ⟨by rw [HF.out]; rfl, by (repeat (first | (with_reducible first | exact Below.refl _ _ | assumption | refine Below.drew ?_ | refine below_drewN ?_ _) | ((with_reducible first | refine Below.alloc ?_ ?_ _ | refine Below.setCell ?_ ?_ _); rotate_left; (first | omega | (simp <;> omega)))))⟩
        · have HF := hide (nameB_no (s := s) (fun hh => h2 (by have := hh.2.1; omega)))
          go_wp2_with fail
          all_goals try (exfalso; first | omega | (rename_i hh; simp at hh; omega))
          go_ret
          exact ⟨by rw [HF.out]; rfl, by (repeat (first | (with_reducible first | exact Below.refl _ _ | assumption | refine Below.drew ?_ | refine below_drewN ?_ _) | ((with_reducible first | refine Below.alloc ?_ ?_ _ | refine Below.setCell ?_ ?_ _); rotate_left; (first | omega | (simp <;> omega)))))⟩
      · have HF := hide (nameB_no (s := s) (fun hh => h1 (by have := hh.1; omega)))
        go_wp2_with fail
        all_goals try (exfalso; first | omega | (rename_i hh; simp at hh; omega))
        go_ret
        exact ⟨by rw [HF.out]; rfl, by (repeat (first | (with_reducible first | exact Below.refl _ _ | assumption | refine Below.drew ?_ | refine below_drewN ?_ _) | ((with_reducible first | refine Below.alloc ?_ ?_ _ | refine Below.setCell ?_ ?_ _); rotate_left; (first | omega | (simp <;> omega)))))⟩
end Go.Proofs.YtdjhkhadjmndoaaDoor
