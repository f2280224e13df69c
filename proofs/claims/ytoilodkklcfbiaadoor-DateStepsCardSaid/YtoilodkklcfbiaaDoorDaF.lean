/- Contracts of package date and its reference, 6: the reference's Format; reading texts. -/
import Derived.Test.YtoilodkklcfbiaaDoorDaE
import Derived.Test.YtoilodkklcfbiaaDoorReg
namespace Go.Proofs.YtoilodkklcfbiaaDoor
open Go.RowKit

set_option maxHeartbeats 1000000 in
theorem rformat_any (day : Int) (w : World) :
    Calls Tryd.prog 18 #[.int .i64 day] w fun e w' => e = .returned (.string ⟨(fmtL day).toArray⟩) ∧ Below w.heap.size w w' := by
  cases hv : vday day with
  | false =>
    have HV := hide hv
    have HD := hide (fmt_no hv)
    clear hv
    go_enter Tryd.func18, Tryd.ntmps18
    go_wp2_with fail
    refine (rvalid_any day _).mono ?_
    rintro e w1 ⟨rfl, rfl⟩
    rw [HV.out]
    go_wp2_with fail
    go_ret
    exact ⟨by rw [HD.out]; rfl, by (repeat (first | (with_reducible exact Below.refl _ _) | (with_reducible assumption) | ((with_reducible refine Below.alloc ?_ ?_ _); (rotate_left); (first | omega | (simp <;> omega))) | ((with_reducible refine Below.setCell ?_ ?_ _); (rotate_left); (first | omega | (simp <;> omega))) | (with_reducible refine Below.drew ?_) | (with_reducible refine below_drewN ?_ _)))⟩
  | true =>
    obtain ⟨y1, y2, m1, m2, d1, d2'⟩ := civ_bd hv
    have ml := mlen_bd (cY day) m1 m2
    obtain ⟨Y, hY⟩ : ∃ Y : Nat, cY day = Y := ⟨(cY day).toNat, by omega⟩
    obtain ⟨M, hM⟩ : ∃ M : Nat, cM day = M := ⟨(cM day).toNat, by omega⟩
    obtain ⟨D, hD⟩ : ∃ D : Nat, cD day = D := ⟨(cD day).toNat, by omega⟩
    have HV := hide hv
    have HF := hide (fmt_cat hv hY hM hD)
    have HY := hide (And.intro hY (And.intro hM hD))
    have hY2 : Y ≤ 100000 := by omega
    have hM2 : M ≤ 100000 := by omega
    have hD2 : D ≤ 100000 := by omega
    clear hv hY hM hD y1 y2 m1 m2 d1 d2' ml
    have l1 : (d4 Y).length = 4 := rfl
    have l2 : (d2 M).length = 2 := rfl
    have l3 : (d2 D).length = 2 := rfl
    go_enter Tryd.func18, Tryd.ntmps18
    go_wp2_with fail
    refine (rvalid_any day _).mono ?_
    rintro e w1 ⟨rfl, rfl⟩
    rw [HV.out]
    go_wp2_with fail
    refine (rcivil_any day _).mono ?_
    rintro e w1 ⟨rfl, hb1⟩
    rw [HY.out.1, HY.out.2.1, HY.out.2.2]
    go_wp2_with fail
    refine (digits_any Y 4 hY2 (by omega) _).mono ?_
    rintro e w2 ⟨rfl, rfl⟩
    rw [dgs_4]
    go_wp2_with fail
    refine (digits_any M 2 hM2 (by omega) _).mono ?_
    rintro e w2 ⟨rfl, rfl⟩
    rw [dgs_2]
    go_wp2_with fail
    refine (digits_any D 2 hD2 (by omega) _).mono ?_
    rintro e w2 ⟨rfl, rfl⟩
    rw [dgs_2]
    go_wp2_with fail
    go_ret
    exact ⟨by rw [← HF.out]; rfl, hb1⟩
/-- The number and whether it is one. -/
def nmV (l : List UInt8) : Int := if alld l then (numL l : Nat) else 0
theorem take_snoc {l : List UInt8} {k : Nat} (h : k < l.length) : l.take (k + 1) = l.take k ++ [l[k]] := List.take_succ_eq_append_getElem h
theorem alld_take {l : List UInt8} (k : Nat) (h : alld l = true) : alld (l.take k) = true := by
  unfold alld at *
  rw [List.all_eq_true] at *
  exact fun x hx => h x (List.mem_of_mem_take hx)
theorem alld_bad {l : List UInt8} {k : Nat} (h : k < l.length) (hc : isD l[k] = false) : alld l = false := by
  cases ha : alld l with
  | false => rfl
  | true =>
    unfold alld at ha
    rw [List.all_eq_true] at ha
    rw [ha _ (List.getElem_mem h)] at hc
    cases hc
def NmInv (l : List UInt8) (w : World) (v4 v8 : Value) (wr : World) : Prop := ∃ k : Nat, k ≤ l.length ∧ v4 = .int .i64 (numL (l.take k) : Nat) ∧ alld (l.take k) = true ∧ v8 = .int .i64 k ∧ w = wr
theorem nm_bd {l : List UInt8} {k : Nat} (hk : k ≤ l.length) (h10 : l.length ≤ 10) (h : alld (l.take k) = true) : numL (l.take k) < 10000000000 := by
  have h1 := numL_lt k (l.take k) (by simp; omega) h
  have h2 : 10 ^ k ≤ 10 ^ 10 := Nat.pow_le_pow_right (by decide) (by omega)
  omega
theorem number_any (l : List UInt8) (h10 : l.length ≤ 10) (w : World) :
    Calls Tryd.prog 35 #[.string ⟨l.toArray⟩] w fun e w' => e = .returned (.tuple #[.int .i64 (nmV l), .bool (alld l)]) ∧ w = w' := by
  have hsz : (⟨l.toArray⟩ : ByteArray).size = l.length := bsize l
  go_enter Tryd.func35, Tryd.ntmps35
  go_wp2_with fail
  go_loopw [4, 8] (fun v4 v8 wr => NmInv l w v4 v8 wr) (fun _ v _ => l.length - (intOf v).toNat)
  case atStart => exact ⟨0, by omega, rfl, rfl, rfl, rfl⟩
  case round =>
    obtain ⟨k, hk, rfl, ha, rfl, rfl⟩ := hrel
    have hbd := nm_bd hk h10 ha
    by_cases hlt : k < l.length
    · have hm1 : (k : Int) < l.length := by omega
      have hix : k < (⟨l.toArray⟩ : ByteArray).size := by rw [bsize]; exact hlt
      have hb : (⟨l.toArray⟩ : ByteArray)[k].toNat = l[k].toNat := rfl
      have HT := hide (take_snoc hlt)
      have HA := hide ha
      by_cases h1 : 48 ≤ l[k].toNat
      · have f1 : (48 : Int) ≤ ((⟨l.toArray⟩ : ByteArray)[k].toNat : Nat) := by omega
        by_cases h2 : l[k].toNat ≤ 57
        · have f2 : ((⟨l.toArray⟩ : ByteArray)[k].toNat : Int) ≤ 57 := by omega
          have HN : Hid (((numL (l.take (k + 1)) : Nat) : Int) = 10 * (numL (l.take k) : Nat) + (((⟨l.toArray⟩ : ByteArray)[k].toNat : Nat) - 48) ∧ alld (l.take (k + 1)) = true) := hide (by
            rw [HT.out, numL_snoc, alld_snoc, ha]
            exact ⟨by omega, by rw [isD_iff.2 ⟨h1, h2⟩]; rfl⟩)
          clear ha hb h1 h2
          go_wp2_with fail
          go_roundw
          case rel => exact ⟨k + 1, by omega, by rw [HN.out.1], HN.out.2, by go_num, rfl⟩
          case measure => simp [intOf]; omega
        · have f2 : ¬ ((⟨l.toArray⟩ : ByteArray)[k].toNat : Int) ≤ 57 := by omega
          have HN := hide (alld_bad hlt (by unfold isD; simp; omega))
          have HV : Hid (nmV l = 0) := hide (by unfold nmV; rw [HN.out]; rfl)
          clear ha hb h1 h2
          go_wp2_with fail
          refine bodyPost_ret (by simp [results, Tryd.results35, go_sem, *] <;> rfl) rfl ⟨?_, ?_⟩
          · rw [HN.out, HV.out]
          rfl
      · have f1 : ¬ (48 : Int) ≤ ((⟨l.toArray⟩ : ByteArray)[k].toNat : Nat) := by omega
        have HN := hide (alld_bad hlt (by unfold isD; simp; omega))
        have HV : Hid (nmV l = 0) := hide (by unfold nmV; rw [HN.out]; rfl)
        clear ha hb h1
        go_wp2_with fail
        refine bodyPost_ret (by simp [results, Tryd.results35, go_sem, *] <;> rfl) rfl ⟨?_, ?_⟩
        · rw [HN.out, HV.out]
        rfl
    · obtain rfl : k = l.length := by omega
      rw [List.take_length] at ha ⊢
      have HN := hide ha
      have HV : Hid (nmV l = (numL l : Nat)) := hide (by unfold nmV; rw [ha]; rfl)
      clear ha hbd
      go_wp2_with fail
      refine bodyPost_ret (by simp [results, Tryd.results35, go_sem, *] <;> rfl) rfl ⟨?_, ?_⟩
      · rw [HN.out, HV.out]
      rfl
theorem rnumber_any (l : List UInt8) (h10 : l.length ≤ 10) (hd : alld l = true) (w : World) :
    Calls Tryd.prog 37 #[.string ⟨l.toArray⟩] w fun e w' => e = .returned (.int .i64 (numL l : Nat)) ∧ w = w' := by
  have hsz : (⟨l.toArray⟩ : ByteArray).size = l.length := bsize l
  have HA := hide hd
  clear hd
  go_enter Tryd.func37, Tryd.ntmps37
  go_wp2_with fail
  go_loopw [3, 4] (fun v3 v4 wr => NmInv l w v3 v4 wr) (fun _ v _ => l.length - (intOf v).toNat)
  case atStart => exact ⟨0, by omega, rfl, rfl, rfl, rfl⟩
  case round =>
    obtain ⟨k, hk, rfl, ha, rfl, rfl⟩ := hrel
    have hbd := nm_bd hk h10 ha
    clear ha
    by_cases hlt : k < l.length
    · have hm1 : (k : Int) < l.length := by omega
      have hix : k < (⟨l.toArray⟩ : ByteArray).size := by rw [bsize]; exact hlt
      have hb : (⟨l.toArray⟩ : ByteArray)[k].toNat = l[k].toNat := rfl
      have hdk : 48 ≤ l[k].toNat ∧ l[k].toNat ≤ 57 := by
        have := HA.out
        unfold alld at this
        rw [List.all_eq_true] at this
        exact isD_iff.1 (this _ (List.getElem_mem hlt))
      have f1 : (48 : Int) ≤ ((⟨l.toArray⟩ : ByteArray)[k].toNat : Nat) := by omega
      have f2 : ((⟨l.toArray⟩ : ByteArray)[k].toNat : Int) ≤ 57 := by omega
      have HN : Hid (((numL (l.take (k + 1)) : Nat) : Int) = 10 * (numL (l.take k) : Nat) + (((⟨l.toArray⟩ : ByteArray)[k].toNat : Nat) - 48)) := hide (by
        rw [take_snoc hlt, numL_snoc]; omega)
      have HM := hide (alld_take (k + 1) HA.out)
      clear hb hdk
      go_wp2_with fail
      go_roundw
      case rel => exact ⟨k + 1, by omega, by rw [HN.out]; first | rfl | (exact congrArg (Value.int .i64) (by omega)), HM.out, by go_num, rfl⟩
      case measure => simp [intOf]; omega
    · obtain rfl : k = l.length := by omega
      rw [List.take_length]
      go_wp2_with fail
      go_ret
      exact ⟨rfl, rfl⟩
end Go.Proofs.YtoilodkklcfbiaaDoor
