/- Contracts of package date and its reference: texts of days, of both (DaE and the first of DaF, over DaB). -/
import Derived.Test.YtodfpfbcjiganaaDoorDaB
import Derived.Test.YtodfpfbcjiganaaDoorTab
import Derived.Test.YtodfpfbcjiganaaDoorReg
namespace Go.Proofs.YtodfpfbcjiganaaDoor
set_option linter.unusedSimpArgs false
set_option linter.unusedVariables false
open Go.RowKit

theorem civ_bd {day : Int} (h : vday day = true) : 2000 ≤ cY day ∧ cY day ≤ 2199 ∧ 1 ≤ cM day ∧ cM day ≤ 12 ∧ 1 ≤ cD day ∧ cD day ≤ mlen (cY day) (cM day) := by
  obtain ⟨a, b, c, d, e, f, _⟩ := civ_is h
  exact ⟨a, b, c, d, e, f⟩
/-- The text of a day. -/
noncomputable def fmtL (day : Int) : List UInt8 := if vday day then d4 (cY day).toNat ++ [45] ++ d2 (cM day).toNat ++ [45] ++ d2 (cD day).toNat else []
theorem fmt_no {day : Int} (h : vday day = false) : fmtL day = [] := by unfold fmtL; rw [h]; rfl
theorem fmt_yes {day : Int} (h : vday day = true) : fmtL day = d4 (cY day).toNat ++ [45] ++ d2 (cM day).toNat ++ [45] ++ d2 (cD day).toNat := if_pos h
theorem two_any (n : Nat) (h : n < 100) (w : World) (ht : Tab w) :
    Calls Tryd.prog 49 #[.int .i64 n] w fun e w' => e = .returned (.string ⟨(d2 n).toArray⟩) ∧ Below w.heap.size w w' := by
  by_cases h1 : n < 10
  · have hn : (n : Int) < 10 := by omega
    have HD : Hid ((⟨#[48]⟩ : ByteArray) ++ (⟨(Lib.itoa n).toArray⟩ : ByteArray) = ⟨(d2 n).toArray⟩) := hide (by rw [← itoa_1 h1]; exact bcat [48] _)
    have hl : (Lib.itoa n).length ≤ 20 := by have := congrArg List.length (itoa_1 h1); simp [d2] at this; omega
    go_enter Tryd.func49, Tryd.ntmps49
    go_wp2_with fail
    refine (itoa_any n (by omega) (by omega) _ ht).mono ?_
    rintro e w1 ⟨rfl, hb⟩
    go_wp2_with fail
    all_goals first
      | (go_ret; exact ⟨by rw [← HD.out]; rfl, hb⟩)
      | (exfalso; simp [ByteArray.size] at *; omega)
  · have hn : ¬ (n : Int) < 10 := by omega
    have HD := hide (itoa_2 (n := n) (by omega) h)
    go_enter Tryd.func49, Tryd.ntmps49
    go_wp2_with fail
    refine (itoa_any n (by omega) (by omega) _ ht).mono ?_
    rintro e w1 ⟨rfl, hb⟩
    go_wp2_with fail
    go_ret
    exact ⟨by rw [← HD.out]; rfl, hb⟩
theorem fmt_cat {day : Int} {Y M D : Nat} (h : vday day = true) (hY : cY day = Y) (hM : cM day = M) (hD : cD day = D) :
    ((((⟨(d4 Y).toArray⟩ : ByteArray) ++ (⟨#[45]⟩ : ByteArray)) ++ (⟨(d2 M).toArray⟩ : ByteArray)) ++ (⟨#[45]⟩ : ByteArray)) ++ (⟨(d2 D).toArray⟩ : ByteArray) = ⟨(fmtL day).toArray⟩ := by
  have e : (⟨#[45]⟩ : ByteArray) = ⟨[45].toArray⟩ := rfl
  rw [e, bcat, bcat, bcat, bcat, fmt_yes h, hY, hM, hD]
  rfl
set_option maxHeartbeats 1000000 in
theorem format_any (day : Int) (w : World) (ht : Tab w) :
    Calls Tryd.prog 36 #[.int .i64 day] w fun e w' => e = .returned (.string ⟨(fmtL day).toArray⟩) ∧ Below w.heap.size w w' := by
  cases hv : vday day with
  | false =>
    have HV := hide hv
    have HD := hide (fmt_no hv)
    clear hv
    go_enter Tryd.func36, Tryd.ntmps36
    go_wp2_with fail
    refine (valid_any day _).mono ?_
    rintro e w1 ⟨rfl, rfl⟩
    rw [HV.out]
    go_wp2_with fail
    go_ret
    exact ⟨by rw [HD.out]; rfl, by (repeat (first | (with_reducible exact Below.refl _ _) | (with_reducible assumption) | ((with_reducible refine Below.alloc ?_ ?_ _); (rotate_left); (first | omega | (simp <;> omega))) | ((with_reducible refine Below.setCell ?_ ?_ _); (rotate_left); (first | omega | (simp <;> omega))) | (with_reducible refine Below.drew ?_) | (with_reducible refine below_drewN ?_ _)))⟩
  | true =>
    obtain ⟨y1, y2, m1, m2, d1, d2'⟩ := civ_bd hv
    have ml := mlen_bd (cY day) m1 m2
    obtain ⟨Y, hY⟩ : ∃ Y : Nat, cY day = Y := ⟨(cY day).toNat, by omega⟩
    obtain ⟨M, hM⟩ : ∃ M : Nat, cM day = M := ⟨(cM day).toNat, by omega⟩
    obtain ⟨D, hD⟩ : ∃ D : Nat, cD day = D := ⟨(cD day).toNat, by omega⟩
    have HV := hide hv
    have HF := hide (fmt_cat hv hY hM hD)
    have HI := hide (itoa_4 (n := Y) (by omega) (by omega))
    have HY := hide (And.intro hY (And.intro hM hD))
    have hY2 : Y < 10000 := by omega
    have hM2 : M < 100 := by omega
    have hD2 : D < 100 := by omega
    clear hv hY hM hD y1 y2 m1 m2 d1 d2' ml
    have l1 : (d4 Y).length = 4 := rfl
    have l2 : (d2 M).length = 2 := rfl
    have l3 : (d2 D).length = 2 := rfl
    go_enter Tryd.func36, Tryd.ntmps36
    go_wp2_with fail
    refine (valid_any day _).mono ?_
    rintro e w1 ⟨rfl, rfl⟩
    rw [HV.out]
    go_wp2_with fail
    refine (civil_any day _).mono ?_
    rintro e w1 ⟨rfl, hb1⟩
    rw [HY.out.1, HY.out.2.1, HY.out.2.2]
    go_wp2_with fail
    refine (itoa_any Y (by omega) (by omega) _ (ht.below hb1)).mono ?_
    rintro e w2 ⟨rfl, hb2⟩
    rw [HI.out]
    have hb12 := hb1.trans (hb2.mono hb1.size)
    go_wp2_with fail
    refine (two_any M hM2 _ (ht.below hb12)).mono ?_
    rintro e w3 ⟨rfl, hb3⟩
    have hb13 := hb12.trans (hb3.mono hb12.size)
    go_wp2_with fail
    refine (two_any D hD2 _ (ht.below hb13)).mono ?_
    rintro e w4 ⟨rfl, hb4⟩
    have hb14 := hb13.trans (hb4.mono hb13.size)
    go_wp2_with fail
    go_ret
    exact ⟨by rw [← HF.out]; rfl, hb14⟩
def DgInv (n c : Nat) (w : World) (v0 v5 v6 : Value) (wr : World) : Prop := ∃ i : Nat, i ≤ c ∧ v0 = .int .i64 (n / 10 ^ i : Nat) ∧ v5 = .string ⟨(dgs n i).toArray⟩ ∧ v6 = .int .i64 i ∧ w = wr
theorem digits_any (n c : Nat) (h : n ≤ 100000) (hc : c ≤ 20) (w : World) :
    Calls Tryd.prog 54 #[.int .i64 n, .int .i64 c] w fun e w' => e = .returned (.string ⟨(dgs n c).toArray⟩) ∧ w = w' := by
  go_enter Tryd.func54, Tryd.ntmps54
  go_wp2_with fail
  go_loopw [0, 5, 6] (fun v0 v5 v6 wr => DgInv n c w v0 v5 v6 wr) (fun _ _ v _ => c - (intOf v).toNat)
  case atStart => exact ⟨0, by omega, by simp, rfl, rfl, rfl⟩
  case round =>
    obtain ⟨i, hi, rfl, rfl, rfl, rfl⟩ := hrel
    have hl := dgs_len n i
    by_cases hlt : i < c
    · have hm1 : (i : Int) < c := by omega
      obtain ⟨q, hq⟩ : ∃ q, q = n / 10 ^ i := ⟨_, rfl⟩
      have hqn : q ≤ n := by rw [hq]; exact Nat.div_le_self _ _
      have HQ := hide hq
      rw [← hq]
      clear hq
      have hq10 : q % 10 < 10 := Nat.mod_lt _ (by decide)
      have HD := hide (dig_cons hq10 (dgs n i))
      have hl2 : (dgs n i).length ≤ 20 := by omega
      clear hl
      go_wp2_with fail
      all_goals first
        | (exfalso; omega)
        | (go_roundw
           case rel => exact ⟨i + 1, by omega, by have := HQ.out; rw [Nat.pow_succ, ← Nat.div_div_eq_div_mul, ← this]; go_num, by rw [HD.out]; have := HQ.out; simp only [dgs, dgt]; rw [← this], by go_num, rfl⟩
           case measure => simp [intOf]; omega)
    · obtain rfl : i = c := by omega
      go_wp2_with fail
      go_ret
      exact ⟨rfl, rfl⟩
set_option maxHeartbeats 1000000 in
theorem rformat_any (day : Int) (w : World) :
    Calls Tryd.prog 40 #[.int .i64 day] w fun e w' => e = .returned (.string ⟨(fmtL day).toArray⟩) ∧ Below w.heap.size w w' := by
  cases hv : vday day with
  | false =>
    have HV := hide hv
    have HD := hide (fmt_no hv)
    clear hv
    go_enter Tryd.func40, Tryd.ntmps40
    go_wp2_with fail
    refine (rvalid_any day _).mono ?_
    rintro e w1 ⟨rfl, rfl⟩
    rw [HV.out]
    go_wp2_with fail
    go_ret
    exact ⟨by rw [HD.out]; rfl, by (repeat (first | (with_reducible exact Below.refl _ _) | (with_reducible assumption) | ((with_reducible refine Below.alloc ?_ ?_ _); (rotate_left); (first | omega | (simp <;> omega))) | ((with_reducible refine Below.setCell ?_ ?_ _); (rotate_left); (first | omega | (simp <;> omega))) | (with_reducible refine Below.drew ?_) | (with_reducible refine below_drewN ?_ _)))⟩
  | true =>
    obtain ⟨y1, y2, m1, m2, d1, d2'⟩ := civ_bd hv
    have ml := mlen_bd (cY day) m1 m2
    obtain ⟨Y, hY⟩ : ∃ Y : Nat, cY day = Y := ⟨(cY day).toNat, by omega⟩
    obtain ⟨M, hM⟩ : ∃ M : Nat, cM day = M := ⟨(cM day).toNat, by omega⟩
    obtain ⟨D, hD⟩ : ∃ D : Nat, cD day = D := ⟨(cD day).toNat, by omega⟩
    have HV := hide hv
    have HF := hide (fmt_cat hv hY hM hD)
    have HY := hide (And.intro hY (And.intro hM hD))
    have hY2 : Y ≤ 100000 := by omega
    have hM2 : M ≤ 100000 := by omega
    have hD2 : D ≤ 100000 := by omega
    clear hv hY hM hD y1 y2 m1 m2 d1 d2' ml
    have l1 : (d4 Y).length = 4 := rfl
    have l2 : (d2 M).length = 2 := rfl
    have l3 : (d2 D).length = 2 := rfl
    go_enter Tryd.func40, Tryd.ntmps40
    go_wp2_with fail
    refine (rvalid_any day _).mono ?_
    rintro e w1 ⟨rfl, rfl⟩
    rw [HV.out]
    go_wp2_with fail
    refine (rcivil_any day _).mono ?_
    rintro e w1 ⟨rfl, hb1⟩
    rw [HY.out.1, HY.out.2.1, HY.out.2.2]
    go_wp2_with fail
    refine (digits_any Y 4 hY2 (by omega) _).mono ?_
    rintro e w2 ⟨rfl, rfl⟩
    rw [dgs_4]
    go_wp2_with fail
    refine (digits_any M 2 hM2 (by omega) _).mono ?_
    rintro e w2 ⟨rfl, rfl⟩
    rw [dgs_2]
    go_wp2_with fail
    refine (digits_any D 2 hD2 (by omega) _).mono ?_
    rintro e w2 ⟨rfl, rfl⟩
    rw [dgs_2]
    go_wp2_with fail
    go_ret
    exact ⟨by rw [← HF.out]; rfl, hb1⟩
end Go.Proofs.YtodfpfbcjiganaaDoor
