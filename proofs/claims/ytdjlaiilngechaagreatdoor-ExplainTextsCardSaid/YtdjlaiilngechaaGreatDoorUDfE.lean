/- Texts laid together: DfE MnE. -/
import Derived.Test.YtdjlaiilngechaaGreatDoorUDaM
import Derived.Test.YtdjlaiilngechaaGreatDoorUNuM
import Derived.Test.YtdjlaiilngechaaGreatDoorUReg
import Derived.Test.YtdjlaiilngechaaGreatDoorURowM
namespace Go.Proofs.YtdjlaiilngechaaGreatDoor
set_option maxRecDepth 4000
set_option linter.unusedSimpArgs false
set_option linter.unusedVariables false
open Go.RowKit
theorem civ_bd {day : Int} (h : vday day = true) : 2000 ≤ cY day ∧ cY day ≤ 2199 ∧ 1 ≤ cM day ∧ cM day ≤ 12 ∧ 1 ≤ cD day ∧ cD day ≤ mlen (cY day) (cM day) := by
  obtain ⟨a, b, c, d, e, f, _⟩ := civ_is h
  exact ⟨a, b, c, d, e, f⟩
/-- The text of a day. -/
noncomputable def fmtL (day : Int) : List UInt8 := if vday day then d4 (cY day).toNat ++ [45] ++ d2 (cM day).toNat ++ [45] ++ d2 (cD day).toNat else []
theorem fmt_no {day : Int} (h : vday day = false) : fmtL day = [] := by unfold fmtL; rw [h]; rfl
theorem fmt_yes {day : Int} (h : vday day = true) : fmtL day = d4 (cY day).toNat ++ [45] ++ d2 (cM day).toNat ++ [45] ++ d2 (cD day).toNat := if_pos h
theorem two_any (n : Nat) (h : n < 100) (w : World) (ht : Tab w) :
    Calls Tryz.prog 107 #[.int .i64 n] w fun e w' => e = .returned (.string ⟨(d2 n).toArray⟩) ∧ Below w.heap.size w w' := by
  by_cases h1 : n < 10
  · have hn : (n : Int) < 10 := by omega
    have HD : Hid ((⟨#[48]⟩ : ByteArray) ++ (⟨(Lib.itoa n).toArray⟩ : ByteArray) = ⟨(d2 n).toArray⟩) := hide (by rw [← itoa_1 h1]; exact bcat [48] _)
    have hl : (Lib.itoa n).length ≤ 20 := by have := congrArg List.length (itoa_1 h1); simp [d2] at this; omega
    go_enter Tryz.func107, Tryz.ntmps107
    go_wp2_with fail
    refine (itoa_any n (by omega) (by omega) _ ht).mono ?_
    rintro e w1 ⟨rfl, hb⟩
    go_wp2_with fail
    all_goals first
      | (go_ret; exact ⟨by rw [← HD.out]; rfl, hb⟩)
      | (exfalso; simp [ByteArray.size] at *; omega)
  · have hn : ¬ (n : Int) < 10 := by omega
    have HD := hide (itoa_2 (n := n) (by omega) h)
    go_enter Tryz.func107, Tryz.ntmps107
    go_wp2_with fail
    refine (itoa_any n (by omega) (by omega) _ ht).mono ?_
    rintro e w1 ⟨rfl, hb⟩
    go_wp2_with fail
    go_ret
    exact ⟨by rw [← HD.out]; rfl, hb⟩
theorem fmt_cat {day : Int} {Y M D : Nat} (h : vday day = true) (hY : cY day = Y) (hM : cM day = M) (hD : cD day = D) :
    ((((⟨(d4 Y).toArray⟩ : ByteArray) ++ (⟨#[45]⟩ : ByteArray)) ++ (⟨(d2 M).toArray⟩ : ByteArray)) ++ (⟨#[45]⟩ : ByteArray)) ++ (⟨(d2 D).toArray⟩ : ByteArray) = ⟨(fmtL day).toArray⟩ := by
  have e : (⟨#[45]⟩ : ByteArray) = ⟨[45].toArray⟩ := rfl
  rw [e, bcat, bcat, bcat, bcat, fmt_yes h, hY, hM, hD]
  rfl
set_option maxHeartbeats 1000000 in
theorem format_any (day : Int) (w : World) (ht : Tab w) :
    Calls Tryz.prog 67 #[.int .i64 day] w fun e w' => e = .returned (.string ⟨(fmtL day).toArray⟩) ∧ Below w.heap.size w w' := by
  cases hv : vday day with
  | false =>
    have HV := hide hv
    have HD := hide (fmt_no hv)
    clear hv
    go_enter Tryz.func67, Tryz.ntmps67
    go_wp2_with fail
    refine (valid_any day _).mono ?_
    rintro e w1 ⟨rfl, rfl⟩
    rw [HV.out]
    go_wp2_with fail
    go_ret
    exact ⟨by rw [HD.out]; rfl, by (repeat (first | (with_reducible first | exact Below.refl _ _ | assumption | refine Below.drew ?_) | ((with_reducible first | refine Below.alloc ?_ ?_ _ | refine Below.setCell ?_ ?_ _); rotate_left; (first | omega | (simp <;> omega)))))⟩
  | true =>
    obtain ⟨y1, y2, m1, m2, d1, d2'⟩ := civ_bd hv
    have ml := mlen_bd (cY day) m1 m2
    obtain ⟨Y, hY⟩ : ∃ Y : Nat, cY day = Y := ⟨(cY day).toNat, by omega⟩
    obtain ⟨M, hM⟩ : ∃ M : Nat, cM day = M := ⟨(cM day).toNat, by omega⟩
    obtain ⟨D, hD⟩ : ∃ D : Nat, cD day = D := ⟨(cD day).toNat, by omega⟩
    have HV := hide hv
    have HF := hide (fmt_cat hv hY hM hD)
    have HI := hide (itoa_4 (n := Y) (by omega) (by omega))
    have HY := hide (And.intro hY (And.intro hM hD))
    have hY2 : Y < 10000 := by omega
    have hM2 : M < 100 := by omega
    have hD2 : D < 100 := by omega
    clear hv hY hM hD y1 y2 m1 m2 d1 d2' ml
    have l1 : (d4 Y).length = 4 := rfl
    have l2 : (d2 M).length = 2 := rfl
    have l3 : (d2 D).length = 2 := rfl
    go_enter Tryz.func67, Tryz.ntmps67
    go_wp2_with fail
    refine (valid_any day _).mono ?_
    rintro e w1 ⟨rfl, rfl⟩
    rw [HV.out]
    go_wp2_with fail
    refine (civil_any day _).mono ?_
    rintro e w1 ⟨rfl, hb1⟩
    rw [HY.out.1, HY.out.2.1, HY.out.2.2]
    go_wp2_with fail
    refine (itoa_any Y (by omega) (by omega) _ (ht.below hb1)).mono ?_
    rintro e w2 ⟨rfl, hb2⟩
    rw [HI.out]
    have hb12 := hb1.trans (hb2.mono hb1.size)
    go_wp2_with fail
    refine (two_any M hM2 _ (ht.below hb12)).mono ?_
    rintro e w3 ⟨rfl, hb3⟩
    have hb13 := hb12.trans (hb3.mono hb12.size)
    go_wp2_with fail
    refine (two_any D hD2 _ (ht.below hb13)).mono ?_
    rintro e w4 ⟨rfl, hb4⟩
    have hb14 := hb13.trans (hb4.mono hb13.size)
    go_wp2_with fail
    go_ret
    exact ⟨by rw [← HF.out]; rfl, hb14⟩
def DgInv (n c : Nat) (w : World) (v0 v5 v6 : Value) (wr : World) : Prop := ∃ i : Nat, i ≤ c ∧ v0 = .int .i64 (n / 10 ^ i : Nat) ∧ v5 = .string ⟨(dgs n i).toArray⟩ ∧ v6 = .int .i64 i ∧ w = wr
theorem digits_any (n c : Nat) (h : n ≤ 100000) (hc : c ≤ 20) (w : World) :
    Calls Tryz.prog 116 #[.int .i64 n, .int .i64 c] w fun e w' => e = .returned (.string ⟨(dgs n c).toArray⟩) ∧ w = w' := by
  go_enter Tryz.func116, Tryz.ntmps116
  go_wp2_with fail
  go_loopw [0, 5, 6] (fun v0 v5 v6 wr => DgInv n c w v0 v5 v6 wr) (fun _ _ v _ => c - (intOf v).toNat)
  case atStart => exact ⟨0, by omega, by simp, rfl, rfl, rfl⟩
  case round =>
    obtain ⟨i, hi, rfl, rfl, rfl, rfl⟩ := hrel
    have hl := dgs_len n i
    by_cases hlt : i < c
    · have hm1 : (i : Int) < c := by omega
      obtain ⟨q, hq⟩ : ∃ q, q = n / 10 ^ i := ⟨_, rfl⟩
      have hqn : q ≤ n := by rw [hq]; exact Nat.div_le_self _ _
      have HQ := hide hq
      rw [← hq]
      clear hq
      have hq10 : q % 10 < 10 := Nat.mod_lt _ (by decide)
      have HD := hide (dig_cons hq10 (dgs n i))
      have hl2 : (dgs n i).length ≤ 20 := by omega
      clear hl
      go_wp2_with fail
      all_goals first
        | (exfalso; omega)
        | (go_roundw
           case rel => exact ⟨i + 1, by omega, by have := HQ.out; rw [Nat.pow_succ, ← Nat.div_div_eq_div_mul, ← this]; go_num, by rw [HD.out]; have := HQ.out; simp only [dgs, dgt]; rw [← this], by go_num, rfl⟩
           case measure => simp [intOf]; omega)
    · obtain rfl : i = c := by omega
      go_wp2_with fail
      go_ret
      exact ⟨rfl, rfl⟩
set_option maxHeartbeats 1000000 in
theorem rformat_any (day : Int) (w : World) :
    Calls Tryz.prog 72 #[.int .i64 day] w fun e w' => e = .returned (.string ⟨(fmtL day).toArray⟩) ∧ Below w.heap.size w w' := by
  cases hv : vday day with
  | false =>
    have HV := hide hv
    have HD := hide (fmt_no hv)
    clear hv
    go_enter Tryz.func72, Tryz.ntmps72
    go_wp2_with fail
    refine (rvalid_any day _).mono ?_
    rintro e w1 ⟨rfl, rfl⟩
    rw [HV.out]
    go_wp2_with fail
    go_ret
    exact ⟨by rw [HD.out]; rfl, by (repeat (first | (with_reducible first | exact Below.refl _ _ | assumption | refine Below.drew ?_) | ((with_reducible first | refine Below.alloc ?_ ?_ _ | refine Below.setCell ?_ ?_ _); rotate_left; (first | omega | (simp <;> omega)))))⟩
  | true =>
    obtain ⟨y1, y2, m1, m2, d1, d2'⟩ := civ_bd hv
    have ml := mlen_bd (cY day) m1 m2
    obtain ⟨Y, hY⟩ : ∃ Y : Nat, cY day = Y := ⟨(cY day).toNat, by omega⟩
    obtain ⟨M, hM⟩ : ∃ M : Nat, cM day = M := ⟨(cM day).toNat, by omega⟩
    obtain ⟨D, hD⟩ : ∃ D : Nat, cD day = D := ⟨(cD day).toNat, by omega⟩
    have HV := hide hv
    have HF := hide (fmt_cat hv hY hM hD)
    have HY := hide (And.intro hY (And.intro hM hD))
    have hY2 : Y ≤ 100000 := by omega
    have hM2 : M ≤ 100000 := by omega
    have hD2 : D ≤ 100000 := by omega
    clear hv hY hM hD y1 y2 m1 m2 d1 d2' ml
    have l1 : (d4 Y).length = 4 := rfl
    have l2 : (d2 M).length = 2 := rfl
    have l3 : (d2 D).length = 2 := rfl
    go_enter Tryz.func72, Tryz.ntmps72
    go_wp2_with fail
    refine (rvalid_any day _).mono ?_
    rintro e w1 ⟨rfl, rfl⟩
    rw [HV.out]
    go_wp2_with fail
    refine (rcivil_any day _).mono ?_
    rintro e w1 ⟨rfl, hb1⟩
    rw [HY.out.1, HY.out.2.1, HY.out.2.2]
    go_wp2_with fail
    refine (digits_any Y 4 hY2 (by omega) _).mono ?_
    rintro e w2 ⟨rfl, rfl⟩
    rw [dgs_4]
    go_wp2_with fail
    refine (digits_any M 2 hM2 (by omega) _).mono ?_
    rintro e w2 ⟨rfl, rfl⟩
    rw [dgs_2]
    go_wp2_with fail
    refine (digits_any D 2 hD2 (by omega) _).mono ?_
    rintro e w2 ⟨rfl, rfl⟩
    rw [dgs_2]
    go_wp2_with fail
    go_ret
    exact ⟨by rw [← HF.out]; rfl, hb1⟩
end Go.Proofs.YtdjlaiilngechaaGreatDoor
namespace Go.Proofs.YtdjlaiilngechaaGreatDoor
set_option maxRecDepth 4000
set_option linter.unusedSimpArgs false
set_option linter.unusedVariables false
open Go.RowKit
theorem bext (l : List UInt8) (i j : Nat) : (⟨l.toArray⟩ : ByteArray).extract i j = ⟨((l.drop i).take (j - i)).toArray⟩ := by
  apply ByteArray.ext
  simp
theorem fin_point (sg l m : List UInt8) (q D k : Nat) (hq : l.length = q) (hm : m.length = D) (hk : k = q + D) (x : List UInt8) (hx : x = l ++ m) :
    (((⟨sg.toArray⟩ : ByteArray) ++ (⟨x.toArray⟩ : ByteArray).extract 0 q) ++ (⟨#[46]⟩ : ByteArray)) ++ (⟨x.toArray⟩ : ByteArray).extract q k = ⟨(sg ++ (l ++ 46 :: m)).toArray⟩ := by
  subst hx hk hq hm
  have e : (⟨#[46]⟩ : ByteArray) = ⟨[46].toArray⟩ := rfl
  rw [bext, bext, e, bcat, bcat, bcat]
  simp
theorem fin_frac (sg l x m : List UInt8) (n : Nat) (hx : x.drop 1 = m) (hn : n = x.length) :
    (((⟨sg.toArray⟩ : ByteArray) ++ (⟨l.toArray⟩ : ByteArray)) ++ (⟨#[46]⟩ : ByteArray)) ++ (⟨x.toArray⟩ : ByteArray).extract 1 n = ⟨(sg ++ (l ++ 46 :: m)).toArray⟩ := by
  subst hx hn
  have e : (⟨#[46]⟩ : ByteArray) = ⟨[46].toArray⟩ := rfl
  rw [bext, e, bcat, bcat, bcat]
  have : (List.drop 1 x).take (x.length - 1) = List.drop 1 x := List.take_of_length_le (by simp)
  rw [this]; simp
theorem quo_id {a p u : Nat} (h : u = a / p) (ha : a ≤ 1000000000000) : IntKind.i64.wrap ((a : Int) / p) = u := by
  have : u ≤ a := by rw [h]; exact Nat.div_le_self _ _
  rw [← Int.natCast_ediv, ← h, i64w]; unfold wrap64; omega
theorem tmod_id {a p v : Nat} (h : v = a % p) : (a : Int).tmod p = v := by rw [h]; exact (Int.ofNat_tmod a p).symm
def vmB (n : Int) : Bool := decide (-1000000000000 ≤ n ∧ n ≤ 1000000000000)
def plB (d : Int) : Bool := decide (0 ≤ d ∧ d ≤ 4)
theorem mnB_eq (n d : Int) : mnB n d = (vmB n && plB d) := by unfold mnB vmB plB; rw [← Bool.decide_and]; exact decide_eq_decide.2 ⟨fun ⟨a, b, c, d⟩ => ⟨⟨a, b⟩, c, d⟩, fun ⟨⟨a, b⟩, c, d⟩ => ⟨a, b, c, d⟩⟩
theorem vmB_iff {n : Int} : vmB n = true ↔ -1000000000000 ≤ n ∧ n ≤ 1000000000000 := by unfold vmB; simp
theorem plB_iff {d : Int} : plB d = true ↔ 0 ≤ d ∧ d ≤ 4 := by unfold plB; simp
theorem mvalid_any (n : Int) (w : World) :
    Calls Tryz.prog 102 #[.int .i64 n] w fun e w' => e = .returned (.bool (vmB n)) ∧ w = w' := by
  by_cases h1 : -1000000000000 ≤ n
  · by_cases h2 : n ≤ 1000000000000
    · have HD := hide (show vmB n = true from by unfold vmB; simp [h1, h2])
      go_enter Tryz.func102, Tryz.ntmps102
      go_wp2_with fail
      go_ret
      exact ⟨by rw [HD.out]; rfl, rfl⟩
    · have HD := hide (show vmB n = false from by unfold vmB; simp; omega)
      go_enter Tryz.func102, Tryz.ntmps102
      go_wp2_with fail
      go_ret
      exact ⟨by rw [HD.out]; rfl, rfl⟩
  · have HD := hide (show vmB n = false from by unfold vmB; simp; omega)
    go_enter Tryz.func102, Tryz.ntmps102
    go_wp2_with fail
    go_ret
    exact ⟨by rw [HD.out]; rfl, rfl⟩
theorem mplaces_any (n : Int) (w : World) :
    Calls Tryz.prog 105 #[.int .i64 n] w fun e w' => e = .returned (.bool (plB n)) ∧ w = w' := by
  by_cases h1 : 0 ≤ n
  · by_cases h2 : n ≤ 4
    · have HD := hide (show plB n = true from by unfold plB; simp [h1, h2])
      go_enter Tryz.func105, Tryz.ntmps105
      go_wp2_with fail
      go_ret
      exact ⟨by rw [HD.out]; rfl, rfl⟩
    · have HD := hide (show plB n = false from by unfold plB; simp; omega)
      go_enter Tryz.func105, Tryz.ntmps105
      go_wp2_with fail
      go_ret
      exact ⟨by rw [HD.out]; rfl, rfl⟩
  · have HD := hide (show plB n = false from by unfold plB; simp; omega)
    go_enter Tryz.func105, Tryz.ntmps105
    go_wp2_with fail
    go_ret
    exact ⟨by rw [HD.out]; rfl, rfl⟩
theorem rmvalid_any (n : Int) (w : World) :
    Calls Tryz.prog 113 #[.int .i64 n] w fun e w' => e = .returned (.bool (vmB n)) ∧ w = w' := by
  by_cases h1 : -1000000000000 ≤ n
  · by_cases h2 : n ≤ 1000000000000
    · have HD := hide (show vmB n = true from by unfold vmB; simp [h1, h2])
      go_enter Tryz.func113, Tryz.ntmps113
      go_wp2_with fail
      go_ret
      exact ⟨by rw [HD.out]; rfl, rfl⟩
    · have HD := hide (show vmB n = false from by unfold vmB; simp; omega)
      go_enter Tryz.func113, Tryz.ntmps113
      go_wp2_with fail
      go_ret
      exact ⟨by rw [HD.out]; rfl, rfl⟩
  · have HD := hide (show vmB n = false from by unfold vmB; simp; omega)
    go_enter Tryz.func113, Tryz.ntmps113
    go_wp2_with fail
    go_ret
    exact ⟨by rw [HD.out]; rfl, rfl⟩
def DcI (n : Nat) (w : World) (v0 v3 : Value) (wr : World) : Prop := ∃ (q : Nat) (l : List UInt8), q ≤ n ∧ v0 = .int .i64 q ∧ v3 = .string ⟨l.toArray⟩ ∧ Lib.decDigits n = Lib.decDigits q ++ l ∧ w = wr
set_option maxHeartbeats 1000000 in
theorem rdigits_any (n : Nat) (h : n < 9223372036854775808) (w : World) :
    Calls Tryz.prog 115 #[.int .i64 n] w fun e w' => e = .returned (.string ⟨(Lib.decDigits n).toArray⟩) ∧ w = w' := by
  go_enter Tryz.func115, Tryz.ntmps115
  go_wp2_with fail
  go_loopw [0, 3] (fun v0 v3 wr => DcI n w v0 v3 wr) (fun v0 _ _ => (intOf v0).toNat)
  case atStart => exact ⟨n, [], Nat.le_refl _, rfl, rfl, by simp, rfl⟩
  case round =>
    obtain ⟨q, l, hqn, rfl, rfl, hd, rfl⟩ := hrel
    have hl : l.length ≤ 20 := by have h1 := congrArg List.length hd; rw [List.length_append, Lib.decDigits_length, Lib.decDigits_length] at h1; have := Lib.nDigits_le20 n (by omega); omega
    have HD := hide hd
    clear hd
    by_cases hq : q < 10
    · have hq1 : ¬ (9 : Int) < q := by omega
      have hq2 : (q : Int) < 10 := by omega
      have HC := hide (show ((⟨#[48, 49, 50, 51, 52, 53, 54, 55, 56, 57]⟩ : ByteArray).extract q (q + 1)) ++ (⟨l.toArray⟩ : ByteArray) = ⟨(Lib.decDigits n).toArray⟩ by rw [dig_cons hq, HD.out, dec_one hq]; unfold dgt; rw [Nat.mod_eq_of_lt hq]; rfl)
      go_wp2_with fail
      all_goals first
        | (exfalso; omega)
        | (go_ret
           exact ⟨by rw [← HC.out]; rfl, rfl⟩)
    · have hq1 : (9 : Int) < q := by omega
      have hq10 : q % 10 < 10 := Nat.mod_lt _ (by decide)
      have HC := hide (dig_cons hq10 l)
      have HN := hide (show Lib.decDigits n = Lib.decDigits (q / 10) ++ (UInt8.ofNat (48 + q % 10) :: l) by rw [HD.out, dec_step hq, List.append_assoc]; rfl)
      clear hq
      go_wp2_with fail
      all_goals first
        | (exfalso; omega)
        | (go_roundw
           case rel => exact ⟨q / 10, UInt8.ofNat (48 + q % 10) :: l, by omega, by go_num, by rw [HC.out], HN.out, rfl⟩
           case measure => simp [intOf]; omega)
theorem pow_le4 : ∀ {i : Nat}, i ≤ 4 → 10 ^ i ≤ 10000 := fun {i} h => Nat.pow_le_pow_right (n := 10) (by decide) h
def PwI (d : Nat) (w : World) (v3 v4 : Value) (wr : World) : Prop := ∃ i : Nat, i ≤ d ∧ v3 = .int .i64 (10 ^ i : Nat) ∧ v4 = .int .i64 i ∧ w = wr
theorem power_any (d : Nat) (h : d ≤ 4) (w : World) :
    Calls Tryz.prog 114 #[.int .i64 d] w fun e w' => e = .returned (.int .i64 (10 ^ d : Nat)) ∧ w = w' := by
  go_enter Tryz.func114, Tryz.ntmps114
  go_wp2_with fail
  go_loopw [3, 4] (fun v3 v4 wr => PwI d w v3 v4 wr) (fun _ v _ => d - (intOf v).toNat)
  case atStart => exact ⟨0, by omega, rfl, rfl, rfl⟩
  case round =>
    obtain ⟨i, hi, rfl, rfl, rfl⟩ := hrel
    obtain ⟨p, hp⟩ : ∃ p, p = 10 ^ i := ⟨_, rfl⟩
    have hp4 : p ≤ 10000 := by rw [hp]; exact pow_le4 (by omega)
    have HP := hide hp
    rw [← hp]
    clear hp
    by_cases hlt : i < d
    · have hm : (i : Int) < d := by omega
      go_wp2_with fail
      go_roundw
      case rel => exact ⟨i + 1, by omega, by have := HP.out; rw [Nat.pow_succ, ← this]; go_num, by go_num, rfl⟩
      case measure => simp [intOf]; omega
    · obtain rfl : i = d := by omega
      go_wp2_with fail
      go_ret
      exact ⟨by rw [HP.out]; rfl, rfl⟩
theorem mnL_neg {a D : Nat} (h : 0 < a) : mnL (-(a : Int)) D = [45] ++ (wholeL a D ++ (if D = 0 then [] else 46 :: dgs a D)) := by
  unfold mnL; rw [if_pos (by omega), Int.natAbs_neg, Int.natAbs_natCast, List.append_assoc]
theorem mnL_pos (a D : Nat) : mnL (a : Int) D = [] ++ (wholeL a D ++ (if D = 0 then [] else 46 :: dgs a D)) := by
  unfold mnL; rw [if_neg (by omega), Int.natAbs_natCast, List.append_assoc]
def FmI (a D : Nat) (W : World) (v : Value) (wr : World) : Prop := ∃ k, Lib.nDigits a ≤ k ∧ k ≤ 20 ∧ (k = Lib.nDigits a ∨ k ≤ D + 1) ∧ v = .string ⟨(dgs a k).toArray⟩ ∧ W = wr
end Go.Proofs.YtdjlaiilngechaaGreatDoor
