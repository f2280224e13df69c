/- Texts laid together: Tab DfE MnE ExI TpR. -/
import Derived.Test.YtpghciiifnjimaaGreatDoorXTpL
import Derived.Test.YtpghciiifnjimaaGreatDoorXDaM
import Derived.Test.YtpghciiifnjimaaGreatDoorXNum
import Derived.Test.YtpghciiifnjimaaGreatDoorXRowM
import Derived.Lib.AppendIntMem
import Derived.Lib.ItoaLen
import Derived.Lib.ItoaMem
import Derived.Laws.IdiomStrings
import Derived.Test.YtpghciiifnjimaaGreatDoorXK0
namespace Go.Proofs.YtpghciiifnjimaaGreatDoor
set_option maxRecDepth 4000
set_option linter.unusedSimpArgs false
set_option linter.unusedVariables false
open Go.RowKit
/-- The library's table of powers of ten lies in its variable. -/
def Tab (w : World) : Prop := Lib.TabIs Tryz.prog w "internal/strconv.uint64pow10" .u64 Lib.pow10Tab
theorem Tab.below {w w' : World} (h : Tab w) (hb : Below w.heap.size w w') : Tab w' := by
  unfold Tab Lib.TabIs World.var? at *
  cases hg : Program.globalNamed Tryz.prog "internal/strconv.uint64pow10" with
  | none => simp [hg] at h
  | some g =>
    simp only [hg, Option.bind_some] at h ⊢
    have hlt : g < w.heap.size := by
      rcases Nat.lt_or_ge g w.heap.size with h' | h'
      · exact h'
      · rw [Array.getElem?_eq_none h'] at h; simp at h
    rw [hb.block g hlt]
    exact h
theorem itoa_any (n : Int) (i1 : -9223372036854775808 ≤ n) (i2 : n ≤ 9223372036854775807) (w : World) (ht : Tab w) :
    Calls Tryz.prog 106 #[.int .i64 n] w fun e w' => e = .returned (.string ⟨(Lib.itoa n).toArray⟩) ∧ Below w.heap.size w w' := by
  refine (Tryz.strconv_Itoa n i1 i2 w ht).mono ?_
  rintro e w1 ⟨rfl, k, os, rfl⟩
  exact ⟨rfl, Lib.below_grow _ w (Nat.le_refl _) k os⟩
end Go.Proofs.YtpghciiifnjimaaGreatDoor
namespace Go.Proofs.YtpghciiifnjimaaGreatDoor
set_option maxRecDepth 4000
set_option linter.unusedSimpArgs false
set_option linter.unusedVariables false
open Go.RowKit
theorem civ_bd {day : Int} (h : vday day = true) : 2000 ≤ cY day ∧ cY day ≤ 2199 ∧ 1 ≤ cM day ∧ cM day ≤ 12 ∧ 1 ≤ cD day ∧ cD day ≤ mlen (cY day) (cM day) := by
  obtain ⟨a, b, c, d, e, f, _⟩ := civ_is h
  exact ⟨a, b, c, d, e, f⟩
/-- The text of a day. -/
noncomputable def fmtL (day : Int) : List UInt8 := if vday day then d4 (cY day).toNat ++ [45] ++ d2 (cM day).toNat ++ [45] ++ d2 (cD day).toNat else []
theorem fmt_no {day : Int} (h : vday day = false) : fmtL day = [] := by unfold fmtL; rw [h]; rfl
theorem fmt_yes {day : Int} (h : vday day = true) : fmtL day = d4 (cY day).toNat ++ [45] ++ d2 (cM day).toNat ++ [45] ++ d2 (cD day).toNat := if_pos h
theorem two_any (n : Nat) (h : n < 100) (w : World) (ht : Tab w) :
    Calls Tryz.prog 163 #[.int .i64 n] w fun e w' => e = .returned (.string ⟨(d2 n).toArray⟩) ∧ Below w.heap.size w w' := by
  by_cases h1 : n < 10
  · have hn : (n : Int) < 10 := by omega
    have HD : Hid ((⟨#[48]⟩ : ByteArray) ++ (⟨(Lib.itoa n).toArray⟩ : ByteArray) = ⟨(d2 n).toArray⟩) := hide (by rw [← itoa_1 h1]; exact bcat [48] _)
    have hl : (Lib.itoa n).length ≤ 20 := by have := congrArg List.length (itoa_1 h1); simp [d2] at this; omega
    go_enter Tryz.func163, Tryz.ntmps163
    go_wp2_with fail
    refine (itoa_any n (by omega) (by omega) _ ht).mono ?_
    rintro e w1 ⟨rfl, hb⟩
    go_wp2_with fail
    all_goals first
      | (go_ret; exact ⟨by rw [← HD.out]; rfl, hb⟩)
      | (exfalso; simp [ByteArray.size] at *; omega)
  · have hn : ¬ (n : Int) < 10 := by omega
    have HD := hide (itoa_2 (n := n) (by omega) h)
    go_enter Tryz.func163, Tryz.ntmps163
    go_wp2_with fail
    refine (itoa_any n (by omega) (by omega) _ ht).mono ?_
    rintro e w1 ⟨rfl, hb⟩
    go_wp2_with fail
    go_ret
    exact ⟨by rw [← HD.out]; rfl, hb⟩
theorem fmt_cat {day : Int} {Y M D : Nat} (h : vday day = true) (hY : cY day = Y) (hM : cM day = M) (hD : cD day = D) :
    ((((⟨(d4 Y).toArray⟩ : ByteArray) ++ (⟨#[45]⟩ : ByteArray)) ++ (⟨(d2 M).toArray⟩ : ByteArray)) ++ (⟨#[45]⟩ : ByteArray)) ++ (⟨(d2 D).toArray⟩ : ByteArray) = ⟨(fmtL day).toArray⟩ := by
  have e : (⟨#[45]⟩ : ByteArray) = ⟨[45].toArray⟩ := rfl
  rw [e, bcat, bcat, bcat, bcat, fmt_yes h, hY, hM, hD]
  rfl
set_option maxHeartbeats 1000000 in
theorem format_any (day : Int) (w : World) (ht : Tab w) :
    Calls Tryz.prog 107 #[.int .i64 day] w fun e w' => e = .returned (.string ⟨(fmtL day).toArray⟩) ∧ Below w.heap.size w w' := by
  cases hv : vday day with
  | false =>
    have HV := hide hv
    have HD := hide (fmt_no hv)
    clear hv
    go_enter Tryz.func107, Tryz.ntmps107
    go_wp2_with fail
    refine (valid_any day _).mono ?_
    rintro e w1 ⟨rfl, rfl⟩
    rw [HV.out]
    go_wp2_with fail
    go_ret
    exact ⟨by rw [HD.out]; rfl, by (repeat (first | (with_reducible first | exact Below.refl _ _ | assumption | refine Below.drew ?_) | ((with_reducible first | refine Below.alloc ?_ ?_ _ | refine Below.setCell ?_ ?_ _); rotate_left; (first | omega | (simp <;> omega)))))⟩
  | true =>
    obtain ⟨y1, y2, m1, m2, d1, d2'⟩ := civ_bd hv
    have ml := mlen_bd (cY day) m1 m2
    obtain ⟨Y, hY⟩ : ∃ Y : Nat, cY day = Y := ⟨(cY day).toNat, by omega⟩
    obtain ⟨M, hM⟩ : ∃ M : Nat, cM day = M := ⟨(cM day).toNat, by omega⟩
    obtain ⟨D, hD⟩ : ∃ D : Nat, cD day = D := ⟨(cD day).toNat, by omega⟩
    have HV := hide hv
    have HF := hide (fmt_cat hv hY hM hD)
    have HI := hide (itoa_4 (n := Y) (by omega) (by omega))
    have HY := hide (And.intro hY (And.intro hM hD))
    have hY2 : Y < 10000 := by omega
    have hM2 : M < 100 := by omega
    have hD2 : D < 100 := by omega
    clear hv hY hM hD y1 y2 m1 m2 d1 d2' ml
    have l1 : (d4 Y).length = 4 := rfl
    have l2 : (d2 M).length = 2 := rfl
    have l3 : (d2 D).length = 2 := rfl
    go_enter Tryz.func107, Tryz.ntmps107
    go_wp2_with fail
    refine (valid_any day _).mono ?_
    rintro e w1 ⟨rfl, rfl⟩
    rw [HV.out]
    go_wp2_with fail
    refine (civil_any day _).mono ?_
    rintro e w1 ⟨rfl, hb1⟩
    rw [HY.out.1, HY.out.2.1, HY.out.2.2]
    go_wp2_with fail
    refine (itoa_any Y (by omega) (by omega) _ (ht.below hb1)).mono ?_
    rintro e w2 ⟨rfl, hb2⟩
    rw [HI.out]
    have hb12 := hb1.trans (hb2.mono hb1.size)
    go_wp2_with fail
    refine (two_any M hM2 _ (ht.below hb12)).mono ?_
    rintro e w3 ⟨rfl, hb3⟩
    have hb13 := hb12.trans (hb3.mono hb12.size)
    go_wp2_with fail
    refine (two_any D hD2 _ (ht.below hb13)).mono ?_
    rintro e w4 ⟨rfl, hb4⟩
    have hb14 := hb13.trans (hb4.mono hb13.size)
    go_wp2_with fail
    go_ret
    exact ⟨by rw [← HF.out]; rfl, hb14⟩
end Go.Proofs.YtpghciiifnjimaaGreatDoor
namespace Go.Proofs.YtpghciiifnjimaaGreatDoor
set_option maxRecDepth 4000
set_option linter.unusedSimpArgs false
set_option linter.unusedVariables false
open Go.RowKit
theorem bext (l : List UInt8) (i j : Nat) : (⟨l.toArray⟩ : ByteArray).extract i j = ⟨((l.drop i).take (j - i)).toArray⟩ := by
  apply ByteArray.ext
  simp
theorem fin_point (sg l m : List UInt8) (q D k : Nat) (hq : l.length = q) (hm : m.length = D) (hk : k = q + D) (x : List UInt8) (hx : x = l ++ m) :
    (((⟨sg.toArray⟩ : ByteArray) ++ (⟨x.toArray⟩ : ByteArray).extract 0 q) ++ (⟨#[46]⟩ : ByteArray)) ++ (⟨x.toArray⟩ : ByteArray).extract q k = ⟨(sg ++ (l ++ 46 :: m)).toArray⟩ := by
  subst hx hk hq hm
  have e : (⟨#[46]⟩ : ByteArray) = ⟨[46].toArray⟩ := rfl
  rw [bext, bext, e, bcat, bcat, bcat]
  simp
def vmB (n : Int) : Bool := decide (-1000000000000 ≤ n ∧ n ≤ 1000000000000)
def plB (d : Int) : Bool := decide (0 ≤ d ∧ d ≤ 4)
theorem mnB_eq (n d : Int) : mnB n d = (vmB n && plB d) := by unfold mnB vmB plB; rw [← Bool.decide_and]; exact decide_eq_decide.2 ⟨fun ⟨a, b, c, d⟩ => ⟨⟨a, b⟩, c, d⟩, fun ⟨⟨a, b⟩, c, d⟩ => ⟨a, b, c, d⟩⟩
theorem vmB_iff {n : Int} : vmB n = true ↔ -1000000000000 ≤ n ∧ n ≤ 1000000000000 := by unfold vmB; simp
theorem plB_iff {d : Int} : plB d = true ↔ 0 ≤ d ∧ d ≤ 4 := by unfold plB; simp
theorem mvalid_any (n : Int) (w : World) :
    Calls Tryz.prog 160 #[.int .i64 n] w fun e w' => e = .returned (.bool (vmB n)) ∧ w = w' := by
  by_cases h1 : -1000000000000 ≤ n
  · by_cases h2 : n ≤ 1000000000000
    · have HD := hide (show vmB n = true from by unfold vmB; simp [h1, h2])
      go_enter Tryz.func160, Tryz.ntmps160
      go_wp2_with fail
      go_ret
      exact ⟨by rw [HD.out]; rfl, rfl⟩
    · have HD := hide (show vmB n = false from by unfold vmB; simp; omega)
      go_enter Tryz.func160, Tryz.ntmps160
      go_wp2_with fail
      go_ret
      exact ⟨by rw [HD.out]; rfl, rfl⟩
  · have HD := hide (show vmB n = false from by unfold vmB; simp; omega)
    go_enter Tryz.func160, Tryz.ntmps160
    go_wp2_with fail
    go_ret
    exact ⟨by rw [HD.out]; rfl, rfl⟩
theorem mplaces_any (n : Int) (w : World) :
    Calls Tryz.prog 161 #[.int .i64 n] w fun e w' => e = .returned (.bool (plB n)) ∧ w = w' := by
  by_cases h1 : 0 ≤ n
  · by_cases h2 : n ≤ 4
    · have HD := hide (show plB n = true from by unfold plB; simp [h1, h2])
      go_enter Tryz.func161, Tryz.ntmps161
      go_wp2_with fail
      go_ret
      exact ⟨by rw [HD.out]; rfl, rfl⟩
    · have HD := hide (show plB n = false from by unfold plB; simp; omega)
      go_enter Tryz.func161, Tryz.ntmps161
      go_wp2_with fail
      go_ret
      exact ⟨by rw [HD.out]; rfl, rfl⟩
  · have HD := hide (show plB n = false from by unfold plB; simp; omega)
    go_enter Tryz.func161, Tryz.ntmps161
    go_wp2_with fail
    go_ret
    exact ⟨by rw [HD.out]; rfl, rfl⟩
theorem mnL_neg {a D : Nat} (h : 0 < a) : mnL (-(a : Int)) D = [45] ++ (wholeL a D ++ (if D = 0 then [] else 46 :: dgs a D)) := by
  unfold mnL; rw [if_pos (by omega), Int.natAbs_neg, Int.natAbs_natCast, List.append_assoc]
theorem mnL_pos (a D : Nat) : mnL (a : Int) D = [] ++ (wholeL a D ++ (if D = 0 then [] else 46 :: dgs a D)) := by
  unfold mnL; rw [if_neg (by omega), Int.natAbs_natCast, List.append_assoc]
def FmI (a D : Nat) (W : World) (v : Value) (wr : World) : Prop := ∃ k, Lib.nDigits a ≤ k ∧ k ≤ 20 ∧ (k = Lib.nDigits a ∨ k ≤ D + 1) ∧ v = .string ⟨(dgs a k).toArray⟩ ∧ W = wr
end Go.Proofs.YtpghciiifnjimaaGreatDoor
namespace Go.Proofs.YtpghciiifnjimaaGreatDoor
set_option maxRecDepth 4000
set_option linter.unusedSimpArgs false
set_option linter.unusedVariables false
open Go.RowKit
def emptyOf : Value → Nat | .string s => if s.size = 0 then 1 else 0 | _ => 0
def NatInv (N : Nat) (w : World) (v0 v3 : Value) (wr : World) : Prop :=
  ∃ (m : Nat) (l : List UInt8), v0 = .int .u64 m ∧ v3 = .string ⟨l.toArray⟩ ∧ m ≤ N ∧ ((l = [] ∧ m = N) ∨ (l ≠ [] ∧ (if m = 0 then l else Lib.decDigits m ++ l) = Lib.decDigits N)) ∧ Below w.heap.size w wr
/-- One round of the reference's loop. -/
theorem nat_step {N m : Nat} {l : List UInt8} (hl : (l = [] ∧ m = N) ∨ (l ≠ [] ∧ 0 < m ∧ (if m = 0 then l else Lib.decDigits m ++ l) = Lib.decDigits N)) :
    (if m / 10 = 0 then UInt8.ofNat (48 + m % 10) :: l else Lib.decDigits (m / 10) ++ (UInt8.ofNat (48 + m % 10) :: l)) = Lib.decDigits N := by
  have key : (if m / 10 = 0 then UInt8.ofNat (48 + m % 10) :: l else Lib.decDigits (m / 10) ++ (UInt8.ofNat (48 + m % 10) :: l)) = Lib.decDigits m ++ l := by
    by_cases h : m < 10
    · rw [if_pos (by omega), Lib.decDigits, dif_pos h, Nat.mod_eq_of_lt h]; rfl
    · rw [if_neg (by omega)]
      conv => rhs; rw [Lib.decDigits, dif_neg h]
      simp
  rw [key]
  rcases hl with ⟨rfl, rfl⟩ | ⟨_, hm, he⟩
  · simp
  · rwa [if_neg (by omega)] at he
theorem nat_len {N m : Nat} {l : List UInt8} (hN : N < 18446744073709551616) (hl : (l = [] ∧ m = N) ∨ (l ≠ [] ∧ (if m = 0 then l else Lib.decDigits m ++ l) = Lib.decDigits N)) : l.length ≤ 20 := by
  have h20 := Lib.nDigits_le20 N (by omega)
  rw [← Lib.decDigits_length] at h20
  rcases hl with ⟨rfl, _⟩ | ⟨_, he⟩
  · simp
  · rw [← he] at h20
    split at h20
    · exact h20
    · rw [List.length_append] at h20; omega
theorem emptyOf_cons (x : UInt8) (l : List UInt8) : emptyOf (.string ⟨(x :: l).toArray⟩) = 0 := by
  unfold emptyOf
  simp [ByteArray.size]
theorem natural_any (N : Nat) (hN : N < 18446744073709551616) (w : World) :
    Calls Tryz.prog 278 #[.int .u64 N] w fun e w' => e = .returned (.string ⟨(Lib.decDigits N).toArray⟩) ∧ Below w.heap.size w w' := by
  go_enter Tryz.func278, Tryz.ntmps278
  go_wp2_with fail
  go_loopw [0, 3] (fun v0 v3 wr => NatInv N w v0 v3 wr) (fun v0 v3 _ => (intOf v0).toNat + emptyOf v3)
  case atStart => exact ⟨N, [], rfl, rfl, Nat.le_refl _, .inl ⟨rfl, rfl⟩, by (repeat (first | (with_reducible first | exact Below.refl _ _ | assumption | refine Below.drew ?_) | ((with_reducible first | refine Below.alloc ?_ ?_ _ | refine Below.setCell ?_ ?_ _); rotate_left; (first | omega | (simp <;> omega)))))⟩
  case round =>
    obtain ⟨m, l, rfl, rfl, hm, hl, hB⟩ := hrel
    have hlen := nat_len hN hl
    have hm10 : m % 10 < 10 := Nat.mod_lt _ (by decide)
    have HD := hide (dig_cons hm10 l)
    have HL := hide hl
    clear hl
    by_cases hl0 : l = []
    · subst hl0
      obtain rfl : m = N := by
        rcases HL.out with ⟨_, h⟩ | ⟨h, _⟩
        · exact h
        · exact absurd rfl h
      have HS := hide (nat_step (N := m) (m := m) (l := []) (.inl ⟨rfl, rfl⟩))
      go_wp2_with fail
      all_goals first
        | (exfalso; omega)
        | (go_roundw
           case rel => exact ⟨m / 10, [UInt8.ofNat (48 + m % 10)], by simp, by rw [HD.out], by omega, .inr ⟨by simp, HS.out⟩, hB⟩
           case measure => rw [HD.out, emptyOf_cons]; show ((m : Int) / 10).toNat + 0 < (m : Int).toNat + 1; omega)
    · have hie : l.isEmpty = false := by simpa using hl0
      by_cases hm0 : 0 < m
      · have HS := hide (nat_step (l := l) (by
          rcases HL.out with h | ⟨h1, h2⟩
          · exact .inl h
          · exact .inr ⟨h1, hm0, h2⟩))
        go_wp2_with fail
        all_goals first
          | (exfalso; omega)
          | (go_roundw
             case rel => exact ⟨m / 10, UInt8.ofNat (48 + m % 10) :: l, by simp, by rw [HD.out], by omega, .inr ⟨by simp, HS.out⟩, hB⟩
             case measure => rw [HD.out, emptyOf_cons]; show ((m : Int) / 10).toNat + 0 < (m : Int).toNat + _; omega)
      · have HE : Hid (l = Lib.decDigits N) := by
          rcases HL.out with ⟨h, _⟩ | ⟨_, h⟩
          · exact absurd h hl0
          · rwa [if_pos (by omega)] at h
        obtain rfl : m = 0 := by omega
        go_wp2_with fail
        go_ret
        exact ⟨by rw [← HE.out]; rfl, hB⟩
theorem minus_cons (l : List UInt8) : (⟨#[45]⟩ : ByteArray) ++ (⟨l.toArray⟩ : ByteArray) = ⟨(45 :: l).toArray⟩ := by
  apply ByteArray.ext
  rw [ByteArray.data_append]
  simp
theorem rint_any (n : Int) (h1 : -9223372036854775808 ≤ n) (h2 : n ≤ 9223372036854775807) (w : World) :
    Calls Tryz.prog 248 #[.int .i64 n] w fun e w' => e = .returned (.string ⟨(Lib.itoa n).toArray⟩) ∧ Below w.heap.size w w' := by
  by_cases h : 0 ≤ n
  · obtain ⟨N, rfl⟩ : ∃ N : Nat, n = N := ⟨n.toNat, by omega⟩
    have HI := hide (Lib.itoa_nonneg N)
    go_enter Tryz.func248, Tryz.ntmps248
    go_wp2_with fail
    refine (natural_any N (by omega) _).mono ?_
    rintro e w1 ⟨rfl, hb⟩
    go_wp2_with fail
    go_ret
    exact ⟨by rw [HI.out]; rfl, hb⟩
  · obtain ⟨N, rfl⟩ : ∃ N : Nat, n = -(N : Int) := ⟨n.natAbs, by omega⟩
    have HI := hide (Lib.itoa_neg N (by omega))
    have HV := hide (show IntKind.u64.wrap (bits BinOp.xor IntKind.u64 IntKind.u64.max (IntKind.u64.wrap (-(N : Int))) + 1) = N from by
      rw [wrapU (-(N : Int)), xor_maxU _ (by omega) (by omega), wrapU]; unfold notU; omega)
    have HM := hide (minus_cons (Lib.decDigits N))
    have h20 := Lib.nDigits_le20 N (by omega)
    rw [← Lib.decDigits_length] at h20
    go_enter Tryz.func248, Tryz.ntmps248
    go_wp2_with fail
    rw [HV.out]
    refine (natural_any N (by omega) _).mono ?_
    rintro e w1 ⟨rfl, hb⟩
    go_wp2_with fail
    all_goals first
      | (exfalso; omega)
      | (go_ret; exact ⟨by rw [HI.out, ← HM.out]; rfl, hb⟩)
end Go.Proofs.YtpghciiifnjimaaGreatDoor
namespace Go.Proofs.YtpghciiifnjimaaGreatDoor
set_option maxRecDepth 4000
set_option linter.unusedSimpArgs false
set_option linter.unusedVariables false
open Go.RowKit
/-- A row of texts of at most L bytes. -/
def TRow (w : World) (A : Option Addr) (n L : Nat) : Prop := ((A = none ∧ n = 0) ∨ ∃ b off, A = some ⟨b, off, none⟩) ∧ ∃ S : Nat → ByteArray, (∀ k, k < n → (S k).size ≤ L) ∧ RowS w A n 1 (fun k _ => .string (S k))
theorem TRow.below {w w' : World} {A : Option Addr} {n L : Nat} (h : TRow w A n L) (hb : Below w.heap.size w w') : TRow w' A n L := by
  obtain ⟨hA, S, hS, h⟩ := h
  exact ⟨hA, S, hS, h.below hb⟩
theorem TRow.at {w : World} {A : Option Addr} {n k L : Nat} (h : TRow w A n L) (hk : k < n) : ∃ b off s, A = some ⟨b, off, none⟩ ∧ b < w.heap.size ∧ s.size ≤ L ∧ w.cell? ⟨b, off + k, none⟩ = some (.string s) := by
  obtain ⟨_, S, hS, h⟩ := h
  obtain ⟨b, off, e, hb, hc⟩ := h (by omega)
  exact ⟨b, off, S k, e, hb, hS k hk, by have := hc k 0 hk (by decide); simpa using this⟩
def TxO (L : Nat) (w : World) (e : Ending) (w' : World) : Prop := ∃ t : ByteArray, t.size ≤ L ∧ e = .returned (.string t) ∧ Below w.heap.size w w'
theorem wint7_any (n : Int) (h1 : -9223372036854775808 ≤ n) (h2 : n ≤ 9223372036854775807) (w : World) : Calls Tryz.prog 248 #[.int .i64 n] w (TxO 21 w) :=
  (rint_any n h1 h2 w).mono fun _ _ h => ⟨_, by show (Lib.itoa n).toArray.size ≤ 21; simpa using Lib.itoa_length_le n h1 h2, h.1, h.2⟩
def PkI (n L : Nat) (W : World) (v3 v4 : Value) (wr : World) : Prop := ∃ (k : Nat) (t : ByteArray), k ≤ n ∧ v4 = .int .i64 k ∧ v3 = .string t ∧ t.size ≤ k * (L + 22) ∧ Below W.heap.size W wr
set_option maxRecDepth 8000 in
set_option maxHeartbeats 4000000 in
theorem wpack_any (A : Option Addr) (n cap L : Nat) (hn : n ≤ 20) (hL : L ≤ 100000) (w : World) (hA : TRow w A n L) : Calls Tryz.prog 247 #[.slice A n cap] w (TxO (n * (L + 22)) w) := by
  have HA := hide hA
  clear hA
  go_enter Tryz.func247, Tryz.ntmps247
  go_wp2_with fail
  go_loopw [3, 4] (fun v3 v4 wr => PkI n L w v3 v4 wr) (fun _ v _ => n - (intOf v).toNat)
  case atStart => exact ⟨0, ⟨#[]⟩, by omega, rfl, rfl, by show 0 ≤ _; omega, Below.refl _ _⟩
  case round =>
    obtain ⟨k, t, hkn, rfl, rfl, ht, hb⟩ := hrel
    have H0 := hide hb
    by_cases hlt : k < n
    · have hm : (k : Int) < n := by omega
      have hk0 : (0 : Int) ≤ k := by omega
      have HLT := hide hlt
      obtain ⟨b, off, s, rfl, hbl, hsL, hc⟩ := (HA.out.below hb).at hlt
      have HT := hide ht
      have htb : t.size ≤ 20 * 100022 := Nat.le_trans ht (Nat.mul_le_mul (by omega) (by omega))
      clear hlt hkn hb ht
      go_wp2_with fail
      refine ord_start (SB (wr.heap.size) [] _) 15 (preB 0 15) (by kernel_rfl) (by kernel_rfl) (by kernel_rfl) SB.refl.drew (fun hHeld => ?_)
      refine oS (i := 0) (preB 1 14) rfl hHeld ?_
      (try simp only [Act.put, putS])
      refine oS (i := 1) (preB 2 13) rfl hHeld ?_
      (try simp only [Act.put, putS])
      refine oS (i := 2) (preB 3 12) rfl hHeld ?_
      (try simp only [Act.put, putS])
      refine oS (i := 3) (preB 4 11) rfl hHeld ?_
      (try simp only [Act.put, putS])
      refine oS (i := 4) (preB 5 10) rfl hHeld ?_
      (try simp only [Act.put, putS])
      refine oS (i := 5) (preB 6 9) rfl hHeld ?_
      (try simp only [Act.put, putS])
      refine oS (i := 9) #[true, true, true, true, true, true, false, false, false, true, false, false, false, false, false] rfl hHeld ?_
      (try simp only [Act.put, putS])
      refine oS (i := 10) #[true, true, true, true, true, true, false, false, false, true, true, false, false, false, false] rfl hHeld ?_
      (try simp only [Act.put, putS])
      refine oS (i := 11) #[true, true, true, true, true, true, false, false, false, true, true, true, false, false, false] rfl hHeld ?_
      (try simp only [Act.put, putS])
      refine oS (i := 12) #[true, true, true, true, true, true, false, false, false, true, true, true, true, false, false] rfl hHeld ?_
      (try simp only [Act.put, putS])
      refine wpAnyH_ready (rs := [6]) (by kernel_rfl) (by simp) ?_
      refine ord_run (i := 6) #[true, true, true, true, true, true, true, false, false, true, true, true, true, false, false] rfl (by kernel_rfl) (by rfl) (fun K hK => ?_) AllReadyH.nil
      go_simp
      go_wp2_with (go_at_call 248; refine (wint7_any _ (by omega) (by omega) _).mono ?_; rintro r w1 ⟨t1, ht1, rfl, hb⟩; have hbS := hb; have hbC := hb.mono (show wr.heap.size ≤ _ by simp))
      refine hK.out _ _ ?_ (fun hHeld => ?_)
      · exact sbT
      clear hK K
      (try simp only [Act.put, putS])
      refine oT (i := 7) #[true, true, true, true, true, true, true, true, false, true, true, true, true, false, false] (.string (t ++ t1)) rfl hHeld (fun wx hSx => ?_) ?_
      · (unfold SB at hSx; go_simp; omega)
      (try simp only [Act.put, putS])
      refine oT (i := 8) (preB 13 2) (.string (t ++ t1 ++ ⟨#[58]⟩)) rfl hHeld (fun wx hSx => ?_) ?_
      · (unfold SB at hSx; go_simp; omega)
      (try simp only [Act.put, putS])
      refine oT (i := 13) (preB 14 1) (.string (t ++ t1 ++ ⟨#[58]⟩ ++ s)) rfl hHeld (fun wx hSx => ?_) ?_
      · (unfold SB at hSx; go_simp; omega)
      (try simp only [Act.put, putS])
      refine oS (i := 14) (preB 15 0) rfl hHeld ?_
      (try simp only [Act.put, putS])
      refine wpAnyH_done (by kernel_rfl) ?_ _
      have B1 := hide (H0.out.trans ((Below.trans (by (repeat (first | (with_reducible first | exact Below.refl _ _ | assumption | refine Below.drew ?_) | ((with_reducible first | refine Below.alloc ?_ ?_ _ | refine Below.setCell ?_ ?_ _); rotate_left; (first | omega | (simp <;> omega))))) : Below wr.heap.size wr _) hbC).mono H0.out.size))
      go_wp2_with fail
      go_roundw
      case rel => exact ⟨k + 1, _, HLT.out, by go_num, rfl, by
        have h1 := HT.out
        have h2 : (k + 1) * (L + 22) = k * (L + 22) + (L + 22) := Nat.succ_mul k (L + 22)
        have h3 : (⟨#[58]⟩ : ByteArray).size = 1 := rfl
        rw [h2, ByteArray.size_append, ByteArray.size_append, ByteArray.size_append, h3]
        omega, B1.out⟩
      case measure => have := HLT.out; simp [intOf]; omega
    · obtain rfl : k = n := by omega
      clear hlt hkn
      go_wp2_with fail
      go_ret
      exact ⟨t, ht, rfl, H0.out⟩
/-- A row of bytes that a call makes. -/
def EtI (w0 : Nat) (W : World) (v0 v3 v4 : Value) (wr : World) : Prop := ∃ (k c : Nat) (h : Int) (A : Option Addr) (l : List UInt8), k ≤ 8 ∧ v4 = .int .i64 k ∧ v0 = .int .u64 h ∧ 0 ≤ h ∧ h < 18446744073709551616 ∧ v3 = .slice A k c ∧ wr.ownsRow w0 5 1 (.slice A k c) k (l.map (fun b => .int .u8 (b.toNat : Int))) ∧ Below w0 W wr
theorem byt_info : (Tryz.prog.info? 5).map (fun i => (i.zero, i.size, i.bytes)) = some (some (.int .u8 0), 1, 1) := by kernel_rfl
set_option maxRecDepth 8000 in
set_option maxHeartbeats 4000000 in
theorem weight_any8 (h : Int) (h0 : 0 ≤ h) (h1 : h < 18446744073709551616) (w : World) : Calls Tryz.prog 246 #[.int .u64 h] w (TxO 8 w) := by
  obtain ⟨i0, hi0, hz00, hz1, hz2⟩ := info_parts byt_info
  go_enter Tryz.func246, Tryz.ntmps246
  go_wp2_with fail
  go_loopw [0, 3, 4] (fun v0 v3 v4 wr => EtI w.heap.size (w.alloc (.cells #[] 5)) v0 v3 v4 wr) (fun _ _ v _ => 8 - (intOf v).toNat)
  case atStart => exact ⟨0, 0, h, some ⟨w.heap.size, 0, none⟩, [], by omega, rfl, rfl, h0, h1, rfl, own_newP rfl, Below.refl _ _⟩
  case round =>
    obtain ⟨k, c, g, A, l, hk8, rfl, rfl, g0, g1, rfl, ho, hb⟩ := hrel
    have H0 := hide hb
    have HO := hide ho
    have zH : w.heap.size + 1 ≤ wr.heap.size := by simpa using hb.size
    clear ho hb
    by_cases hlt : k < 8
    · have hm : (k : Int) < 8 := by omega
      have hk0 : (0 : Int) ≤ k := by omega
      have HLT := hide hlt
      obtain ⟨b, hb8⟩ : ∃ b : UInt8, (b.toNat : Int) = g % 256 := ⟨UInt8.ofNat (g.toNat % 256), by simp; omega⟩
      have HB8 := hide (show [Value.int .u8 (g % 256)] = [b].map (fun b => Value.int .u8 (b.toNat : Int)) from by simp [hb8])
      have HO1 := hide (show (wr.alloc (.cells #[.int .u8 (g % 256)] 5)).ownsRow w.heap.size 5 1 (.slice A k c) k (l.map (fun b => .int .u8 (b.toNat : Int))) from HO.out.alloc _)
      have HG := hide (And.intro g0 g1)
      have gq : 0 ≤ g / 256 ∧ g / 256 < 18446744073709551616 := by constructor <;> omega
      have HGQ := hide gq
      clear hlt hb8 gq
      go_wp2_with (at_builtin; go_loud (refine wpList_append_own2 _ rfl (.tmp 10) (.tmp 14) 170 rfl w.heap.size 5 i0 (.int .u8 0) 1 1 Tryz.underlying170 hi0 hz00 hz1 hz2 rfl (by decide) _ _ _ rfl HO1.out ⟨wr.heap.size, 0, none⟩ 1 1 [.int .u8 (g % 256)] rfl rfl (news1 (by simp [go_sem])) (ones_all rfl) (by have := HLT.out; simp only [maxLen]; omega) (by have := HLT.out; omega) (by first | omega | (simp <;> omega)) ?_; intro A2 c2 w2 ho2 hg2 hv2; have B2 := hide (below_grown (B := w.heap.size) hg2 (by first | omega | (simp <;> omega)) (own_ge HO1.out)); have HO2 := hide (show w2.ownsRow w.heap.size 5 1 (.slice A2 (k + 1) c2) (k + 1) ((l ++ [b]).map (fun b => .int .u8 (b.toNat : Int))) from by rw [List.map_append, ← HB8.out]; exact ho2); clear ho2 hg2 hv2))
      go_roundw
      case rel => exact ⟨k + 1, c2, g / 256, A2, l ++ [b], HLT.out, by go_num, by go_num, HGQ.out.1, HGQ.out.2, rfl, HO2.out, H0.out.trans (Below.trans (by (repeat (first | (with_reducible first | exact Below.refl _ _ | assumption | refine Below.drew ?_) | ((with_reducible first | refine Below.alloc ?_ ?_ _ | refine Below.setCell ?_ ?_ _); rotate_left; (first | omega | (simp <;> omega))))) : Below w.heap.size wr _) B2.out)⟩
      case measure => have := HLT.out; simp [intOf]; omega
    · obtain rfl : k = 8 := by omega
      have hl8 : l.length = 8 := by have := HO.out.1; simpa using this
      obtain ⟨ad, rfl, hcells⟩ : ∃ ad : Addr, A = some ad ∧ ∀ j u, (l.map (fun b => Value.int .u8 (b.toNat : Int)))[j]? = some u → wr.cell? (ad.add j) = some u := by
        rcases HO.out.2 with ⟨e2, h0⟩ | ⟨gb, cap, cur, hv, hg, hh, h3, h4, h5, h6⟩
        · omega
        · injection hv with e1 e4 e5
          subst e1
          exact ⟨_, rfl, HO.out.cells (g := gb) rfl⟩
      have HCV : (convert 170 9 (.slice (some ad) 8 c)).run Tryz.prog wr = .ok (.string ⟨l.toArray⟩) wr := by
        have h := run_convert_bytes_back (P := Tryz.prog) wr 170 9 5 ad c l Tryz.underlying170 Tryz.underlying5 Tryz.underlying9 (fun j hj => hcells j _ (by simp [hj]))
        rw [hl8] at h
        exact h
      have HL8 := hide hl8
      have BF := hide (show Below w.heap.size w wr from Below.trans belT H0.out)
      clear hcells hl8
      go_wp2_with fail
      go_ret
      exact ⟨_, by show l.toArray.size ≤ 8; simpa using Nat.le_of_eq HL8.out, rfl, BF.out⟩
end Go.Proofs.YtpghciiifnjimaaGreatDoor
