/- Texts laid together: StI MnF TxM StJ TxN. -/
import Derived.Test.YtpghciiifnjimaaGreatDoorXTvC
import Derived.Test.YtpghciiifnjimaaGreatDoorXNuA
import Derived.Test.YtpghciiifnjimaaGreatDoorXRowM
namespace Go.Proofs.YtpghciiifnjimaaGreatDoor
set_option maxRecDepth 4000
set_option linter.unusedSimpArgs false
set_option linter.unusedVariables false
open Go.RowKit
/-- One statement continues another. -/
def fol (ac no t cl bac bno bf bop : Int) : Bool := decide (bac = ac ∧ bno = no + 1 ∧ bf = t + 1 ∧ bop = cl)
theorem fol_no {ac no t cl bac bno bf bop : Int} (h : ¬ (bac = ac ∧ bno = no + 1 ∧ bf = t + 1 ∧ bop = cl)) : fol ac no t cl bac bno bf bop = false := decide_eq_false h
theorem fol_yes {ac no t cl bac bno bf bop : Int} (h1 : bac = ac) (h2 : bno = no + 1) (h3 : bf = t + 1) (h4 : bop = cl) : fol ac no t cl bac bno bf bop = true := decide_eq_true ⟨h1, h2, h3, h4⟩
set_option maxRecDepth 4000 in
set_option maxHeartbeats 2000000 in
theorem follows_any (ac no f t op cl bac bno bf bt bop bcl : Int) (lA mA : Option Addr) (ln lc mn mc : Nat) (i1 : IIn no) (i2 : IIn t) (i3 : IIn bno) (i4 : IIn bf) (w : World) :
  Calls Tryz.prog 9 #[.agg #[.int .i64 ac, .int .i64 no, .int .i64 f, .int .i64 t, .int .i64 op, .int .i64 cl, .slice lA ln lc], .agg #[.int .i64 bac, .int .i64 bno, .int .i64 bf, .int .i64 bt, .int .i64 bop, .int .i64 bcl, .slice mA mn mc]] w fun e w' => e = .returned (.bool (fol ac no t cl bac bno bf bop)) ∧ Below w.heap.size w w' := by
 unfold IIn at i1 i2 i3 i4
 by_cases h1 : bac = ac
 ·have e1 : (bac == ac) = true := beq_iff_eq.2 h1
  have H1 := hide h1
  clear h1
  by_cases h2 : no = 9223372036854775807
  ·have e2 : (no != 9223372036854775807) = false := by rw [h2]; rfl
   have HD := hide (fol_no (ac := ac) (no := no) (t := t) (cl := cl) (bac := bac) (bno := bno) (bf := bf) (bop := bop) (by omega))
   clear h2 i1 i2 i3 i4
   go_enter Tryz.func9, Tryz.ntmps9
   go_wp2_with fail
   go_ret
   exact ⟨by rw [HD.out]; rfl, by (repeat (first | (with_reducible first | exact Below.refl _ _ | assumption | refine Below.drew ?_) | ((with_reducible first | refine Below.alloc ?_ ?_ _ | refine Below.setCell ?_ ?_ _); rotate_left; (first | omega | (simp <;> omega)))))⟩
  ·have e2 : (no != 9223372036854775807) = true := by unfold bne; rw [beq_eq_false_iff_ne.2 h2]; rfl
   have n1 : -9223372036854775808 ≤ no + 1 := by omega
   have n2 : no + 1 ≤ 9223372036854775807 := by omega
   clear h2
   by_cases h3 : bno = no + 1
   ·have e3 : (bno == no + 1) = true := beq_iff_eq.2 h3
    have H3 := hide h3
    clear h3
    by_cases h4 : t = 9223372036854775807
    ·have e4 : (t != 9223372036854775807) = false := by rw [h4]; rfl
     have HD := hide (fol_no (ac := ac) (no := no) (t := t) (cl := cl) (bac := bac) (bno := bno) (bf := bf) (bop := bop) (by omega))
     clear h4 i1 i2 i3 i4
     go_enter Tryz.func9, Tryz.ntmps9
     go_wp2_with fail
     go_ret
     exact ⟨by rw [HD.out]; rfl, by (repeat (first | (with_reducible first | exact Below.refl _ _ | assumption | refine Below.drew ?_) | ((with_reducible first | refine Below.alloc ?_ ?_ _ | refine Below.setCell ?_ ?_ _); rotate_left; (first | omega | (simp <;> omega)))))⟩
    ·have e4 : (t != 9223372036854775807) = true := by unfold bne; rw [beq_eq_false_iff_ne.2 h4]; rfl
     have t1 : -9223372036854775808 ≤ t + 1 := by omega
     have t2 : t + 1 ≤ 9223372036854775807 := by omega
     clear h4
     by_cases h5 : bf = t + 1
     ·have e5 : (bf == t + 1) = true := beq_iff_eq.2 h5
      have H5 := hide h5
      clear h5 i1 i2 i3 i4
      cases h6 : (bop == cl) with
      | true =>
       have HD := hide (fol_yes H1.out H3.out H5.out (beq_iff_eq.1 h6))
       go_enter Tryz.func9, Tryz.ntmps9
       go_wp2_with fail
       go_ret
       exact ⟨by rw [HD.out]; rfl, by (repeat (first | (with_reducible first | exact Below.refl _ _ | assumption | refine Below.drew ?_) | ((with_reducible first | refine Below.alloc ?_ ?_ _ | refine Below.setCell ?_ ?_ _); rotate_left; (first | omega | (simp <;> omega)))))⟩
      | false =>
       have HD := hide (fol_no (ac := ac) (no := no) (t := t) (cl := cl) (bac := bac) (bno := bno) (bf := bf) (bop := bop) (fun h => beq_eq_false_iff_ne.1 h6 h.2.2.2))
       go_enter Tryz.func9, Tryz.ntmps9
       go_wp2_with fail
       go_ret
       exact ⟨by rw [HD.out]; rfl, by (repeat (first | (with_reducible first | exact Below.refl _ _ | assumption | refine Below.drew ?_) | ((with_reducible first | refine Below.alloc ?_ ?_ _ | refine Below.setCell ?_ ?_ _); rotate_left; (first | omega | (simp <;> omega)))))⟩
     ·have e5 : (bf == t + 1) = false := beq_eq_false_iff_ne.2 h5
      have HD := hide (fol_no (ac := ac) (no := no) (t := t) (cl := cl) (bac := bac) (bno := bno) (bf := bf) (bop := bop) (by omega))
      clear h5 i1 i2 i3 i4
      go_enter Tryz.func9, Tryz.ntmps9
      go_wp2_with fail
      go_ret
      exact ⟨by rw [HD.out]; rfl, by (repeat (first | (with_reducible first | exact Below.refl _ _ | assumption | refine Below.drew ?_) | ((with_reducible first | refine Below.alloc ?_ ?_ _ | refine Below.setCell ?_ ?_ _); rotate_left; (first | omega | (simp <;> omega)))))⟩
   ·have e3 : (bno == no + 1) = false := beq_eq_false_iff_ne.2 h3
    have HD := hide (fol_no (ac := ac) (no := no) (t := t) (cl := cl) (bac := bac) (bno := bno) (bf := bf) (bop := bop) (by omega))
    clear h3 i1 i2 i3 i4
    go_enter Tryz.func9, Tryz.ntmps9
    go_wp2_with fail
    go_ret
    exact ⟨by rw [HD.out]; rfl, by (repeat (first | (with_reducible first | exact Below.refl _ _ | assumption | refine Below.drew ?_) | ((with_reducible first | refine Below.alloc ?_ ?_ _ | refine Below.setCell ?_ ?_ _); rotate_left; (first | omega | (simp <;> omega)))))⟩
 ·have e1 : (bac == ac) = false := beq_eq_false_iff_ne.2 h1
  have HD := hide (fol_no (ac := ac) (no := no) (t := t) (cl := cl) (bac := bac) (bno := bno) (bf := bf) (bop := bop) (by omega))
  clear h1 i1 i2 i3 i4
  go_enter Tryz.func9, Tryz.ntmps9
  go_wp2_with fail
  go_ret
  exact ⟨by rw [HD.out]; rfl, by (repeat (first | (with_reducible first | exact Below.refl _ _ | assumption | refine Below.drew ?_) | ((with_reducible first | refine Below.alloc ?_ ?_ _ | refine Below.setCell ?_ ?_ _); rotate_left; (first | omega | (simp <;> omega)))))⟩
end Go.Proofs.YtpghciiifnjimaaGreatDoor
namespace Go.Proofs.YtpghciiifnjimaaGreatDoor
set_option maxRecDepth 4000
set_option linter.unusedSimpArgs false
set_option linter.unusedVariables false
open Go.RowKit
set_option maxRecDepth 4000 in
set_option maxHeartbeats 2000000 in
theorem mformat_any (n d : Int) (w : World) (ht : Tab w) :
  Calls Tryz.prog 105 #[.int .i64 n, .int .i64 d] w fun e w' => e = .returned (.tuple #[.string ⟨(amtL n d).toArray⟩, .int .i64 (amtE n d)]) ∧ Below w.heap.size w w' := by
 cases h1 : vmB n with
 | false =>
  have H0 := hide (amt_no (show mnB n d = false by rw [mnB_eq, h1]; rfl))
  have H1 := hide h1
  clear h1
  go_enter Tryz.func105, Tryz.ntmps105
  go_wp2_with fail
  refine (mvalid_any n _).mono ?_
  rintro e w1 ⟨rfl, rfl⟩
  rw [H1.out]
  go_wp2_with fail
  refine bodyPost_ret (by simp [results, Tryz.results105, go_sem, *] <;> rfl) rfl ⟨?_, ?_⟩
  ·rw [H0.out.1, H0.out.2]
  ·(repeat (first | (with_reducible first | exact Below.refl _ _ | assumption | refine Below.drew ?_) | ((with_reducible first | refine Below.alloc ?_ ?_ _ | refine Below.setCell ?_ ?_ _); rotate_left; (first | omega | (simp <;> omega)))))
 | true =>
  cases h2 : plB d with
  | false =>
   have H0 := hide (amt_no (show mnB n d = false by rw [mnB_eq, h1, h2]; rfl))
   have H1 := hide h1
   have H2 := hide h2
   clear h1 h2
   go_enter Tryz.func105, Tryz.ntmps105
   go_wp2_with fail
   refine (mvalid_any n _).mono ?_
   rintro e w1 ⟨rfl, rfl⟩
   rw [H1.out]
   go_wp2_with fail
   refine (mplaces_any d _).mono ?_
   rintro e w1 ⟨rfl, rfl⟩
   rw [H2.out]
   go_wp2_with fail
   refine bodyPost_ret (by simp [results, Tryz.results105, go_sem, *] <;> rfl) rfl ⟨?_, ?_⟩
   ·rw [H0.out.1, H0.out.2]
   ·(repeat (first | (with_reducible first | exact Below.refl _ _ | assumption | refine Below.drew ?_) | ((with_reducible first | refine Below.alloc ?_ ?_ _ | refine Below.setCell ?_ ?_ _); rotate_left; (first | omega | (simp <;> omega)))))
  | true =>
   have H0' := hide (amt_yes (show mnB n d = true by rw [mnB_eq, h1, h2]; rfl))
   have HM := hide (vmB_iff.1 h1)
   obtain ⟨d0', d4'⟩ := plB_iff.1 h2
   have H2 := hide h2
   clear h2
   have H1 := hide h1
   clear h1
   obtain ⟨D, rfl⟩ : ∃ D : Nat, d = D := ⟨d.toNat, by omega⟩
   have hD : D ≤ 4 := by omega
   have H0 := hide (show amtL n D = mnL n D ∧ amtE n D = 0 by have := H0'.out; rw [this.1, this.2]; exact ⟨rfl, rfl⟩)
   clear H0'
   clear d0' d4'
   by_cases hs : n < 0
   ·obtain ⟨a, rfl⟩ : ∃ a : Nat, n = -(a : Int) := ⟨n.natAbs, by omega⟩
    have ha : a ≤ 1000000000000 := by have := HM.out; omega
    have hs2 : -(a : Int) < 0 := hs
    have hs3 : (0 : Int) < a := by omega
    have hs4 : - -(a : Int) = a := by omega
    clear hs
    have HL := hide (mnL_neg (a := a) (D := D) (by omega))
    have HI := hide (show Lib.itoa (a : Int) = dgs a (Lib.nDigits a) by rw [Lib.itoa_nonneg, dec_dgs])
    have hm20 := Lib.nDigits_le20 a (by omega)
    go_enter Tryz.func105, Tryz.ntmps105
    go_wp2_with fail
    refine (mvalid_any _ _).mono ?_
    rintro e w1 ⟨rfl, rfl⟩
    rw [H1.out]
    go_wp2_with fail
    refine (mplaces_any _ _).mono ?_
    rintro e w1 ⟨rfl, rfl⟩
    rw [H2.out]
    go_wp2_with fail
    refine (itoa_any a (by omega) (by omega) _ ht).mono ?_
    rintro e w1 ⟨rfl, hb⟩
    rw [HI.out]
    have hl0 := dgs_len a (Lib.nDigits a)
    go_wp2_with fail
    go_loopw [7] (fun v wr => FmI a D w1 v wr) (fun v _ => 40 - (strOf v).size)
    case atStart => exact ⟨Lib.nDigits a, Nat.le_refl _, hm20, .inl rfl, rfl, rfl⟩
    case round =>
     obtain ⟨k, hk, hk20, hor, rfl, rfl⟩ := hrel
     have HK := hide hk
     have HOR := hide hor
     clear hor hl0 hm20 hk
     have hl := dgs_len a k
     by_cases hlt : k ≤ D
     ·have HC := hide (show (⟨#[48]⟩ : ByteArray) ++ (⟨(dgs a k).toArray⟩ : ByteArray) = ⟨(dgs a (k + 1)).toArray⟩ by rw [← dgs_pad HK.out]; exact bcat [48] _)
      have HT := hide hlt
      go_wp2_with fail
      go_roundw
      case rel => exact ⟨k + 1, by have := HK.out; omega, by have := HT.out; omega, .inr (by have := HT.out; omega), by rw [HC.out], rfl⟩
      case measure => simp only [strOf]; rw [bsize, HC.out, bsize, dgs_len, dgs_len]; omega
     ·have hlt2 : D < k := by omega
      clear hlt
      have HP := hide (pad_part HK.out hlt2 (by have := HOR.out; omega))
      by_cases hz : D = 0
      ·have h0 : ((D : Int) == 0) = true := by rw [hz]; rfl
       have HR := hide (show (⟨#[45]⟩ : ByteArray) ++ (⟨(dgs a k).toArray⟩ : ByteArray) = ⟨([45] ++ (wholeL a D ++ (if D = 0 then [] else 46 :: dgs a D))).toArray⟩ by rw [HP.out, hz]; exact bcat [45] _)
       clear hz
       go_wp2_with fail
       refine bodyPost_ret (by simp [results, Tryz.results105, go_sem, *] <;> rfl) rfl ⟨?_, ?_⟩
       ·rw [H0.out.1, H0.out.2, HL.out, ← HR.out]
       ·exact hb
      ·have h0 : ((D : Int) == 0) = false := by simpa using hz
       have hz2 : 0 < D := by omega
       obtain ⟨q, rfl⟩ : ∃ q, k = q + D := ⟨k - D, by omega⟩
       have hqD : (q : Int) ≤ q + D := by omega
       have hs0 : ¬ 9223372036854775807 < 1 + q := by omega
       have hs1 : ¬ 9223372036854775807 < 1 + q + 1 := by omega
       have hs2 : ¬ 9223372036854775807 < 1 + q + 1 + D := by omega
       have hs3 : ¬ 9223372036854775807 < 1 + q + (1 + D) := by omega
       have HR := hide (fin_point [45] (wholeL a D) (dgs a D) q D (q + D) (by have h1 := congrArg List.length HP.out; rw [List.length_append, dgs_len, dgs_len] at h1; omega) (dgs_len a D) rfl _ HP.out)
       have HL := hide (HL.out.trans (by rw [if_neg hz]))
       clear hz
       go_wp2_with fail
       refine ord_start (SB (w1.heap.size) [] _) 12 (preB 0 12) (by kernel_rfl) (by kernel_rfl) (by kernel_rfl) SB.refl.drew (fun hHeld => ?_)
       refine oS (i := 0) (preB 1 11) rfl hHeld ?_
       (try simp only [Act.put, putS])
       refine oS (i := 1) (preB 2 10) rfl hHeld ?_
       (try simp only [Act.put, putS])
       refine oS (i := 2) (preB 3 9) rfl hHeld ?_
       (try simp only [Act.put, putS])
       refine oS (i := 3) (preB 4 8) rfl hHeld ?_
       (try simp only [Act.put, putS])
       refine oS (i := 4) (preB 5 7) rfl hHeld ?_
       (try simp only [Act.put, putS])
       refine oS (i := 5) (preB 6 6) rfl hHeld ?_
       (try simp only [Act.put, putS])
       refine oS (i := 6) (preB 7 5) rfl hHeld ?_
       (try simp only [Act.put, putS])
       refine oS (i := 7) (preB 8 4) rfl hHeld ?_
       (try simp only [Act.put, putS])
       refine oS (i := 8) (preB 9 3) rfl hHeld ?_
       (try simp only [Act.put, putS])
       refine oS (i := 9) (preB 10 2) rfl hHeld ?_
       (try simp only [Act.put, putS])
       refine oS (i := 10) (preB 11 1) rfl hHeld ?_
       (try simp only [Act.put, putS])
       refine oS (i := 11) (preB 12 0) rfl hHeld ?_
       (try simp only [Act.put, putS])
       refine wpAnyH_done (by kernel_rfl) ?_ _
       go_wp2_with fail
       refine bodyPost_ret (by simp [results, Tryz.results105, go_sem, *] <;> rfl) rfl ⟨?_, ?_⟩
       ·rw [H0.out.1, H0.out.2, HL.out, ← HR.out]
       ·(repeat (first | (with_reducible first | exact Below.refl _ _ | assumption | refine Below.drew ?_) | ((with_reducible first | refine Below.alloc ?_ ?_ _ | refine Below.setCell ?_ ?_ _); rotate_left; (first | omega | (simp <;> omega)))))
   ·obtain ⟨a, rfl⟩ : ∃ a : Nat, n = (a : Int) := ⟨n.natAbs, by omega⟩
    have ha : a ≤ 1000000000000 := by have := HM.out; omega
    have hs2 : ¬ (a : Int) < 0 := by omega
    clear hs
    have HL := hide (mnL_pos a D)
    have HI := hide (show Lib.itoa (a : Int) = dgs a (Lib.nDigits a) by rw [Lib.itoa_nonneg, dec_dgs])
    have hm20 := Lib.nDigits_le20 a (by omega)
    go_enter Tryz.func105, Tryz.ntmps105
    go_wp2_with fail
    refine (mvalid_any _ _).mono ?_
    rintro e w1 ⟨rfl, rfl⟩
    rw [H1.out]
    go_wp2_with fail
    refine (mplaces_any _ _).mono ?_
    rintro e w1 ⟨rfl, rfl⟩
    rw [H2.out]
    go_wp2_with fail
    refine (itoa_any a (by omega) (by omega) _ ht).mono ?_
    rintro e w1 ⟨rfl, hb⟩
    rw [HI.out]
    have hl0 := dgs_len a (Lib.nDigits a)
    go_wp2_with fail
    go_loopw [7] (fun v wr => FmI a D w1 v wr) (fun v _ => 40 - (strOf v).size)
    case atStart => exact ⟨Lib.nDigits a, Nat.le_refl _, hm20, .inl rfl, rfl, rfl⟩
    case round =>
     obtain ⟨k, hk, hk20, hor, rfl, rfl⟩ := hrel
     have HK := hide hk
     have HOR := hide hor
     clear hor hl0 hm20 hk
     have hl := dgs_len a k
     by_cases hlt : k ≤ D
     ·have HC := hide (show (⟨#[48]⟩ : ByteArray) ++ (⟨(dgs a k).toArray⟩ : ByteArray) = ⟨(dgs a (k + 1)).toArray⟩ by rw [← dgs_pad HK.out]; exact bcat [48] _)
      have HT := hide hlt
      go_wp2_with fail
      go_roundw
      case rel => exact ⟨k + 1, by have := HK.out; omega, by have := HT.out; omega, .inr (by have := HT.out; omega), by rw [HC.out], rfl⟩
      case measure => simp only [strOf]; rw [bsize, HC.out, bsize, dgs_len, dgs_len]; omega
     ·have hlt2 : D < k := by omega
      clear hlt
      have HP := hide (pad_part HK.out hlt2 (by have := HOR.out; omega))
      by_cases hz : D = 0
      ·have h0 : ((D : Int) == 0) = true := by rw [hz]; rfl
       have HR := hide (show (⟨#[]⟩ : ByteArray) ++ (⟨(dgs a k).toArray⟩ : ByteArray) = ⟨([] ++ (wholeL a D ++ (if D = 0 then [] else 46 :: dgs a D))).toArray⟩ by rw [HP.out, hz]; exact bcat [] _)
       clear hz
       go_wp2_with fail
       refine bodyPost_ret (by simp [results, Tryz.results105, go_sem, *] <;> rfl) rfl ⟨?_, ?_⟩
       ·rw [H0.out.1, H0.out.2, HL.out, ← HR.out]
       ·exact hb
      ·have h0 : ((D : Int) == 0) = false := by simpa using hz
       have hz2 : 0 < D := by omega
       obtain ⟨q, rfl⟩ : ∃ q, k = q + D := ⟨k - D, by omega⟩
       have hqD : (q : Int) ≤ q + D := by omega
       have hs0 : ¬ 9223372036854775807 < q := by omega
       have hs1 : ¬ 9223372036854775807 < q + 1 := by omega
       have hs2 : ¬ 9223372036854775807 < q + 1 + D := by omega
       have hs3 : ¬ 9223372036854775807 < q + (1 + D) := by omega
       have HR := hide (fin_point [] (wholeL a D) (dgs a D) q D (q + D) (by have h1 := congrArg List.length HP.out; rw [List.length_append, dgs_len, dgs_len] at h1; omega) (dgs_len a D) rfl _ HP.out)
       have HL := hide (HL.out.trans (by rw [if_neg hz]))
       clear hz
       go_wp2_with fail
       refine ord_start (SB (w1.heap.size) [] _) 12 (preB 0 12) (by kernel_rfl) (by kernel_rfl) (by kernel_rfl) SB.refl.drew (fun hHeld => ?_)
       refine oS (i := 0) (preB 1 11) rfl hHeld ?_
       (try simp only [Act.put, putS])
       refine oS (i := 1) (preB 2 10) rfl hHeld ?_
       (try simp only [Act.put, putS])
       refine oS (i := 2) (preB 3 9) rfl hHeld ?_
       (try simp only [Act.put, putS])
       refine oS (i := 3) (preB 4 8) rfl hHeld ?_
       (try simp only [Act.put, putS])
       refine oS (i := 4) (preB 5 7) rfl hHeld ?_
       (try simp only [Act.put, putS])
       refine oS (i := 5) (preB 6 6) rfl hHeld ?_
       (try simp only [Act.put, putS])
       refine oS (i := 6) (preB 7 5) rfl hHeld ?_
       (try simp only [Act.put, putS])
       refine oS (i := 7) (preB 8 4) rfl hHeld ?_
       (try simp only [Act.put, putS])
       refine oS (i := 8) (preB 9 3) rfl hHeld ?_
       (try simp only [Act.put, putS])
       refine oS (i := 9) (preB 10 2) rfl hHeld ?_
       (try simp only [Act.put, putS])
       refine oS (i := 10) (preB 11 1) rfl hHeld ?_
       (try simp only [Act.put, putS])
       refine oS (i := 11) (preB 12 0) rfl hHeld ?_
       (try simp only [Act.put, putS])
       refine wpAnyH_done (by kernel_rfl) ?_ _
       go_wp2_with fail
       refine bodyPost_ret (by simp [results, Tryz.results105, go_sem, *] <;> rfl) rfl ⟨?_, ?_⟩
       ·rw [H0.out.1, H0.out.2, HL.out, ← HR.out]
       ·(repeat (first | (with_reducible first | exact Below.refl _ _ | assumption | refine Below.drew ?_) | ((with_reducible first | refine Below.alloc ?_ ?_ _ | refine Below.setCell ?_ ?_ _); rotate_left; (first | omega | (simp <;> omega)))))
end Go.Proofs.YtpghciiifnjimaaGreatDoor
namespace Go.Proofs.YtpghciiifnjimaaGreatDoor
set_option maxRecDepth 4000
set_option linter.unusedSimpArgs false
set_option linter.unusedVariables false
open Go.RowKit
theorem lays166j : Go.Proofs.Lays.n166 Tryz.prog Tryz.lays156_ren := {
 mixed := Tryz.lays156.mixed
 f166 := Tryz.lays156.f166
 f240 := Tryz.lays156.f240
 f276 := Tryz.lays156.f276
 t0 := Tryz.lays156.t0
 a0 := Tryz.lays156.a0
 z0 := Tryz.lays156.z0
 v0 := Tryz.lays156.v0
 t3 := Tryz.lays156.t3
 a3 := Tryz.lays156.a3
 z3 := Tryz.lays156.z3
 v3 := Tryz.lays156.v3
 t4 := Tryz.lays156.t4
 a4 := Tryz.lays156.a4
 z4 := Tryz.lays156.z4
 v4 := Tryz.lays156.v4
 t9 := Tryz.lays156.t9
 a9 := Tryz.lays156.a9
 z9 := Tryz.lays156.z9
 v9 := Tryz.lays156.v9
 t20 := Tryz.lays156.t20
 a20 := Tryz.lays156.a20
 z20 := Tryz.lays156.z20
 v20 := Tryz.lays156.v20
 t37 := Tryz.lays156.t37
 a37 := Tryz.lays156.a37
 z37 := Tryz.lays156.z37
 v37 := Tryz.lays156.v37
 t70 := Tryz.lays156.t70
 a70 := Tryz.lays156.a70
 z70 := Tryz.lays156.z70
 v70 := Tryz.lays156.v70
 t72 := Tryz.lays156.t72
 a72 := Tryz.lays156.a72
 z72 := Tryz.lays156.z72
 v72 := Tryz.lays156.v72
 t75 := Tryz.lays156.t75
 a75 := Tryz.lays156.a75
 z75 := Tryz.lays156.z75
 v75 := Tryz.lays156.v75
 t164 := Tryz.lays156.t164
 a164 := Tryz.lays156.a164
 z164 := Tryz.lays156.z164
 v164 := Tryz.lays156.v164 }
/-- A builder keeps what it holds where nothing below the heap's end is touched. -/
theorem ownsF_below {w w' : World} {base : Nat} {e : TypeId} {size n : Nat} {v : Value} {xs : List Value} (h : w.ownsRowF base e size v n xs) (hb : Below w.heap.size w w') : w'.ownsRowF base e size v n xs := by
 refine ⟨h.1, ?_⟩
 rcases h.2 with hn | ⟨g, cap, cur, fz, hv, hg, hh, r⟩
 ·exact .inl hn
 ·exact .inr ⟨g, cap, cur, fz, hv, hg, (hb.block g (heap_lt hh)).trans hh, r⟩
theorem bldAt_below {T e : TypeId} {B b : Nat} {p : Value} {bs : List Value} {w w' : World} (h : Lib.BuilderAtF T e B b p bs w) (hb : Below w.heap.size w w') : Lib.BuilderAtF T e B b p bs w' := by
 obtain ⟨h1, v, h2, h3, h4⟩ := h
 exact ⟨h1, v, (hb.block b (heap_lt h2)).trans h2, ownsF_below h3 hb, h4⟩
theorem bld_below {T e : TypeId} {B b : Nat} {bs : List Value} {w w' : World} (h : Lib.IsBuilderF T e B b bs w) (hb : Below w.heap.size w w') : Lib.IsBuilderF T e B b bs w' := h.imp (bldAt_below · hb) (bldAt_below · hb)
/-- A cell of another block, that is no row of bytes, may be written. -/
theorem bldAt_set {T e : TypeId} {B b g : Nat} {p : Value} {bs : List Value} {w : World} {c : Array Value} {t : TypeId} {fz : Nat × Nat} (h : Lib.BuilderAtF T e B b p bs w) (hg : w.heap[g]? = some (.cells c t fz)) (ht : t ≠ e) (hgb : g ≠ b) (o : Nat) (u : Value) : Lib.BuilderAtF T e B b p bs (w.setCell ⟨g, o, none⟩ u) := by
 obtain ⟨h1, v, h2, h3, h4⟩ := h
 refine ⟨h1, v, ?_, ?_, h4⟩
 ·rw [Below.heap_setCell _ _ _ _ (fun e => hgb e.symm)]; exact h2
 ·refine h3.kept (row := some g) ⟨rfl, rfl, rfl, by simp [World.setCell], fun k _ hk => Below.heap_setCell _ _ _ _ (fun e => hk (by simp [e]))⟩ ?_
  cases hv : v.ownBlock with
  | none => exact .inl rfl
  | some k =>
   refine .inr fun hk => ?_
   obtain ⟨c', fz', hk'⟩ := Lib.ownsRowF_kind h3 k hv
   obtain rfl : k = g := Option.some.inj hk
   rw [hg] at hk'
   injection hk' with hk'
   injection hk' with _ e2 _
   exact ht e2
theorem bld_set {T e : TypeId} {B b g : Nat} {bs : List Value} {w : World} {c : Array Value} {t : TypeId} {fz : Nat × Nat} (h : Lib.IsBuilderF T e B b bs w) (hg : w.heap[g]? = some (.cells c t fz)) (ht : t ≠ e) (hgb : g ≠ b) (o : Nat) (u : Value) : Lib.IsBuilderF T e B b bs (w.setCell ⟨g, o, none⟩ u) := h.imp (bldAt_set · hg ht hgb o u) (bldAt_set · hg ht hgb o u)
/-- A text under construction: the builder in block b, the mark of a bad amount in block g. -/
structure TxS (W : World) (b g : Nat) (bd : Bool) (bs : List UInt8) (w : World) : Prop where
 bld : Lib.IsBuilderF 172 5 b b (Lib.byteCells bs) w
 bad : w.heap[g]? = some (.cells #[.bool bd] 4 (0, 0))
 bel : Below W.heap.size W w
 wb : W.heap.size ≤ b
 gb : g ≠ b
 wg : W.heap.size ≤ g
section
variable {W w w' : World} {b g : Nat} {bd : Bool} {bs : List UInt8}
theorem TxS.below (h : TxS W b g bd bs w) (hb : Below w.heap.size w w') : TxS W b g bd bs w' :=
 ⟨bld_below h.bld hb, (hb.block g (heap_lt h.bad)).trans h.bad, h.bel.trans (hb.mono h.bel.size), h.wb, h.gb, h.wg⟩
theorem TxS.alloc (h : TxS W b g bd bs w) (o : Obj) : TxS W b g bd bs (w.alloc o) := h.below ((Below.refl _ _).alloc (Nat.le_refl _) o)
theorem TxS.drew (h : TxS W b g bd bs w) : TxS W b g bd bs w.drew := h.below (Below.refl _ _).drew
theorem TxS.set (h : TxS W b g bd bs w) (v : Bool) : TxS W b g v bs (w.setCell ⟨g, 0, none⟩ (.bool v)) :=
 ⟨bld_set h.bld h.bad (by decide) h.gb _ _, one_setCell h.bad, h.bel.setCell h.wg _, h.wb, h.gb, h.wg⟩
theorem TxS.tab (h : TxS W b g bd bs w) (ht : Tab W) : Tab w := ht.below h.bel
theorem TxS.lt (h : TxS W b g bd bs w) : b < w.heap.size := by
 rcases h.bld with ⟨_, v, hb, _⟩ | ⟨_, v, hb, _⟩ <;> exact heap_lt hb
end
/-- All blocks but the builder's, the mark's and the rows of bytes stand. -/
def KpB (b g : Nat) (w w' : World) : Prop := ∀ k o, w.heap[k]? = some o → k ≠ b → k ≠ g → (∀ c fz, o ≠ .cells c 5 fz) → w'.heap[k]? = some o
theorem KpB.of_below {b g : Nat} {w w' : World} (hb : Below w.heap.size w w') : KpB b g w w' := fun k _ h _ _ _ => (hb.block k (heap_lt h)).trans h
theorem KpB.trans {b g : Nat} {w w1 w2 : World} (h : KpB b g w w1) (k : KpB b g w1 w2) : KpB b g w w2 := fun i o hi hb hg ho => k i o (h i o hi hb hg ho) hb hg ho
/-- One line of the text: the words, parted by a space, and the line's end. -/
def wJ (xs : List (List UInt8)) : List UInt8 := Lib.join xs [32] ++ [10]
def asB (xs : List (List UInt8)) : List ByteArray := xs.map fun l => ⟨l.toArray⟩
theorem asB_map (xs : List (List UInt8)) : (asB xs).map (·.data.toList) = xs := by unfold asB; rw [List.map_map]; exact List.map_id xs
theorem asB_len (xs : List (List UInt8)) : (asB xs).length = xs.length := by unfold asB; simp
set_option maxHeartbeats 1000000 in
theorem put_any (W : World) (b g : Nat) (bd : Bool) (bs : List UInt8) (bk c : Nat) (xs : List (List UInt8)) (w : World) (h : TxS W b g bd bs w) (hcells : ∀ (j : Nat) x, (asB xs)[j]? = some x → w.cell? ⟨bk, j, none⟩ = some (.string x)) (hbk : bk < w.heap.size)
  (hN : xs.length ≤ 1000) (hcap : xs.length ≤ c) (hlen : bs.length + (wJ xs).length ≤ 140737488355328) :
  Calls Tryz.prog 101 #[.slice (some ⟨bk, 0, none⟩) xs.length c, .pointer (some ⟨b, 0, none⟩)] w fun e w' => e = .returned (.tuple #[]) ∧ TxS W b g bd (bs ++ wJ xs) w' ∧ KpB b g w w' := by
 have hl2 : (wJ xs).length = (Lib.join xs [32]).length + 1 := by unfold wJ; simp
 have hj := Tryz.strings_Join bk 0 c (asB xs) ⟨#[32]⟩ w (by intro j x hx; rw [Nat.zero_add]; exact hcells j x hx) hbk (by rw [asB_len]; omega) (by rw [asB_len]; exact hcap) (by rw [asB_map]; show (Lib.join xs [32]).length ≤ _; omega)
 rw [asB_map, asB_len] at hj
 have HJ := hide hj
 have HH := hide h
 have hl3 : (Lib.join xs [32]).length ≤ 140737488355328 := by omega
 have HC := hide (show (⟨(Lib.join xs [32]).toArray⟩ : ByteArray) ++ (⟨#[10]⟩ : ByteArray) = ⟨(wJ xs).toArray⟩ from bcat _ [10])
 clear hj hcells h
 go_enter Tryz.func101, Tryz.ntmps101
 go_wp2_with fail
 refine HJ.out.mono ?_
 rintro e w1 ⟨rfl, hb⟩
 have h1 := HH.out.below hb
 go_wp2_with fail
 rw [show (Lib.join xs [32] : List UInt8) = Lib.join xs [32] from rfl, HC.out]
 refine (Go.Proofs.Any.Builder_WriteString_k lays166j Tryz.Builder_Extra_156 b b (Lib.byteCells bs) ⟨(wJ xs).toArray⟩ w1 h1.bld (by rw [Lib.byteCells_length, bsize]; exact hlen) (Nat.le_of_lt h1.lt)).mono ?_
 rintro e w2 ⟨rfl, hbd, hbe, hok⟩
 go_wp2_with fail
 go_end0
 refine ⟨rfl, ⟨.inr ?_, hok g _ h1.bad (by have := h1.gb; simpa using this) (fun c fz e => by injection e with _ e2 _; exact absurd e2 (by decide)), h1.bel.trans (hbe.mono h1.wb), h1.wb, h1.gb, h1.wg⟩, (KpB.of_below hb).trans (fun k o hk hkb _ ho => hok k o hk (by simpa using hkb) ho)⟩
 rw [Lib.byteCells_append]
 exact hbd
/-- The amount of a line: its text, and the mark where it is none. -/
theorem amount_any (W : World) (b g : Nat) (bd : Bool) (bs : List UInt8) (q : Nat) (n d : Int) (w : World) (h : TxS W b g bd bs w) (ht : Tab W) (hq : q < W.heap.size) (hd : W.cell? ⟨q, 0, none⟩ = some (.int .i64 d)) :
  Calls Tryz.prog 104 #[.int .i64 n, .pointer (some ⟨q, 0, none⟩), .pointer (some ⟨g, 0, none⟩)] w fun e w' => e = .returned (.string ⟨(amtL n d).toArray⟩) ∧ TxS W b g (bd || !mnB n d) bs w' ∧ KpB b g w w' := by
 have HH := hide h
 have HT := hide (h.tab ht)
 have hd0 := (h.bel.cell (p := ⟨q, 0, none⟩) hq).trans hd
 have hqz : q < w.heap.size := Nat.lt_of_lt_of_le hq h.bel.size
 clear h ht hd
 go_enter Tryz.func104, Tryz.ntmps104
 go_wp2_with fail
 refine (mformat_any n d _ HT.out).mono ?_
 rintro e w1 ⟨rfl, hb⟩
 have h1 := HH.out.below hb
 have hd1 := (hb.cell (p := ⟨q, 0, none⟩) hqz).trans hd0
 have hc := cell_of_one h1.bad
 have hf := free_of_one h1.bad
 have H1 := hide h1
 have HB := hide hb
 clear h1 hb
 cases bd with
 | true =>
  go_wp2_with fail
  go_ret
  exact ⟨rfl, by have := H1.out.set true; simpa using this, (KpB.of_below HB.out).trans (fun k o hk _ hkg _ => by rw [Below.heap_setCell _ _ _ _ hkg]; exact hk)⟩
 | false =>
  cases hm : mnB n d with
  | true =>
   have HE := hide (amt_yes hm).2
   have HMN := hide hm
   rw [HE.out]
   clear hm
   go_wp2_with fail
   go_ret
   exact ⟨rfl, by rw [HMN.out]; exact H1.out.set false, (KpB.of_below HB.out).trans (fun k o hk _ hkg _ => by rw [Below.heap_setCell _ _ _ _ hkg]; exact hk)⟩
  | false =>
   have HE := hide (amt_no hm).2
   have HMN := hide hm
   rw [HE.out]
   clear hm
   go_wp2_with fail
   go_ret
   exact ⟨rfl, by rw [HMN.out]; exact H1.out.set true, (KpB.of_below HB.out).trans (fun k o hk _ hkg _ => by rw [Below.heap_setCell _ _ _ _ hkg]; exact hk)⟩
end Go.Proofs.YtpghciiifnjimaaGreatDoor
namespace Go.Proofs.YtpghciiifnjimaaGreatDoor
set_option maxRecDepth 4000
set_option linter.unusedSimpArgs false
set_option linter.unusedVariables false
open Go.RowKit
/-- The line before the k-th. -/
def prvP (P : Nat → LPos) : Nat → LPos | 0 => zPos | k + 1 => P k
def goodP (P : Nat → LPos) (f t : Int) (k : Nat) : Prop := (prvP P k).en < (P k).en ∧ f ≤ (P k).dy ∧ (P k).dy ≤ t
instance (P : Nat → LPos) (f t : Int) (k : Nat) : Decidable (goodP P f t k) := by unfold goodP; infer_instance
def sumP (P : Nat → LPos) (o : Int) : Nat → Int | 0 => o | k + 1 => wrap64 (sumP P o k + (P k).am)
def linE (P : Nat → LPos) (f t op cl : Int) (n : Nat) : Int := if (∀ k, k < n → goodP P f t k) then (if sumP P op n = cl then 0 else 25) else 25
/-- The error of Check. -/
def chkS (ac no f t op cl : Int) (P : Nat → LPos) (n : Nat) : Int := if ac < 1000 then 1 else if no < 1 then 1 else if vday f = false then 1 else if vday t = false then 1 else if f > t then 1 else linE P f t op cl n
theorem linE_bad {P : Nat → LPos} {f t op cl : Int} {n k : Nat} (hk : k < n) (h : ¬ goodP P f t k) : linE P f t op cl n = 25 := if_neg (fun hall => h (hall k hk))
theorem linE_sum {P : Nat → LPos} {f t op cl : Int} {n : Nat} (h : sumP P op n ≠ cl) : linE P f t op cl n = 25 := by unfold linE; rw [if_neg h]; split <;> rfl
theorem linE_ok {P : Nat → LPos} {f t op cl : Int} {n : Nat} (hall : ∀ k, k < n → goodP P f t k) (h : sumP P op n = cl) : linE P f t op cl n = 0 := by unfold linE; rw [if_pos hall, if_pos h]
/-- The lines taken so far are numbered upwards from 1. -/
theorem prv_ge {P : Nat → LPos} {f t : Int} : ∀ {k : Nat}, (∀ i, i < k → goodP P f t i) → 0 ≤ (prvP P k).en
 | 0, _ => by show (0 : Int) ≤ zPos.en; decide
 | k + 1, h => by
  have h1 := prv_ge (k := k) (fun i hi => h i (by omega))
  have h2 := (h k (by omega)).1
  show 0 ≤ (P k).en
  omega
end Go.Proofs.YtpghciiifnjimaaGreatDoor
namespace Go.Proofs.YtpghciiifnjimaaGreatDoor
set_option maxRecDepth 4000
set_option linter.unusedSimpArgs false
set_option linter.unusedVariables false
open Go.RowKit
/-- The blocks below N, and those of L, are as they were in W. -/
def SC (N : Nat) (L : List Nat) (W w : World) : Prop := ∀ b, (b < N ∨ b ∈ L) → w.heap[b]? = W.heap[b]?
section
variable {N : Nat} {L : List Nat} {W w w' : World}
theorem SC.refl : SC N L W W := fun _ _ => rfl
theorem SC.drew (h : SC N L W w) : SC N L W w.drew := h
theorem SC.cell (h : SC N L W w) (b o : Nat) (hb : b < N ∨ b ∈ L) : w.cell? ⟨b, o, none⟩ = W.cell? ⟨b, o, none⟩ := World.cell?_of_block (a := ⟨b, o, none⟩) (h b hb)
theorem SC.below {B : Nat} (h : SC N L W w) (hb : Below B w w') (hN : N ≤ B) (hL : ∀ x ∈ L, x < B) : SC N L W w' := fun b hx => (hb.block b (by rcases hx with h1 | h1; omega; exact hL b h1)).trans (h b hx)
theorem SC.alloc (h : SC N L W w) (hN : N ≤ w.heap.size) (hL : ∀ x ∈ L, x < w.heap.size) (o : Obj) : SC N L W (w.alloc o) := h.below ((Below.refl _ _).alloc (Nat.le_refl _) o) hN hL
theorem SC.tx {V : World} {b g : Nat} {bd bd' : Bool} {bs bs' : List UInt8} (h : SC N L W w) (t : TxS V b g bd bs w) (t' : TxS V b g bd' bs' w') (hk : KpB b g w w') (hN : N ≤ V.heap.size)
  (hL : ∀ x ∈ L, x ≠ b ∧ x ≠ g ∧ ∃ c ty fz, W.heap[x]? = some (.cells c ty fz) ∧ ty ≠ 5) : SC N L W w' := fun x hx => by
 rcases Nat.lt_or_ge x N with h1 | h1
 ·rw [t'.bel.block x (by omega), ← t.bel.block x (by omega)]; exact h x hx
 ·have hx2 : x ∈ L := hx.resolve_left (by omega)
  obtain ⟨n1, n2, c, ty, fz, e, hne⟩ := hL x hx2
  have e1 := (h x hx).trans e
  rw [hk x _ e1 n1 n2 (fun c' fz' e2 => by injection e2 with _ e3 _; exact hne e3), e]
end
theorem words_new {w : World} {xs : List (List UInt8)} {cs : Array Value} {t : TypeId} (h : cs.toList = (asB xs).map Value.string) (j : Nat) (x : ByteArray) (hx : (asB xs)[j]? = some x) : (w.alloc (.cells cs t)).cell? ⟨w.heap.size, j, none⟩ = some (.string x) :=
 by
 rw [cell_of_cells (Go.Deep.blk_alloc_new w (.cells cs t)) j]
 have := congrArg (fun l : List Value => l[j]?) h
 simp only [List.getElem?_map, hx] at this
 simpa using this
theorem TxS.start (w : World) : TxS w w.heap.size (w.heap.size + 1) false [] ((w.alloc (.cells #[.pointer none, .slice none 0 0] 172)).alloc (.cells #[.bool false] 4)) := by
 refine ⟨.inl ⟨Nat.le_refl _, .slice none 0 0, ?_, World.ownsRowF_nil _ _ _ _, by simp [Value.ownBlock]⟩, ?_, ((Below.refl _ _).alloc (Nat.le_refl _) _).alloc (by simp) _, Nat.le_refl _, by omega, by omega⟩
 ·exact ((Below.refl _ _).alloc (Nat.le_refl _) _).block _ (by simp) |>.trans (Go.Deep.blk_alloc_new _ _)
 ·have := Go.Deep.blk_alloc_new (w.alloc (.cells #[.pointer none, .slice none 0 0] 172)) (.cells #[.bool false] 4)
  simpa using this
def wStatement : List UInt8 := [115, 116, 97, 116, 101, 109, 101, 110, 116]
def wAccount : List UInt8 := [97, 99, 99, 111, 117, 110, 116]
def wTo : List UInt8 := [116, 111]
def wOpening : List UInt8 := [111, 112, 101, 110, 105, 110, 103]
def wClosing : List UInt8 := [99, 108, 111, 115, 105, 110, 103]
noncomputable def lineL (p : LPos) (d : Int) : List UInt8 := wJ [fmtL p.dy, amtL p.am d, p.tx.data.toList]
noncomputable def linesL (P : Nat → LPos) (d : Int) : Nat → List UInt8 | 0 => [] | k + 1 => linesL P d k ++ lineL (P k) d
def badL (P : Nat → LPos) (d : Int) : Nat → Bool | 0 => false | k + 1 => badL P d k || !mnB (P k).am d
noncomputable def headL (ac no f t op d : Int) : List UInt8 := ([] ++ wJ [wStatement, Lib.itoa no, wAccount, Lib.itoa ac] ++ wJ [fmtL f, wTo, fmtL t]) ++ wJ [wOpening, amtL op d]
noncomputable def txtL (ac no f t op cl : Int) (P : Nat → LPos) (n : Nat) (d : Int) : List UInt8 := headL ac no f t op d ++ linesL P d n ++ wJ [wClosing, amtL cl d]
def badS (op cl : Int) (P : Nat → LPos) (n : Nat) (d : Int) : Bool := (!mnB op d || badL P d n) || !mnB cl d
/-- What Text answers. -/
def txtE (ac no f t op cl : Int) (P : Nat → LPos) (n : Nat) (d : Int) : Int := if chkS ac no f t op cl P n = 0 then (if badS op cl P n d then 1 else 0) else chkS ac no f t op cl P n
noncomputable def txtR (ac no f t op cl : Int) (P : Nat → LPos) (n : Nat) (d : Int) : List UInt8 := if txtE ac no f t op cl P n d = 0 then txtL ac no f t op cl P n d else []
theorem wJ_2 (a b : List UInt8) : wJ [a, b] = a ++ 32 :: b ++ [10] := by simp [wJ, Lib.join, List.intercalate]
theorem wJ_3 (a b c : List UInt8) : wJ [a, b, c] = a ++ 32 :: (b ++ 32 :: c) ++ [10] := by simp [wJ, Lib.join, List.intercalate]
theorem wJ_4 (a b c d : List UInt8) : wJ [a, b, c, d] = a ++ 32 :: (b ++ 32 :: (c ++ 32 :: d)) ++ [10] := by simp [wJ, Lib.join, List.intercalate]
theorem fmtL_len (x : Int) : (fmtL x).length ≤ 10 := by
 cases hv : vday x with
 | true => rw [fmt_yes hv]; simp [d4, d2]
 | false => rw [fmt_no hv]; simp
theorem amtL_len (n d : Int) : (amtL n d).length ≤ 30 := by
 cases h : mnB n d with
 | false => rw [(amt_no h).1]; simp
 | true =>
  rw [(amt_yes h).1]
  obtain ⟨a, b, c, e⟩ := mnB_iff.1 h
  have h1 : (wholeL n.natAbs d.toNat).length ≤ 20 := by
   unfold wholeL
   rw [Lib.decDigits_length]
   exact Lib.nDigits_le20 _ (Nat.lt_of_le_of_lt (Nat.div_le_self _ _) (by omega))
  unfold mnL
  have h2 : ((if n < 0 then [45] else []) : List UInt8).length ≤ 1 := by split <;> simp
  have h3 : ((if d.toNat = 0 then [] else 46 :: dgs n.natAbs d.toNat) : List UInt8).length ≤ 5 := by
   split
   ·simp
   ·rw [List.length_cons, dgs_len]; omega
  rw [List.length_append, List.length_append]
  omega
theorem itoa_len {n : Int} (h : 0 ≤ n) (h2 : n ≤ 9223372036854775807) : (Lib.itoa n).length ≤ 20 := by
 obtain ⟨m, rfl⟩ : ∃ m : Nat, n = m := ⟨n.toNat, by omega⟩
 rw [Lib.itoa_nonneg, Lib.decDigits_length]
 exact Lib.nDigits_le20 _ (by omega)
theorem headL_len {ac no f t op d : Int} (h1 : 0 ≤ ac) (h2 : ac ≤ 9223372036854775807) (h3 : 0 ≤ no) (h4 : no ≤ 9223372036854775807) : (headL ac no f t op d).length ≤ 200 := by
 have := itoa_len h1 h2
 have := itoa_len h3 h4
 have := fmtL_len f
 have := fmtL_len t
 have := amtL_len op d
 unfold headL
 rw [wJ_2, wJ_3, wJ_4]
 simp [wStatement, wAccount, wTo, wOpening]
 omega
theorem lineL_len {p : LPos} (d : Int) (h : p.tx.size ≤ 200) : (lineL p d).length ≤ 300 := by
 have := fmtL_len p.dy
 have := amtL_len p.am d
 have : p.tx.data.toList.length = p.tx.size := Array.length_toList
 unfold lineL
 rw [wJ_3]
 simp only [List.length_append, List.length_cons, List.length_nil]
 omega
theorem linesL_len {P : Nat → LPos} (d : Int) : ∀ {n : Nat}, (∀ k, k < n → (P k).tx.size ≤ 200) → (linesL P d n).length ≤ 300 * n
 | 0, _ => Nat.zero_le _
 | n + 1, h => by
  have h1 := linesL_len d (n := n) (fun k hk => h k (by omega))
  have h2 := lineL_len d (h n (by omega))
  unfold linesL
  rw [List.length_append]
  omega
theorem closing_len (cl d : Int) : (wJ [wClosing, amtL cl d]).length ≤ 50 := by
 have := amtL_len cl d
 rw [wJ_2]
 simp [wClosing]
 omega
end Go.Proofs.YtpghciiifnjimaaGreatDoor
