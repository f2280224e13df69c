/- Texts laid together: MnF. -/
import Derived.Test.YtdjlaiilngechaaGreatDoorUDfE
namespace Go.Proofs.YtdjlaiilngechaaGreatDoor
set_option maxRecDepth 4000
set_option linter.unusedSimpArgs false
set_option linter.unusedVariables false
open Go.RowKit
set_option maxRecDepth 4000 in
set_option maxHeartbeats 2000000 in
theorem mformat_any (n d : Int) (w : World) (ht : Tab w) :
  Calls Tryz.prog 66 #[.int .i64 n, .int .i64 d] w fun e w' => e = .returned (.tuple #[.string ⟨(amtL n d).toArray⟩, .int .i64 (amtE n d)]) ∧ Below w.heap.size w w' := by
 cases h1 : vmB n with
 | false =>
  have H0 := hide (amt_no (show mnB n d = false by rw [mnB_eq, h1]; rfl))
  have H1 := hide h1
  clear h1
  go_enter Tryz.func66, Tryz.ntmps66
  go_wp2_with fail
  refine (mvalid_any n _).mono ?_
  rintro e w1 ⟨rfl, rfl⟩
  rw [H1.out]
  go_wp2_with fail
  refine bodyPost_ret (by simp [results, Tryz.results66, go_sem, *] <;> rfl) rfl ⟨?_, ?_⟩
  ·rw [H0.out.1, H0.out.2]
  ·(repeat (first | (with_reducible first | exact Below.refl _ _ | assumption | refine Below.drew ?_) | ((with_reducible first | refine Below.alloc ?_ ?_ _ | refine Below.setCell ?_ ?_ _); rotate_left; (first | omega | (simp <;> omega)))))
 | true =>
  cases h2 : plB d with
  | false =>
   have H0 := hide (amt_no (show mnB n d = false by rw [mnB_eq, h1, h2]; rfl))
   have H1 := hide h1
   have H2 := hide h2
   clear h1 h2
   go_enter Tryz.func66, Tryz.ntmps66
   go_wp2_with fail
   refine (mvalid_any n _).mono ?_
   rintro e w1 ⟨rfl, rfl⟩
   rw [H1.out]
   go_wp2_with fail
   refine (mplaces_any d _).mono ?_
   rintro e w1 ⟨rfl, rfl⟩
   rw [H2.out]
   go_wp2_with fail
   refine bodyPost_ret (by simp [results, Tryz.results66, go_sem, *] <;> rfl) rfl ⟨?_, ?_⟩
   ·rw [H0.out.1, H0.out.2]
   ·(repeat (first | (with_reducible first | exact Below.refl _ _ | assumption | refine Below.drew ?_) | ((with_reducible first | refine Below.alloc ?_ ?_ _ | refine Below.setCell ?_ ?_ _); rotate_left; (first | omega | (simp <;> omega)))))
  | true =>
   have H0' := hide (amt_yes (show mnB n d = true by rw [mnB_eq, h1, h2]; rfl))
   have HM := hide (vmB_iff.1 h1)
   obtain ⟨d0', d4'⟩ := plB_iff.1 h2
   have H2 := hide h2
   clear h2
   have H1 := hide h1
   clear h1
   obtain ⟨D, rfl⟩ : ∃ D : Nat, d = D := ⟨d.toNat, by omega⟩
   have hD : D ≤ 4 := by omega
   have H0 := hide (show amtL n D = mnL n D ∧ amtE n D = 0 by have := H0'.out; rw [this.1, this.2]; exact ⟨rfl, rfl⟩)
   clear H0'
   clear d0' d4'
   by_cases hs : n < 0
   ·obtain ⟨a, rfl⟩ : ∃ a : Nat, n = -(a : Int) := ⟨n.natAbs, by omega⟩
    have ha : a ≤ 1000000000000 := by have := HM.out; omega
    have hs2 : -(a : Int) < 0 := hs
    have hs3 : (0 : Int) < a := by omega
    have hs4 : - -(a : Int) = a := by omega
    clear hs
    have HL := hide (mnL_neg (a := a) (D := D) (by omega))
    have HI := hide (show Lib.itoa (a : Int) = dgs a (Lib.nDigits a) by rw [Lib.itoa_nonneg, dec_dgs])
    have hm20 := Lib.nDigits_le20 a (by omega)
    go_enter Tryz.func66, Tryz.ntmps66
    go_wp2_with fail
    refine (mvalid_any _ _).mono ?_
    rintro e w1 ⟨rfl, rfl⟩
    rw [H1.out]
    go_wp2_with fail
    refine (mplaces_any _ _).mono ?_
    rintro e w1 ⟨rfl, rfl⟩
    rw [H2.out]
    go_wp2_with fail
    refine (itoa_any a (by omega) (by omega) _ ht).mono ?_
    rintro e w1 ⟨rfl, hb⟩
    rw [HI.out]
    have hl0 := dgs_len a (Lib.nDigits a)
    go_wp2_with fail
    go_loopw [7] (fun v wr => FmI a D w1 v wr) (fun v _ => 40 - (strOf v).size)
    case atStart => exact ⟨Lib.nDigits a, Nat.le_refl _, hm20, .inl rfl, rfl, rfl⟩
    case round =>
     obtain ⟨k, hk, hk20, hor, rfl, rfl⟩ := hrel
     have HK := hide hk
     have HOR := hide hor
     clear hor hl0 hm20 hk
     have hl := dgs_len a k
     by_cases hlt : k ≤ D
     ·have HC := hide (show (⟨#[48]⟩ : ByteArray) ++ (⟨(dgs a k).toArray⟩ : ByteArray) = ⟨(dgs a (k + 1)).toArray⟩ by rw [← dgs_pad HK.out]; exact bcat [48] _)
      have HT := hide hlt
      go_wp2_with fail
      go_roundw
      case rel => exact ⟨k + 1, by have := HK.out; omega, by have := HT.out; omega, .inr (by have := HT.out; omega), by rw [HC.out], rfl⟩
      case measure => simp only [strOf]; rw [bsize, HC.out, bsize, dgs_len, dgs_len]; omega
     ·have hlt2 : D < k := by omega
      clear hlt
      have HP := hide (pad_part HK.out hlt2 (by have := HOR.out; omega))
      by_cases hz : D = 0
      ·have h0 : ((D : Int) == 0) = true := by rw [hz]; rfl
       have HR := hide (show (⟨#[45]⟩ : ByteArray) ++ (⟨(dgs a k).toArray⟩ : ByteArray) = ⟨([45] ++ (wholeL a D ++ (if D = 0 then [] else 46 :: dgs a D))).toArray⟩ by rw [HP.out, hz]; exact bcat [45] _)
       clear hz
       go_wp2_with fail
       refine bodyPost_ret (by simp [results, Tryz.results66, go_sem, *] <;> rfl) rfl ⟨?_, ?_⟩
       ·rw [H0.out.1, H0.out.2, HL.out, ← HR.out]
       ·exact hb
      ·have h0 : ((D : Int) == 0) = false := by simpa using hz
       have hz2 : 0 < D := by omega
       obtain ⟨q, rfl⟩ : ∃ q, k = q + D := ⟨k - D, by omega⟩
       have hqD : (q : Int) ≤ q + D := by omega
       have hs0 : ¬ 9223372036854775807 < 1 + q := by omega
       have hs1 : ¬ 9223372036854775807 < 1 + q + 1 := by omega
       have hs2 : ¬ 9223372036854775807 < 1 + q + 1 + D := by omega
       have hs3 : ¬ 9223372036854775807 < 1 + q + (1 + D) := by omega
       have HR := hide (fin_point [45] (wholeL a D) (dgs a D) q D (q + D) (by have h1 := congrArg List.length HP.out; rw [List.length_append, dgs_len, dgs_len] at h1; omega) (dgs_len a D) rfl _ HP.out)
       have HL := hide (HL.out.trans (by rw [if_neg hz]))
       clear hz
       go_wp2_with fail
       refine ord_start (SB (w1.heap.size) [] _) 12 (preB 0 12) (by kernel_rfl) (by kernel_rfl) (by kernel_rfl) SB.refl.drew (fun hHeld => ?_)
       refine oS (i := 0) (preB 1 11) rfl hHeld ?_
       (try simp only [Act.put, putS])
       refine oS (i := 1) (preB 2 10) rfl hHeld ?_
       (try simp only [Act.put, putS])
       refine oS (i := 2) (preB 3 9) rfl hHeld ?_
       (try simp only [Act.put, putS])
       refine oS (i := 3) (preB 4 8) rfl hHeld ?_
       (try simp only [Act.put, putS])
       refine oS (i := 4) (preB 5 7) rfl hHeld ?_
       (try simp only [Act.put, putS])
       refine oS (i := 5) (preB 6 6) rfl hHeld ?_
       (try simp only [Act.put, putS])
       refine oS (i := 6) (preB 7 5) rfl hHeld ?_
       (try simp only [Act.put, putS])
       refine oS (i := 7) (preB 8 4) rfl hHeld ?_
       (try simp only [Act.put, putS])
       refine oS (i := 8) (preB 9 3) rfl hHeld ?_
       (try simp only [Act.put, putS])
       refine oS (i := 9) (preB 10 2) rfl hHeld ?_
       (try simp only [Act.put, putS])
       refine oS (i := 10) (preB 11 1) rfl hHeld ?_
       (try simp only [Act.put, putS])
       refine oS (i := 11) (preB 12 0) rfl hHeld ?_
       (try simp only [Act.put, putS])
       refine wpAnyH_done (by kernel_rfl) ?_ _
       go_wp2_with fail
       refine bodyPost_ret (by simp [results, Tryz.results66, go_sem, *] <;> rfl) rfl ⟨?_, ?_⟩
       ·rw [H0.out.1, H0.out.2, HL.out, ← HR.out]
       ·(repeat (first | (with_reducible first | exact Below.refl _ _ | assumption | refine Below.drew ?_) | ((with_reducible first | refine Below.alloc ?_ ?_ _ | refine Below.setCell ?_ ?_ _); rotate_left; (first | omega | (simp <;> omega)))))
   ·obtain ⟨a, rfl⟩ : ∃ a : Nat, n = (a : Int) := ⟨n.natAbs, by omega⟩
    have ha : a ≤ 1000000000000 := by have := HM.out; omega
    have hs2 : ¬ (a : Int) < 0 := by omega
    clear hs
    have HL := hide (mnL_pos a D)
    have HI := hide (show Lib.itoa (a : Int) = dgs a (Lib.nDigits a) by rw [Lib.itoa_nonneg, dec_dgs])
    have hm20 := Lib.nDigits_le20 a (by omega)
    go_enter Tryz.func66, Tryz.ntmps66
    go_wp2_with fail
    refine (mvalid_any _ _).mono ?_
    rintro e w1 ⟨rfl, rfl⟩
    rw [H1.out]
    go_wp2_with fail
    refine (mplaces_any _ _).mono ?_
    rintro e w1 ⟨rfl, rfl⟩
    rw [H2.out]
    go_wp2_with fail
    refine (itoa_any a (by omega) (by omega) _ ht).mono ?_
    rintro e w1 ⟨rfl, hb⟩
    rw [HI.out]
    have hl0 := dgs_len a (Lib.nDigits a)
    go_wp2_with fail
    go_loopw [7] (fun v wr => FmI a D w1 v wr) (fun v _ => 40 - (strOf v).size)
    case atStart => exact ⟨Lib.nDigits a, Nat.le_refl _, hm20, .inl rfl, rfl, rfl⟩
    case round =>
     obtain ⟨k, hk, hk20, hor, rfl, rfl⟩ := hrel
     have HK := hide hk
     have HOR := hide hor
     clear hor hl0 hm20 hk
     have hl := dgs_len a k
     by_cases hlt : k ≤ D
     ·have HC := hide (show (⟨#[48]⟩ : ByteArray) ++ (⟨(dgs a k).toArray⟩ : ByteArray) = ⟨(dgs a (k + 1)).toArray⟩ by rw [← dgs_pad HK.out]; exact bcat [48] _)
      have HT := hide hlt
      go_wp2_with fail
      go_roundw
      case rel => exact ⟨k + 1, by have := HK.out; omega, by have := HT.out; omega, .inr (by have := HT.out; omega), by rw [HC.out], rfl⟩
      case measure => simp only [strOf]; rw [bsize, HC.out, bsize, dgs_len, dgs_len]; omega
     ·have hlt2 : D < k := by omega
      clear hlt
      have HP := hide (pad_part HK.out hlt2 (by have := HOR.out; omega))
      by_cases hz : D = 0
      ·have h0 : ((D : Int) == 0) = true := by rw [hz]; rfl
       have HR := hide (show (⟨#[]⟩ : ByteArray) ++ (⟨(dgs a k).toArray⟩ : ByteArray) = ⟨([] ++ (wholeL a D ++ (if D = 0 then [] else 46 :: dgs a D))).toArray⟩ by rw [HP.out, hz]; exact bcat [] _)
       clear hz
       go_wp2_with fail
       refine bodyPost_ret (by simp [results, Tryz.results66, go_sem, *] <;> rfl) rfl ⟨?_, ?_⟩
       ·rw [H0.out.1, H0.out.2, HL.out, ← HR.out]
       ·exact hb
      ·have h0 : ((D : Int) == 0) = false := by simpa using hz
       have hz2 : 0 < D := by omega
       obtain ⟨q, rfl⟩ : ∃ q, k = q + D := ⟨k - D, by omega⟩
       have hqD : (q : Int) ≤ q + D := by omega
       have hs0 : ¬ 9223372036854775807 < q := by omega
       have hs1 : ¬ 9223372036854775807 < q + 1 := by omega
       have hs2 : ¬ 9223372036854775807 < q + 1 + D := by omega
       have hs3 : ¬ 9223372036854775807 < q + (1 + D) := by omega
       have HR := hide (fin_point [] (wholeL a D) (dgs a D) q D (q + D) (by have h1 := congrArg List.length HP.out; rw [List.length_append, dgs_len, dgs_len] at h1; omega) (dgs_len a D) rfl _ HP.out)
       have HL := hide (HL.out.trans (by rw [if_neg hz]))
       clear hz
       go_wp2_with fail
       refine ord_start (SB (w1.heap.size) [] _) 12 (preB 0 12) (by kernel_rfl) (by kernel_rfl) (by kernel_rfl) SB.refl.drew (fun hHeld => ?_)
       refine oS (i := 0) (preB 1 11) rfl hHeld ?_
       (try simp only [Act.put, putS])
       refine oS (i := 1) (preB 2 10) rfl hHeld ?_
       (try simp only [Act.put, putS])
       refine oS (i := 2) (preB 3 9) rfl hHeld ?_
       (try simp only [Act.put, putS])
       refine oS (i := 3) (preB 4 8) rfl hHeld ?_
       (try simp only [Act.put, putS])
       refine oS (i := 4) (preB 5 7) rfl hHeld ?_
       (try simp only [Act.put, putS])
       refine oS (i := 5) (preB 6 6) rfl hHeld ?_
       (try simp only [Act.put, putS])
       refine oS (i := 6) (preB 7 5) rfl hHeld ?_
       (try simp only [Act.put, putS])
       refine oS (i := 7) (preB 8 4) rfl hHeld ?_
       (try simp only [Act.put, putS])
       refine oS (i := 8) (preB 9 3) rfl hHeld ?_
       (try simp only [Act.put, putS])
       refine oS (i := 9) (preB 10 2) rfl hHeld ?_
       (try simp only [Act.put, putS])
       refine oS (i := 10) (preB 11 1) rfl hHeld ?_
       (try simp only [Act.put, putS])
       refine oS (i := 11) (preB 12 0) rfl hHeld ?_
       (try simp only [Act.put, putS])
       refine wpAnyH_done (by kernel_rfl) ?_ _
       go_wp2_with fail
       refine bodyPost_ret (by simp [results, Tryz.results66, go_sem, *] <;> rfl) rfl ⟨?_, ?_⟩
       ·rw [H0.out.1, H0.out.2, HL.out, ← HR.out]
       ·(repeat (first | (with_reducible first | exact Below.refl _ _ | assumption | refine Below.drew ?_) | ((with_reducible first | refine Below.alloc ?_ ?_ _ | refine Below.setCell ?_ ?_ _); rotate_left; (first | omega | (simp <;> omega)))))
end Go.Proofs.YtdjlaiilngechaaGreatDoor
