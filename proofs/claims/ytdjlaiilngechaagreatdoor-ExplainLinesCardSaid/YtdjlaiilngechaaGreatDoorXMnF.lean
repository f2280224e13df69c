/- Texts laid together: MnF ExX. -/
import Derived.Test.YtdjlaiilngechaaGreatDoorXNuM
import Derived.Test.YtdjlaiilngechaaGreatDoorXExU
import Derived.Test.YtdjlaiilngechaaGreatDoorXExD
import Derived.Test.YtdjlaiilngechaaGreatDoorXK0
namespace Go.Proofs.YtdjlaiilngechaaGreatDoor
set_option maxRecDepth 4000
set_option linter.unusedSimpArgs false
set_option linter.unusedVariables false
open Go.RowKit
set_option maxRecDepth 4000 in
set_option maxHeartbeats 2000000 in
theorem mformat_any (n d : Int) (w : World) (ht : Tab w) :
  Calls Tryz.prog 66 #[.int .i64 n, .int .i64 d] w fun e w' => e = .returned (.tuple #[.string ⟨(amtL n d).toArray⟩, .int .i64 (amtE n d)]) ∧ Below w.heap.size w w' := by
 cases h1 : vmB n with
 | false =>
  have H0 := hide (amt_no (show mnB n d = false by rw [mnB_eq, h1]; rfl))
  have H1 := hide h1
  clear h1
  go_enter Tryz.func66, Tryz.ntmps66
  go_wp2_with fail
  refine (mvalid_any n _).mono ?_
  rintro e w1 ⟨rfl, rfl⟩
  rw [H1.out]
  go_wp2_with fail
  refine bodyPost_ret (by simp [results, Tryz.results66, go_sem, *] <;> rfl) rfl ⟨?_, ?_⟩
  ·rw [H0.out.1, H0.out.2]
  ·(repeat (first | (with_reducible first | exact Below.refl _ _ | assumption | refine Below.drew ?_) | ((with_reducible first | refine Below.alloc ?_ ?_ _ | refine Below.setCell ?_ ?_ _); rotate_left; (first | omega | (simp <;> omega)))))
 | true =>
  cases h2 : plB d with
  | false =>
   have H0 := hide (amt_no (show mnB n d = false by rw [mnB_eq, h1, h2]; rfl))
   have H1 := hide h1
   have H2 := hide h2
   clear h1 h2
   go_enter Tryz.func66, Tryz.ntmps66
   go_wp2_with fail
   refine (mvalid_any n _).mono ?_
   rintro e w1 ⟨rfl, rfl⟩
   rw [H1.out]
   go_wp2_with fail
   refine (mplaces_any d _).mono ?_
   rintro e w1 ⟨rfl, rfl⟩
   rw [H2.out]
   go_wp2_with fail
   refine bodyPost_ret (by simp [results, Tryz.results66, go_sem, *] <;> rfl) rfl ⟨?_, ?_⟩
   ·rw [H0.out.1, H0.out.2]
   ·(repeat (first | (with_reducible first | exact Below.refl _ _ | assumption | refine Below.drew ?_) | ((with_reducible first | refine Below.alloc ?_ ?_ _ | refine Below.setCell ?_ ?_ _); rotate_left; (first | omega | (simp <;> omega)))))
  | true =>
   have H0' := hide (amt_yes (show mnB n d = true by rw [mnB_eq, h1, h2]; rfl))
   have HM := hide (vmB_iff.1 h1)
   obtain ⟨d0', d4'⟩ := plB_iff.1 h2
   have H2 := hide h2
   clear h2
   have H1 := hide h1
   clear h1
   obtain ⟨D, rfl⟩ : ∃ D : Nat, d = D := ⟨d.toNat, by omega⟩
   have hD : D ≤ 4 := by omega
   have H0 := hide (show amtL n D = mnL n D ∧ amtE n D = 0 by have := H0'.out; rw [this.1, this.2]; exact ⟨rfl, rfl⟩)
   clear H0'
   clear d0' d4'
   by_cases hs : n < 0
   ·obtain ⟨a, rfl⟩ : ∃ a : Nat, n = -(a : Int) := ⟨n.natAbs, by omega⟩
    have ha : a ≤ 1000000000000 := by have := HM.out; omega
    have hs2 : -(a : Int) < 0 := hs
    have hs3 : (0 : Int) < a := by omega
    have hs4 : - -(a : Int) = a := by omega
    clear hs
    have HL := hide (mnL_neg (a := a) (D := D) (by omega))
    have HI := hide (show Lib.itoa (a : Int) = dgs a (Lib.nDigits a) by rw [Lib.itoa_nonneg, dec_dgs])
    have hm20 := Lib.nDigits_le20 a (by omega)
    go_enter Tryz.func66, Tryz.ntmps66
    go_wp2_with fail
    refine (mvalid_any _ _).mono ?_
    rintro e w1 ⟨rfl, rfl⟩
    rw [H1.out]
    go_wp2_with fail
    refine (mplaces_any _ _).mono ?_
    rintro e w1 ⟨rfl, rfl⟩
    rw [H2.out]
    go_wp2_with fail
    refine (itoa_any a (by omega) (by omega) _ ht).mono ?_
    rintro e w1 ⟨rfl, hb⟩
    rw [HI.out]
    have hl0 := dgs_len a (Lib.nDigits a)
    go_wp2_with fail
    go_loopw [7] (fun v wr => FmI a D w1 v wr) (fun v _ => 40 - (strOf v).size)
    case atStart => exact ⟨Lib.nDigits a, Nat.le_refl _, hm20, .inl rfl, rfl, rfl⟩
    case round =>
     obtain ⟨k, hk, hk20, hor, rfl, rfl⟩ := hrel
     have HK := hide hk
     have HOR := hide hor
     clear hor hl0 hm20 hk
     have hl := dgs_len a k
     by_cases hlt : k ≤ D
     ·have HC := hide (show (⟨#[48]⟩ : ByteArray) ++ (⟨(dgs a k).toArray⟩ : ByteArray) = ⟨(dgs a (k + 1)).toArray⟩ by rw [← dgs_pad HK.out]; exact bcat [48] _)
      have HT := hide hlt
      go_wp2_with fail
      go_roundw
      case rel => exact ⟨k + 1, by have := HK.out; omega, by have := HT.out; omega, .inr (by have := HT.out; omega), by rw [HC.out], rfl⟩
      case measure => simp only [strOf]; rw [bsize, HC.out, bsize, dgs_len, dgs_len]; omega
     ·have hlt2 : D < k := by omega
      clear hlt
      have HP := hide (pad_part HK.out hlt2 (by have := HOR.out; omega))
      by_cases hz : D = 0
      ·have h0 : ((D : Int) == 0) = true := by rw [hz]; rfl
       have HR := hide (show (⟨#[45]⟩ : ByteArray) ++ (⟨(dgs a k).toArray⟩ : ByteArray) = ⟨([45] ++ (wholeL a D ++ (if D = 0 then [] else 46 :: dgs a D))).toArray⟩ by rw [HP.out, hz]; exact bcat [45] _)
       clear hz
       go_wp2_with fail
       refine bodyPost_ret (by simp [results, Tryz.results66, go_sem, *] <;> rfl) rfl ⟨?_, ?_⟩
       ·rw [H0.out.1, H0.out.2, HL.out, ← HR.out]
       ·exact hb
      ·have h0 : ((D : Int) == 0) = false := by simpa using hz
       have hz2 : 0 < D := by omega
       obtain ⟨q, rfl⟩ : ∃ q, k = q + D := ⟨k - D, by omega⟩
       have hqD : (q : Int) ≤ q + D := by omega
       have hs0 : ¬ 9223372036854775807 < 1 + q := by omega
       have hs1 : ¬ 9223372036854775807 < 1 + q + 1 := by omega
       have hs2 : ¬ 9223372036854775807 < 1 + q + 1 + D := by omega
       have hs3 : ¬ 9223372036854775807 < 1 + q + (1 + D) := by omega
       have HR := hide (fin_point [45] (wholeL a D) (dgs a D) q D (q + D) (by have h1 := congrArg List.length HP.out; rw [List.length_append, dgs_len, dgs_len] at h1; omega) (dgs_len a D) rfl _ HP.out)
       have HL := hide (HL.out.trans (by rw [if_neg hz]))
       clear hz
       go_wp2_with fail
       refine ord_start (SB (w1.heap.size) [] _) 12 (preB 0 12) (by kernel_rfl) (by kernel_rfl) (by kernel_rfl) SB.refl.drew (fun hHeld => ?_)
       refine oS (i := 0) (preB 1 11) rfl hHeld ?_
       (try simp only [Act.put, putS])
       refine oS (i := 1) (preB 2 10) rfl hHeld ?_
       (try simp only [Act.put, putS])
       refine oS (i := 2) (preB 3 9) rfl hHeld ?_
       (try simp only [Act.put, putS])
       refine oS (i := 3) (preB 4 8) rfl hHeld ?_
       (try simp only [Act.put, putS])
       refine oS (i := 4) (preB 5 7) rfl hHeld ?_
       (try simp only [Act.put, putS])
       refine oS (i := 5) (preB 6 6) rfl hHeld ?_
       (try simp only [Act.put, putS])
       refine oS (i := 6) (preB 7 5) rfl hHeld ?_
       (try simp only [Act.put, putS])
       refine oS (i := 7) (preB 8 4) rfl hHeld ?_
       (try simp only [Act.put, putS])
       refine oS (i := 8) (preB 9 3) rfl hHeld ?_
       (try simp only [Act.put, putS])
       refine oS (i := 9) (preB 10 2) rfl hHeld ?_
       (try simp only [Act.put, putS])
       refine oS (i := 10) (preB 11 1) rfl hHeld ?_
       (try simp only [Act.put, putS])
       refine oS (i := 11) (preB 12 0) rfl hHeld ?_
       (try simp only [Act.put, putS])
       refine wpAnyH_done (by kernel_rfl) ?_ _
       go_wp2_with fail
       refine bodyPost_ret (by simp [results, Tryz.results66, go_sem, *] <;> rfl) rfl ⟨?_, ?_⟩
       ·rw [H0.out.1, H0.out.2, HL.out, ← HR.out]
       ·(repeat (first | (with_reducible first | exact Below.refl _ _ | assumption | refine Below.drew ?_) | ((with_reducible first | refine Below.alloc ?_ ?_ _ | refine Below.setCell ?_ ?_ _); rotate_left; (first | omega | (simp <;> omega)))))
   ·obtain ⟨a, rfl⟩ : ∃ a : Nat, n = (a : Int) := ⟨n.natAbs, by omega⟩
    have ha : a ≤ 1000000000000 := by have := HM.out; omega
    have hs2 : ¬ (a : Int) < 0 := by omega
    clear hs
    have HL := hide (mnL_pos a D)
    have HI := hide (show Lib.itoa (a : Int) = dgs a (Lib.nDigits a) by rw [Lib.itoa_nonneg, dec_dgs])
    have hm20 := Lib.nDigits_le20 a (by omega)
    go_enter Tryz.func66, Tryz.ntmps66
    go_wp2_with fail
    refine (mvalid_any _ _).mono ?_
    rintro e w1 ⟨rfl, rfl⟩
    rw [H1.out]
    go_wp2_with fail
    refine (mplaces_any _ _).mono ?_
    rintro e w1 ⟨rfl, rfl⟩
    rw [H2.out]
    go_wp2_with fail
    refine (itoa_any a (by omega) (by omega) _ ht).mono ?_
    rintro e w1 ⟨rfl, hb⟩
    rw [HI.out]
    have hl0 := dgs_len a (Lib.nDigits a)
    go_wp2_with fail
    go_loopw [7] (fun v wr => FmI a D w1 v wr) (fun v _ => 40 - (strOf v).size)
    case atStart => exact ⟨Lib.nDigits a, Nat.le_refl _, hm20, .inl rfl, rfl, rfl⟩
    case round =>
     obtain ⟨k, hk, hk20, hor, rfl, rfl⟩ := hrel
     have HK := hide hk
     have HOR := hide hor
     clear hor hl0 hm20 hk
     have hl := dgs_len a k
     by_cases hlt : k ≤ D
     ·have HC := hide (show (⟨#[48]⟩ : ByteArray) ++ (⟨(dgs a k).toArray⟩ : ByteArray) = ⟨(dgs a (k + 1)).toArray⟩ by rw [← dgs_pad HK.out]; exact bcat [48] _)
      have HT := hide hlt
      go_wp2_with fail
      go_roundw
      case rel => exact ⟨k + 1, by have := HK.out; omega, by have := HT.out; omega, .inr (by have := HT.out; omega), by rw [HC.out], rfl⟩
      case measure => simp only [strOf]; rw [bsize, HC.out, bsize, dgs_len, dgs_len]; omega
     ·have hlt2 : D < k := by omega
      clear hlt
      have HP := hide (pad_part HK.out hlt2 (by have := HOR.out; omega))
      by_cases hz : D = 0
      ·have h0 : ((D : Int) == 0) = true := by rw [hz]; rfl
       have HR := hide (show (⟨#[]⟩ : ByteArray) ++ (⟨(dgs a k).toArray⟩ : ByteArray) = ⟨([] ++ (wholeL a D ++ (if D = 0 then [] else 46 :: dgs a D))).toArray⟩ by rw [HP.out, hz]; exact bcat [] _)
       clear hz
       go_wp2_with fail
       refine bodyPost_ret (by simp [results, Tryz.results66, go_sem, *] <;> rfl) rfl ⟨?_, ?_⟩
       ·rw [H0.out.1, H0.out.2, HL.out, ← HR.out]
       ·exact hb
      ·have h0 : ((D : Int) == 0) = false := by simpa using hz
       have hz2 : 0 < D := by omega
       obtain ⟨q, rfl⟩ : ∃ q, k = q + D := ⟨k - D, by omega⟩
       have hqD : (q : Int) ≤ q + D := by omega
       have hs0 : ¬ 9223372036854775807 < q := by omega
       have hs1 : ¬ 9223372036854775807 < q + 1 := by omega
       have hs2 : ¬ 9223372036854775807 < q + 1 + D := by omega
       have hs3 : ¬ 9223372036854775807 < q + (1 + D) := by omega
       have HR := hide (fin_point [] (wholeL a D) (dgs a D) q D (q + D) (by have h1 := congrArg List.length HP.out; rw [List.length_append, dgs_len, dgs_len] at h1; omega) (dgs_len a D) rfl _ HP.out)
       have HL := hide (HL.out.trans (by rw [if_neg hz]))
       clear hz
       go_wp2_with fail
       refine ord_start (SB (w1.heap.size) [] _) 12 (preB 0 12) (by kernel_rfl) (by kernel_rfl) (by kernel_rfl) SB.refl.drew (fun hHeld => ?_)
       refine oS (i := 0) (preB 1 11) rfl hHeld ?_
       (try simp only [Act.put, putS])
       refine oS (i := 1) (preB 2 10) rfl hHeld ?_
       (try simp only [Act.put, putS])
       refine oS (i := 2) (preB 3 9) rfl hHeld ?_
       (try simp only [Act.put, putS])
       refine oS (i := 3) (preB 4 8) rfl hHeld ?_
       (try simp only [Act.put, putS])
       refine oS (i := 4) (preB 5 7) rfl hHeld ?_
       (try simp only [Act.put, putS])
       refine oS (i := 5) (preB 6 6) rfl hHeld ?_
       (try simp only [Act.put, putS])
       refine oS (i := 6) (preB 7 5) rfl hHeld ?_
       (try simp only [Act.put, putS])
       refine oS (i := 7) (preB 8 4) rfl hHeld ?_
       (try simp only [Act.put, putS])
       refine oS (i := 8) (preB 9 3) rfl hHeld ?_
       (try simp only [Act.put, putS])
       refine oS (i := 9) (preB 10 2) rfl hHeld ?_
       (try simp only [Act.put, putS])
       refine oS (i := 10) (preB 11 1) rfl hHeld ?_
       (try simp only [Act.put, putS])
       refine oS (i := 11) (preB 12 0) rfl hHeld ?_
       (try simp only [Act.put, putS])
       refine wpAnyH_done (by kernel_rfl) ?_ _
       go_wp2_with fail
       refine bodyPost_ret (by simp [results, Tryz.results66, go_sem, *] <;> rfl) rfl ⟨?_, ?_⟩
       ·rw [H0.out.1, H0.out.2, HL.out, ← HR.out]
       ·(repeat (first | (with_reducible first | exact Below.refl _ _ | assumption | refine Below.drew ?_) | ((with_reducible first | refine Below.alloc ?_ ?_ _ | refine Below.setCell ?_ ?_ _); rotate_left; (first | omega | (simp <;> omega)))))
end Go.Proofs.YtdjlaiilngechaaGreatDoor
namespace Go.Proofs.YtdjlaiilngechaaGreatDoor
set_option maxRecDepth 4000
set_option linter.unusedSimpArgs false
set_option linter.unusedVariables false
open Go.RowKit
/-- Some slice cannot be written. -/
def badF (f g : Nat → Int) : Nat → Bool
 | 0 => false
 | k + 1 => badF f g k || (!vmB (f k) || decide (g k < 0))
theorem badF_iff {f g : Nat → Int} : ∀ {n : Nat}, badF f g n = true ↔ ∃ k, k < n ∧ (vmB (f k) = false ∨ g k < 0)
 | 0 => ⟨fun h => (by cases h), fun ⟨k, h, _⟩ => absurd h (by omega)⟩
 | n + 1 => by
  unfold badF
  rw [Bool.or_eq_true, badF_iff (n := n)]
  simp only [Bool.or_eq_true, Bool.not_eq_true', decide_eq_true_eq]
  constructor
  ·rintro (⟨k, h1, h2⟩ | h)
   ·exact ⟨k, by omega, h2⟩
   ·exact ⟨n, by omega, h⟩
  ·rintro ⟨k, h1, h2⟩
   rcases Nat.lt_or_ge k n with h | h
   ·exact .inl ⟨k, h, h2⟩
   ·obtain rfl : k = n := by omega
    exact .inr h2
def shB (x : Lin) (d : Int) : Bool := !(decide (d < 0) || decide (4 < d) || !vday x.fr || !vday x.tt || decide (x.tt < x.fr) || !vmB x.bl || badF (fsts x.sl) (snds x.sl) x.sl.length)
theorem shown1_any (a p : Int) (w : World) : Calls Tryz.prog 104 #[.agg #[.int .i64 a, .int .i64 p]] w fun e w' => e = .returned (.bool (!vmB a || decide (p < 0))) ∧ Below w.heap.size w w' := by
 cases h1 : vmB a with
 | false =>
  have H1 := hide h1
  clear h1
  go_enter Tryz.func104, Tryz.ntmps104
  go_wp2_with fail
  refine (mvalid_any a _).mono ?_
  rintro e w1 ⟨rfl, rfl⟩
  rw [H1.out]
  go_wp2_with fail
  go_ret
  exact ⟨by first | rfl | simp, by (repeat (first | (with_reducible first | exact Below.refl _ _ | assumption | refine Below.drew ?_) | ((with_reducible first | refine Below.alloc ?_ ?_ _ | refine Below.setCell ?_ ?_ _); rotate_left; (first | omega | (simp <;> omega)))))⟩
 | true =>
  have H1 := hide h1
  clear h1
  cases h2 : decide (p < 0) with
  | true =>
   have h3 := of_decide_eq_true h2
   go_enter Tryz.func104, Tryz.ntmps104
   go_wp2_with fail
   refine (mvalid_any a _).mono ?_
   rintro e w1 ⟨rfl, rfl⟩
   rw [H1.out]
   go_wp2_with fail
   go_ret
   exact ⟨by first | rfl | simp, by (repeat (first | (with_reducible first | exact Below.refl _ _ | assumption | refine Below.drew ?_) | ((with_reducible first | refine Below.alloc ?_ ?_ _ | refine Below.setCell ?_ ?_ _); rotate_left; (first | omega | (simp <;> omega)))))⟩
  | false =>
   have h3 := Int.not_lt.1 (of_decide_eq_false h2)
   go_enter Tryz.func104, Tryz.ntmps104
   go_wp2_with fail
   refine (mvalid_any a _).mono ?_
   rintro e w1 ⟨rfl, rfl⟩
   rw [H1.out]
   go_wp2_with fail
   go_ret
   exact ⟨by first | rfl | simp, by (repeat (first | (with_reducible first | exact Below.refl _ _ | assumption | refine Below.drew ?_) | ((with_reducible first | refine Below.alloc ?_ ?_ _ | refine Below.setCell ?_ ?_ _); rotate_left; (first | omega | (simp <;> omega)))))⟩
def IsI (f g : Nat → Int) (n : Nat) (w : World) (v : Value) (wr : World) : Prop :=
 ∃ k : Nat, k ≤ n ∧ v = .int .i64 k ∧ badF f g k = false ∧ Below w.heap.size w wr
set_option maxHeartbeats 4000000 in
theorem ixS_any (A : Option Addr) (n c : Nat) (f g : Nat → Int) (hn : n ≤ 1000000) (w : World) (hr : Row2 w A n f g) :
  Calls Tryz.prog 134 #[.slice A n c, .func (.func 104) #[] #[]] w fun e w' => (∃ i, e = .returned (.int .i64 i) ∧ decide (0 ≤ i) = badF f g n) ∧ Below w.heap.size w w' := by
 have HR := hide hr
 clear hr
 go_enter Tryz.func134, Tryz.ntmps134
 go_wp2_with fail
 go_loopw [8] (fun v wr => IsI f g n w v wr) (fun v _ => n - (intOf v).toNat)
 case atStart => exact ⟨0, by omega, rfl, rfl, by (repeat (first | (with_reducible first | exact Below.refl _ _ | assumption | refine Below.drew ?_) | ((with_reducible first | refine Below.alloc ?_ ?_ _ | refine Below.setCell ?_ ?_ _); rotate_left; (first | omega | (simp <;> omega)))))⟩
 case round =>
  obtain ⟨k, hk, rfl, ha, hB⟩ := hrel
  have HA := hide ha
  clear ha
  have hzB := hB.size
  by_cases hlt : k < n
  ·obtain ⟨b1, o1, rfl, hb1, hc⟩ := (HR.out.below hB) (by omega)
   obtain ⟨c0, c1⟩ := hc k hlt
   have hm1 : (k : Int) < n := by omega
   have hm3 : (0 : Int) ≤ (k : Int) := by omega
   have HK := hide hlt
   clear hlt hk hc
   go_wp2_with fail
   refine (shown1_any (f k) (g k) _).mono ?_
   rintro e w1 ⟨rfl, hb⟩
   cases he : (!vmB (f k) || decide (g k < 0)) with
   | true =>
    have HT := hide (show badF f g n = true from badF_iff.2 ⟨k, HK.out, by simpa using he⟩)
    clear he
    have q1B : Below wr.heap.size wr w1 := qB hb
    have q1z := hb.size
    try simp at q1z
    have q1t : wr.heap.size ≤ w1.heap.size := (by omega)
    have q1o := belO q1B
    clear hb
    go_wp2_with fail
    go_ret
    exact ⟨⟨_, rfl, by rw [HT.out]; exact decide_eq_true (by simp)⟩, by refine hB.trans (q1B.mono (by omega))⟩
   | false =>
    have HT := hide (show badF f g (k + 1) = false from by unfold badF; rw [HA.out, he]; rfl)
    clear he
    have q1B : Below wr.heap.size wr w1 := qB hb
    have q1z := hb.size
    try simp at q1z
    have q1t : wr.heap.size ≤ w1.heap.size := (by omega)
    have q1o := belO q1B
    clear hb
    go_wp2_with fail
    go_roundw
    case rel => exact ⟨k + 1, HK.out, by go_num, HT.out, by refine hB.trans (q1B.mono (by omega))⟩
    case measure => have := HK.out; simp [intOf]; omega
  ·obtain rfl : k = n := by omega
   clear hlt hk
   go_wp2_with fail
   go_ret
   exact ⟨⟨_, rfl, by rw [HA.out]; rfl⟩, hB⟩
theorem badS_any (A : Option Addr) (n c : Nat) (f g : Nat → Int) (hn : n ≤ 1000000) (w : World) (hr : Row2 w A n f g) :
  Calls Tryz.prog 103 #[.slice A n c, .func (.func 104) #[] #[]] w fun e w' => e = .returned (.bool (badF f g n)) ∧ Below w.heap.size w w' := by
 have H := hide (ixS_any A n c f g hn w hr)
 clear hr
 go_enter Tryz.func103, Tryz.ntmps103
 go_wp2_with fail
 refine H.out.mono ?_
 rintro e w1 ⟨⟨i, rfl, hi⟩, hb⟩
 have q1B : Below w.heap.size w w1 := qB hb
 have q1z := hb.size
 try simp at q1z
 have q1t : w.heap.size ≤ w1.heap.size := (by omega)
 have q1o := belO q1B
 clear hb
 by_cases h : 0 ≤ i
 ·have h2 : decide (0 ≤ i) = true := decide_eq_true h
  have HI := hide (show badF f g n = true from by rw [← hi, h2])
  clear hi
  go_wp2_with fail
  go_ret
  exact ⟨by rw [HI.out]; first | rfl | simp [*], q1B⟩
 ·have h2 : decide (0 ≤ i) = false := decide_eq_false h
  have h3 : i < 0 := by omega
  have HI := hide (show badF f g n = false from by rw [← hi, h2])
  clear h hi
  go_wp2_with fail
  go_ret
  exact ⟨by rw [HI.out]; first | rfl | simp [*], q1B⟩
set_option maxHeartbeats 4000000 in
theorem shown_any (x : Lin) (A : Option Addr) (c : Nat) (d : Int) (hl : x.sl.length ≤ 1000000) (w : World) (hr : Row2 w A x.sl.length (fsts x.sl) (snds x.sl)) :
  Calls Tryz.prog 64 #[LinV x A c, .int .i64 d] w fun e w' => e = .returned (.bool (shB x d)) ∧ Below w.heap.size w w' := by
 have HR := hide hr
 have HE := hide (show shB x d = !(decide (d < 0) || decide (4 < d) || !vday x.fr || !vday x.tt || decide (x.tt < x.fr) || !vmB x.bl || badF (fsts x.sl) (snds x.sl) x.sl.length) from rfl)
 clear hr
 by_cases h0 : d < 0
 ·have e0 : decide (d < 0) = true := decide_eq_true h0
  have HV := hide (show shB x d = false from by rw [HE.out]; simp only [e0]; simp)
  clear e0
  go_enter Tryz.func64, Tryz.ntmps64
  go_wp2_with fail
  refine bodyPost_ret (by simp [results, Tryz.results64, go_sem, *] <;> rfl) rfl ⟨?_, ?_⟩
  ·rw [HV.out]
  (repeat (first | (with_reducible first | exact Below.refl _ _ | assumption | refine Below.drew ?_) | ((with_reducible first | refine Below.alloc ?_ ?_ _ | refine Below.setCell ?_ ?_ _); rotate_left; (first | omega | (simp <;> omega)))))
 ·have e0 : decide (d < 0) = false := decide_eq_false h0
  have g0 := Int.not_lt.1 h0
  clear h0
  by_cases h1 : 4 < d
  ·have e1 : decide (4 < d) = true := decide_eq_true h1
   have HV := hide (show shB x d = false from by rw [HE.out]; simp only [e0, e1]; simp)
   clear e0 e1
   go_enter Tryz.func64, Tryz.ntmps64
   go_wp2_with fail
   refine bodyPost_ret (by simp [results, Tryz.results64, go_sem, *] <;> rfl) rfl ⟨?_, ?_⟩
   ·rw [HV.out]
   (repeat (first | (with_reducible first | exact Below.refl _ _ | assumption | refine Below.drew ?_) | ((with_reducible first | refine Below.alloc ?_ ?_ _ | refine Below.setCell ?_ ?_ _); rotate_left; (first | omega | (simp <;> omega)))))
  ·have e1 : decide (4 < d) = false := decide_eq_false h1
   have g1 := Int.not_lt.1 h1
   clear h1
   cases h2 : vday x.fr with
   | false =>
    have H2 := hide h2
    clear h2
    have HV := hide (show shB x d = false from by rw [HE.out]; simp only [e0, e1, H2.out]; simp)
    clear e0 e1
    go_enter Tryz.func64, Tryz.ntmps64
    go_wp2_with fail
    refine (valid_any x.fr _).mono ?_
    rintro e w1 ⟨rfl, rfl⟩
    rw [H2.out]
    go_wp2_with fail
    refine bodyPost_ret (by simp [results, Tryz.results64, go_sem, *] <;> rfl) rfl ⟨?_, ?_⟩
    ·rw [HV.out]
    (repeat (first | (with_reducible first | exact Below.refl _ _ | assumption | refine Below.drew ?_) | ((with_reducible first | refine Below.alloc ?_ ?_ _ | refine Below.setCell ?_ ?_ _); rotate_left; (first | omega | (simp <;> omega)))))
   | true =>
    have H2 := hide h2
    clear h2
    cases h3 : vday x.tt with
    | false =>
     have H3 := hide h3
     clear h3
     have HV := hide (show shB x d = false from by rw [HE.out]; simp only [e0, e1, H2.out, H3.out]; simp)
     clear e0 e1
     go_enter Tryz.func64, Tryz.ntmps64
     go_wp2_with fail
     refine (valid_any x.fr _).mono ?_
     rintro e w1 ⟨rfl, rfl⟩
     rw [H2.out]
     go_wp2_with fail
     refine (valid_any x.tt _).mono ?_
     rintro e w1 ⟨rfl, rfl⟩
     rw [H3.out]
     go_wp2_with fail
     refine bodyPost_ret (by simp [results, Tryz.results64, go_sem, *] <;> rfl) rfl ⟨?_, ?_⟩
     ·rw [HV.out]
     (repeat (first | (with_reducible first | exact Below.refl _ _ | assumption | refine Below.drew ?_) | ((with_reducible first | refine Below.alloc ?_ ?_ _ | refine Below.setCell ?_ ?_ _); rotate_left; (first | omega | (simp <;> omega)))))
    | true =>
     have H3 := hide h3
     clear h3
     by_cases h4 : x.tt < x.fr
     ·have e4 : decide (x.tt < x.fr) = true := decide_eq_true h4
      have HV := hide (show shB x d = false from by rw [HE.out]; simp only [e0, e1, H2.out, H3.out, e4]; simp)
      clear e0 e1 e4
      go_enter Tryz.func64, Tryz.ntmps64
      go_wp2_with fail
      refine (valid_any x.fr _).mono ?_
      rintro e w1 ⟨rfl, rfl⟩
      rw [H2.out]
      go_wp2_with fail
      refine (valid_any x.tt _).mono ?_
      rintro e w1 ⟨rfl, rfl⟩
      rw [H3.out]
      go_wp2_with fail
      refine bodyPost_ret (by simp [results, Tryz.results64, go_sem, *] <;> rfl) rfl ⟨?_, ?_⟩
      ·rw [HV.out]
      (repeat (first | (with_reducible first | exact Below.refl _ _ | assumption | refine Below.drew ?_) | ((with_reducible first | refine Below.alloc ?_ ?_ _ | refine Below.setCell ?_ ?_ _); rotate_left; (first | omega | (simp <;> omega)))))
     ·have e4 : decide (x.tt < x.fr) = false := decide_eq_false h4
      have g4 := Int.not_lt.1 h4
      clear h4
      cases h5 : vmB x.bl with
      | false =>
       have H5 := hide h5
       clear h5
       have HV := hide (show shB x d = false from by rw [HE.out]; simp only [e0, e1, H2.out, H3.out, e4, H5.out]; simp)
       clear e0 e1 e4
       go_enter Tryz.func64, Tryz.ntmps64
       go_wp2_with fail
       refine (valid_any x.fr _).mono ?_
       rintro e w1 ⟨rfl, rfl⟩
       rw [H2.out]
       go_wp2_with fail
       refine (valid_any x.tt _).mono ?_
       rintro e w1 ⟨rfl, rfl⟩
       rw [H3.out]
       go_wp2_with fail
       refine (mvalid_any x.bl _).mono ?_
       rintro e w1 ⟨rfl, rfl⟩
       rw [H5.out]
       go_wp2_with fail
       refine bodyPost_ret (by simp [results, Tryz.results64, go_sem, *] <;> rfl) rfl ⟨?_, ?_⟩
       ·rw [HV.out]
       (repeat (first | (with_reducible first | exact Below.refl _ _ | assumption | refine Below.drew ?_) | ((with_reducible first | refine Below.alloc ?_ ?_ _ | refine Below.setCell ?_ ?_ _); rotate_left; (first | omega | (simp <;> omega)))))
      | true =>
       have H5 := hide h5
       clear h5
       have HV := hide (show shB x d = !badF (fsts x.sl) (snds x.sl) x.sl.length from by rw [HE.out]; simp only [e0, e1, H2.out, H3.out, e4, H5.out]; simp)
       clear e0 e1 e4
       go_enter Tryz.func64, Tryz.ntmps64
       go_wp2_with fail
       refine (valid_any x.fr _).mono ?_
       rintro e w1 ⟨rfl, rfl⟩
       rw [H2.out]
       go_wp2_with fail
       refine (valid_any x.tt _).mono ?_
       rintro e w1 ⟨rfl, rfl⟩
       rw [H3.out]
       go_wp2_with fail
       refine (mvalid_any x.bl _).mono ?_
       rintro e w1 ⟨rfl, rfl⟩
       rw [H5.out]
       go_wp2_with fail
       refine (badS_any A x.sl.length c _ _ hl _ (HR.out.below belT)).mono ?_
       rintro e w1 ⟨rfl, hb⟩
       have q1B : Below w.heap.size w w1 := qB hb
       have q1z := hb.size
       try simp at q1z
       have q1t : w.heap.size ≤ w1.heap.size := (by omega)
       have q1o := belO q1B
       clear hb
       go_wp2_with fail
       refine bodyPost_ret (by simp [results, Tryz.results64, go_sem, *] <;> rfl) rfl ⟨?_, ?_⟩
       ·rw [HV.out]
       (repeat (first | (with_reducible first | exact Below.refl _ _ | assumption | refine Below.drew ?_) | ((with_reducible first | refine Below.alloc ?_ ?_ _ | refine Below.setCell ?_ ?_ _); rotate_left; (first | omega | (simp <;> omega)))))
end Go.Proofs.YtdjlaiilngechaaGreatDoor
