/- Texts laid together: Eys Ezj. -/
import Derived.Test.YtdjlaiilngechaaGreatDoorXEyq
import Derived.Test.YtdjlaiilngechaaGreatDoorXEya
import Derived.Test.YtdjlaiilngechaaGreatDoorXEzd
import Derived.Test.YtdjlaiilngechaaGreatDoorXK0
namespace Go.Proofs.YtdjlaiilngechaaGreatDoor
set_option maxRecDepth 4000
set_option linter.unusedSimpArgs false
set_option linter.unusedVariables false
open Go.RowKit
theorem at_on {w : World} {A : Option Addr} {A1 : Option Addr} {c1 : Nat} (h : RowLn w A 1 (onX A1 c1)) : ∃ b o, A = some ⟨b, o, none⟩ ∧ b < w.heap.size ∧ w.cell? ⟨b, o + 3, none⟩ = some (.int .i64 43920) ∧ w.cell? ⟨b, o + 5, none⟩ = some (.int .i64 0) ∧ w.cell? ⟨b, o + 6, none⟩ = some (.int .u64 65880000000000) := by
 obtain ⟨b, o, e, hlt, -, -, -, h3, -, h5, h6⟩ := h.at (show 0 < 1 by decide)
 refine ⟨b, o, e, hlt, ?_, ?_, ?_⟩
 ·exact (by simpa using h3 : w.cell? ⟨b, o + 3, none⟩ = some (.int .i64 (onX A1 c1 0).1.we))
 ·have : hiW exL1.gr = 0 := by decide +kernel
  simpa [onX, this] using h5
 ·have : loW exL1.gr = 65880000000000 := by decide +kernel
  simpa [onX, this] using h6
theorem at_tw {w : World} {A : Option Addr} {A1 : Option Addr} {c1 : Nat} {A2 : Option Addr} {c2 : Nat} (h : RowLn w A 2 (twX A1 c1 A2 c2)) : ∃ b o, A = some ⟨b, o, none⟩ ∧ b < w.heap.size ∧ w.cell? ⟨b, o + 1, none⟩ = some (.int .i64 4) ∧ w.cell? ⟨b, o + 7, none⟩ = some (.int .i64 5) ∧ w.cell? ⟨b, o + 9, none⟩ = some (.int .i64 150000) := by
 obtain ⟨b, o, e, hlt, -, h1, -⟩ := h.at (show 0 < 2 by decide)
 obtain ⟨b', o', e', -, g0, -, g2, -⟩ := h.at (show 1 < 2 by decide)
 rw [e] at e'
 injection e' with e'
 injection e' with e1 e2 _
 subst e1 e2
 refine ⟨b, o, e, hlt, ?_, ?_, ?_⟩
 ·exact (by simpa using h1 : w.cell? ⟨b, o + 1, none⟩ = some (.int .i64 (twX A1 c1 A2 c2 0).1.tt))
 ·exact (by simpa using g0 : w.cell? ⟨b, o + 7, none⟩ = some (.int .i64 (twX A1 c1 A2 c2 1).1.fr))
 ·exact (by simpa using g2 : w.cell? ⟨b, o + 7 + 2, none⟩ = some (.int .i64 (twX A1 c1 A2 c2 1).1.bl))
theorem at_tx {w : World} {A : Option Addr} {t : ByteArray} (h : RowTx w A 1 (fun _ => t)) : ∃ b o, A = some ⟨b, o, none⟩ ∧ b < w.heap.size ∧ w.cell? ⟨b, o, none⟩ = some (.string t) := by
 obtain ⟨b, o, e, hlt, hc⟩ := h (by decide)
 exact ⟨b, o, e, hlt, hc 0 (by decide)⟩
set_option maxRecDepth 8000 in
set_option maxHeartbeats 8000000 in
theorem live_any (w : World) (ht : Tab w) : Calls Tryz.prog 11 #[] w fun e w' => e = .returned (.bool true) ∧ Below w.heap.size w w' := by
 have HT := hide ht
 clear ht
 go_enter Tryz.func11, Tryz.ntmps11
 go_wp2_with fail
 refine (books_any 20 _).mono ?_
 rintro e w1 ⟨C1, tb1, pb1, ab1, jb1, b11, b21, rfl, hB1, hI1, hb⟩
 have HA1 := hide (And.intro hB1 hI1)
 have B1 := hide hb
 clear hB1 hI1 hb
 go_wp2_with fail
 refine (lv_lines1 HA1.out.1 _ HA1.out.2).mono ?_
 rintro e w2 ⟨Al, cl, Al1, cl1, rfl, hr, hb⟩
 obtain ⟨bl, ol, rfl, hbl, -⟩ := at_on hr
 have HL := hide hr
 have B2 := hide (B1.out.trans (hb.mono B1.out.size))
 clear hr hb
 go_wp2_with fail
 refine (books_any 5 _).mono ?_
 rintro e w3 ⟨C2, tb2, pb2, ab2, jb2, b12, b22, rfl, hB2, hI2, hb⟩
 have HA2 := hide (And.intro hB2 hI2)
 have D3 := hide hb
 have B3 := hide (B2.out.trans (hb.mono B2.out.size))
 clear hB2 hI2 hb
 go_wp2_with fail
 refine (lv_lines2 HA2.out.1 _ HA2.out.2).mono ?_
 rintro e w4 ⟨Am, cm, Am1, cm1, Am2, cm2, rfl, hr, hb⟩
 obtain ⟨bm, om, rfl, hbm, -⟩ := at_tw hr
 have HM := hide hr
 have HL4 := hide (HL.out.below (D3.out.trans (hb.mono D3.out.size)))
 have B4 := hide (B3.out.trans (hb.mono B3.out.size))
 clear hr hb
 go_wp2_with fail
 refine (lv_text _ cl Al1 cl1 _ HL4.out (HT.out.below B4.out)).mono ?_
 rintro e w5 ⟨At, ct, rfl, hr, hb⟩
 obtain ⟨bt, ot, rfl, hbt, -⟩ := at_tx hr
 have HTx := hide hr
 have HL5 := hide (HL4.out.below hb)
 have HM5 := hide (HM.out.below hb)
 have B5 := hide (B4.out.trans (hb.mono B4.out.size))
 clear hr hb
 go_wp2_with fail
 refine (books_any 5 _).mono ?_
 rintro e w6 ⟨C3, tb3, pb3, ab3, jb3, b13, b23, rfl, hB3, hI3, hb⟩
 have HA3 := hide (And.intro hB3 hI3)
 have D6 := hide hb
 have B6 := hide (B5.out.trans (hb.mono B5.out.size))
 clear hB3 hI3 hb
 go_wp2_with fail
 refine (lv_lines0 HA3.out.1 _ HA3.out.2).mono ?_
 rintro e w7 ⟨An, cn, rfl, hb⟩
 have D7 := hide (D6.out.trans (hb.mono D6.out.size))
 have HL7 := hide (HL5.out.below D7.out)
 have HM7 := hide (HM5.out.below D7.out)
 have HT7 := hide (RowTx.below HTx.out D7.out)
 have B7 := hide (B5.out.trans (D7.out.mono B5.out.size))
 clear hb
 go_wp2_with fail
 refine (lv_sum _ cl Al1 cl1 _ HL7.out).mono ?_
 rintro e w8 ⟨rfl, hb⟩
 have HL8 := hide (HL7.out.below hb)
 have HM8 := hide (HM7.out.below hb)
 have HT8 := hide (RowTx.below HT7.out hb)
 have B8 := hide (B7.out.trans (hb.mono B7.out.size))
 clear hb
 go_wp2_with fail
 refine (lv_diff _ _ cm cl Al1 cl1 Am1 cm1 Am2 cm2 _ (HL8.out.below belT) (HM8.out.below belT)).mono ?_
 rintro e w9 ⟨Ad, cd, Ad1, cd1, Ad2, cd2, rfl, hr, hb⟩
 have HDf := hide hr
 have hb2 : Below w8.heap.size w8 w9 := Below.trans belT (hb.mono (by simp))
 have HL9 := hide (HL8.out.below hb2)
 have HM9 := hide (HM8.out.below hb2)
 have HT9 := hide (RowTx.below HT8.out hb2)
 have B9 := hide (B8.out.trans (hb2.mono B8.out.size))
 clear hr hb2
 have q9B : Below w8.heap.size w8 w9 := qB hb
 have q9z := hb.size
 try simp at q9z
 have q9t : w8.heap.size ≤ w9.heap.size := (by omega)
 obtain ⟨q9s0, q9n0_0, q9n0_1, q9n0_2⟩ := kB w9.heap.size w8.heap.size
 obtain ⟨q9c0_0, q9c0_1, q9f0⟩ := kC2 hb w8.heap.size
 simp [go_sem, *] at q9c0_0 q9c0_1 q9f0
 have q9o := belO q9B
 clear hb
 obtain ⟨b', o', e1, k1, l3, l5, l6⟩ := at_on HL9.out
 injection e1 with e1
 injection e1 with e1 e2 _
 subst e1 e2
 obtain ⟨b', o', e1, k2, m1, m7, m9⟩ := at_tw HM9.out
 injection e1 with e1
 injection e1 with e1 e2 _
 subst e1 e2
 obtain ⟨b', o', e1, k3, t0⟩ := at_tx HT9.out
 injection e1 with e1
 injection e1 with e1 e2 _
 subst e1 e2
 go_wp2_with fail
 refine ord_start (SB (w9.heap.size) [] _) 54 (preB 0 54) (by kernel_rfl) (by kernel_rfl) (by kernel_rfl) SB.refl.drew (fun hHeld => ?_)
 refine oS (i := 0) (preB 1 53) rfl hHeld ?_
 (try simp only [Act.put, putS])
 refine oS (i := 1) (preB 2 52) rfl hHeld ?_
 (try simp only [Act.put, putS])
 refine oS (i := 2) (preB 3 51) rfl hHeld ?_
 (try simp only [Act.put, putS])
 refine oS (i := 3) (preB 4 50) rfl hHeld ?_
 (try simp only [Act.put, putS])
 refine oS (i := 4) (preB 5 49) rfl hHeld ?_
 (try simp only [Act.put, putS])
 refine oS (i := 5) (preB 6 48) rfl hHeld ?_
 (try simp only [Act.put, putS])
 refine oS (i := 6) (preB 7 47) rfl hHeld ?_
 (try simp only [Act.put, putS])
 refine oS (i := 7) (preB 8 46) rfl hHeld ?_
 (try simp only [Act.put, putS])
 refine oS (i := 8) (preB 9 45) rfl hHeld ?_
 (try simp only [Act.put, putS])
 refine oS (i := 9) (preB 10 44) rfl hHeld ?_
 (try simp only [Act.put, putS])
 refine wpAnyH_ready (rs := [10]) (by kernel_rfl) (by simp) ?_
 refine ord_run (i := 10) (preB 11 43) rfl (by kernel_rfl) (by rfl) (fun K hK => ?_) AllReadyH.nil
 go_simp
 go_wp2_with (go_at_call 34; refine (lv_mul _).mono ?_; rintro e w10 ⟨rfl, hb⟩; have q10B : Below w9.heap.size w9 w10 := qB hb; have q10z := hb.size; (try simp at q10z); have q10t : w9.heap.size ≤ w10.heap.size := (by omega); have q10s0 : w8.heap.size < w10.heap.size := (by omega); obtain ⟨q10n0_0, q10n0_1, q10n0_2⟩ := kN q10s0; obtain ⟨q10c0_0, q10c0_1, q10f0⟩ := kC2 hb w8.heap.size; simp [go_sem, *] at q10c0_0 q10c0_1 q10f0; have q10o := belO q10B; have hbS := hb; have hbS10 := hb; clear hb)
 refine hK.out _ _ ?_ (fun hHeld => ?_)
 ·exact sbT
 clear hK K
 (try simp only [Act.put, putS])
 refine oS (i := 11) (preB 12 42) rfl hHeld ?_
 (try simp only [Act.put, putS])
 refine oS (i := 12) (preB 13 41) rfl hHeld ?_
 (try simp only [Act.put, putS])
 refine oS (i := 13) (preB 14 40) rfl hHeld ?_
 (try simp only [Act.put, putS])
 refine oS (i := 14) (preB 15 39) rfl hHeld ?_
 (try simp only [Act.put, putS])
 refine oS (i := 15) (preB 16 38) rfl hHeld ?_
 (try simp only [Act.put, putS])
 refine oS (i := 16) (preB 17 37) rfl hHeld ?_
 (try simp only [Act.put, putS])
 refine oS (i := 17) (preB 18 36) rfl hHeld ?_
 (try simp only [Act.put, putS])
 refine oS (i := 18) (preB 19 35) rfl hHeld ?_
 (try simp only [Act.put, putS])
 refine oS (i := 19) (preB 20 34) rfl hHeld ?_
 (try simp only [Act.put, putS])
 refine oS (i := 20) (preB 21 33) rfl hHeld ?_
 (try simp only [Act.put, putS])
 refine oS (i := 21) (preB 22 32) rfl hHeld ?_
 (try simp only [Act.put, putS])
 refine oS (i := 22) (preB 23 31) rfl hHeld ?_
 (try simp only [Act.put, putS])
 refine oS (i := 23) (preB 24 30) rfl hHeld ?_
 (try simp only [Act.put, putS])
 refine oS (i := 24) (preB 25 29) rfl hHeld ?_
 (try simp only [Act.put, putS])
 refine oS (i := 25) (preB 26 28) rfl hHeld ?_
 (try simp only [Act.put, putS])
 refine oS (i := 26) (preB 27 27) rfl hHeld ?_
 (try simp only [Act.put, putS])
 refine oS (i := 27) (preB 28 26) rfl hHeld ?_
 (try simp only [Act.put, putS])
 refine oS (i := 28) (preB 29 25) rfl hHeld ?_
 (try simp only [Act.put, putS])
 refine oS (i := 29) (preB 30 24) rfl hHeld ?_
 (try simp only [Act.put, putS])
 refine oS (i := 30) (preB 31 23) rfl hHeld ?_
 (try simp only [Act.put, putS])
 refine oS (i := 31) (preB 32 22) rfl hHeld ?_
 (try simp only [Act.put, putS])
 refine oS (i := 32) (preB 33 21) rfl hHeld ?_
 (try simp only [Act.put, putS])
 refine oS (i := 33) (preB 34 20) rfl hHeld ?_
 (try simp only [Act.put, putS])
 refine oS (i := 34) (preB 35 19) rfl hHeld ?_
 (try simp only [Act.put, putS])
 refine oS (i := 35) (preB 36 18) rfl hHeld ?_
 (try simp only [Act.put, putS])
 refine oS (i := 36) (preB 37 17) rfl hHeld ?_
 (try simp only [Act.put, putS])
 refine oS (i := 37) (preB 38 16) rfl hHeld ?_
 (try simp only [Act.put, putS])
 refine oS (i := 38) (preB 39 15) rfl hHeld ?_
 (try simp only [Act.put, putS])
 refine oS (i := 39) (preB 40 14) rfl hHeld ?_
 (try simp only [Act.put, putS])
 refine oS (i := 40) (preB 41 13) rfl hHeld ?_
 (try simp only [Act.put, putS])
 refine oS (i := 41) (preB 42 12) rfl hHeld ?_
 (try simp only [Act.put, putS])
 refine oS (i := 42) (preB 43 11) rfl hHeld ?_
 (try simp only [Act.put, putS])
 refine oS (i := 43) (preB 44 10) rfl hHeld ?_
 (try simp only [Act.put, putS])
 refine oS (i := 44) (preB 45 9) rfl hHeld ?_
 (try simp only [Act.put, putS])
 refine oS (i := 45) (preB 46 8) rfl hHeld ?_
 (try simp only [Act.put, putS])
 refine oT (i := 46) (preB 47 7) (.bool true) rfl hHeld (fun wx hSx => ?_) ?_
 ·(unfold SB at hSx; go_simp; rfl)
 (try simp only [Act.put, putS])
 refine oS (i := 47) (preB 48 6) rfl hHeld ?_
 (try simp only [Act.put, putS])
 refine oS (i := 48) (preB 49 5) rfl hHeld ?_
 (try simp only [Act.put, putS])
 refine oS (i := 49) (preB 50 4) rfl hHeld ?_
 (try simp only [Act.put, putS])
 refine oS (i := 50) (preB 51 3) rfl hHeld ?_
 (try simp only [Act.put, putS])
 refine wpAnyH_ready (rs := [51]) (by kernel_rfl) (by simp) ?_
 refine ord_run (i := 51) (preB 52 2) rfl (by kernel_rfl) (by rfl) (fun K hK => ?_) AllReadyH.nil
 go_simp
 go_wp2_with (go_at_call 10; refine (lv_same _ _ cd cm Ad1 cd1 Ad2 cd2 Am1 cm1 Am2 cm2 _ (HDf.out.below q10B) (HM9.out.below q10B)).mono ?_; rintro e w11 ⟨rfl, hb⟩; have q11B : Below w9.heap.size w9 w11 := qB hb; have q11z := hb.size; (try simp at q11z); have q11t : w9.heap.size ≤ w11.heap.size := (by omega); have q11o := belO q11B; have hbS := hb; have hbS11 := hb; clear hb)
 refine hK.out _ _ ?_ (fun hHeld => ?_)
 ·exact sbT
 clear hK K
 (try simp only [Act.put, putS])
 refine oS (i := 52) (preB 53 1) rfl hHeld ?_
 (try simp only [Act.put, putS])
 refine oS (i := 53) (preB 54 0) rfl hHeld ?_
 (try simp only [Act.put, putS])
 refine wpAnyH_done (by kernel_rfl) ?_ _
 go_wp2_with fail
 go_ret
 exact ⟨rfl, B9.out.trans (q11B.mono B9.out.size)⟩
end Go.Proofs.YtdjlaiilngechaaGreatDoor
namespace Go.Proofs.YtdjlaiilngechaaGreatDoor
set_option maxRecDepth 4000
set_option linter.unusedSimpArgs false
set_option linter.unusedVariables false
open Go.RowKit
theorem lnS_sl {f : Nat → Lin} {P : List (Int × Int) → Prop} : ∀ {k : Nat}, (∀ i, i ≤ k → P (f i).sl) → P (lnS f k).2.sl ∧ ∀ x, x ∈ (lnS f k).1 → P x.sl
 | 0, h => ⟨h 0 (Nat.le_refl _), fun x hx => absurd hx (by simp [lnS])⟩
 | k + 1, h => by
  have ih := lnS_sl (f := f) (P := P) (k := k) (fun i hi => h i (by omega))
  rw [lnS_succ]
  cases c : fitsL (lnS f k).2 (f (k + 1)) with
  | true => rw [step_yes c]; exact ih
  | false =>
   rw [step_no c]
   refine ⟨h (k + 1) (Nat.le_refl _), fun x hx => ?_⟩
   rcases List.mem_append.1 hx with hx | hx
   ·exact ih.2 x hx
   ·rw [List.mem_singleton.1 hx]; exact ih.1
theorem lnL_sl {f : Nat → Lin} {P : List (Int × Int) → Prop} {n : Nat} (h : ∀ i, i < n → P (f i).sl) : ∀ x, x ∈ lnL f n → P x.sl := by
 cases n with
 | zero => intro x hx; simp [lnL] at hx
 | succ k =>
  have t := lnS_sl (f := f) (P := P) (k := k) (fun i hi => h i (by omega))
  intro x hx
  unfold lnL at hx
  rcases List.mem_append.1 hx with hx | hx
  ·exact t.2 x hx
  ·rw [List.mem_singleton.1 hx]; exact t.1
def SameQ (f g f' g' : Nat → Int) (n : Nat) (w : World) (v : Value) (wr : World) : Prop :=
 ∃ k : Nat, k ≤ n ∧ v = .int .i64 k ∧ (∀ j, j < k → f j = f' j ∧ g j = g' j) ∧ ∃ q, wr = w.drewN q
set_option maxHeartbeats 1000000 in
theorem rsamesq_any (A B : Option Addr) (n m c d : Nat) (f g f' g' : Nat → Int) (hl : n ≤ 140737488355328) (w : World) (hr : Row2 w A n f g) (hs : Row2 w B m f' g') :
  Calls Tryz.prog 20 #[.slice A n c, .slice B m d] w fun e w' => e = .returned (.bool (decide (same2 n m f g f' g'))) ∧ ∃ q, w' = w.drewN q := by
 by_cases hnm : n = m
 ·subst hnm
  go_enter Tryz.func20, Tryz.ntmps20
  go_wp2_with fail
  go_loopw [5] (fun v wr => SameQ f g f' g' n w v wr) (fun v _ => n - (intOf v).toNat)
  case atStart => exact ⟨0, by omega, rfl, fun j hj => by omega, 0, rfl⟩
  case round =>
   obtain ⟨k, hk, rfl, ha, q, hq⟩ := hrel
   have HQ := hide hq
   have hB : Below w.heap.size w wr := by rw [hq]; exact below_drewN (Below.refl _ _) q
   clear hq
   have HA := hide ha
   clear ha
   have hzB := hB.size
   by_cases hlt : k < n
   ·obtain ⟨b1, o1, rfl, hb1, hc1⟩ := (hr.below hB) (by omega)
    obtain ⟨c0, c1⟩ := hc1 k hlt
    obtain ⟨b2, o2, rfl, hb2, hc2⟩ := (hs.below hB) (by omega)
    obtain ⟨d0, d1⟩ := hc2 k hlt
    clear hc1 hc2
    have hm1 : (k : Int) < n := by omega
    have hm3 : (0 : Int) ≤ (k : Int) := by omega
    by_cases he : f k = f' k ∧ g k = g' k
    ·have HD : Hid (∀ j, j < k + 1 → f j = f' j ∧ g j = g' j) := fun j hj => by
      rcases Nat.lt_or_ge j k with h1 | h1
      ·exact HA.out j h1
      ·obtain rfl : j = k := by omega
       exact he
     obtain ⟨e1, e2⟩ := he
     go_upto_region 6 with fail
     refine ord_start (SB (wr.heap.size) [] _) 9 (preB 0 9) (by kernel_rfl) (by kernel_rfl) (by kernel_rfl) SB.refl.drew (fun hHeld => ?_)
     refine oS (i := 0) (preB 1 8) rfl hHeld ?_
     (try simp only [Act.put, putS])
     refine oS (i := 1) (preB 2 7) rfl hHeld ?_
     (try simp only [Act.put, putS])
     refine oS (i := 2) (preB 3 6) rfl hHeld ?_
     (try simp only [Act.put, putS])
     refine oS (i := 3) (preB 4 5) rfl hHeld ?_
     (try simp only [Act.put, putS])
     refine oS (i := 4) (preB 5 4) rfl hHeld ?_
     (try simp only [Act.put, putS])
     refine oS (i := 5) (preB 6 3) rfl hHeld ?_
     (try simp only [Act.put, putS])
     refine oS (i := 6) (preB 7 2) rfl hHeld ?_
     (try simp only [Act.put, putS])
     refine oS (i := 7) (preB 8 1) rfl hHeld ?_
     (try simp only [Act.put, putS])
     refine oS (i := 8) (preB 9 0) rfl hHeld ?_
     (try simp only [Act.put, putS])
     refine wpAnyH_done (by kernel_rfl) ?_ _
     go_wp2_with fail
     go_roundw
     case rel => exact ⟨k + 1, by omega, by go_num, HD.out, q + 1, by rw [HQ.out]; rfl⟩
     case measure => simp [intOf]; omega
    ·have HD := hide (show decide (same2 n n f g f' g') = false from decide_eq_false (fun h => he (h.2 k hlt)))
     go_upto_region 6 with fail
     refine ord_start (SB (wr.heap.size) [] _) 9 (preB 0 9) (by kernel_rfl) (by kernel_rfl) (by kernel_rfl) SB.refl.drew (fun hHeld => ?_)
     refine oS (i := 0) (preB 1 8) rfl hHeld ?_
     (try simp only [Act.put, putS])
     refine oS (i := 1) (preB 2 7) rfl hHeld ?_
     (try simp only [Act.put, putS])
     refine oS (i := 2) (preB 3 6) rfl hHeld ?_
     (try simp only [Act.put, putS])
     refine oS (i := 3) (preB 4 5) rfl hHeld ?_
     (try simp only [Act.put, putS])
     refine oS (i := 4) (preB 5 4) rfl hHeld ?_
     (try simp only [Act.put, putS])
     refine oS (i := 5) (preB 6 3) rfl hHeld ?_
     (try simp only [Act.put, putS])
     refine oS (i := 6) (preB 7 2) rfl hHeld ?_
     (try simp only [Act.put, putS])
     refine oS (i := 7) (preB 8 1) rfl hHeld ?_
     (try simp only [Act.put, putS])
     refine oT (i := 8) (preB 9 0) (.bool true) rfl hHeld (fun wx hSx => ?_) ?_
     ·(unfold SB at hSx; go_simp; (rcases Decidable.em (f k = f' k) with q1 | q1); (rcases Decidable.em (g k = g' k) with q2 | q2); (exact absurd ⟨q1, q2⟩ he); (simp [q1, q2]); (simp [q1]))
     (try simp only [Act.put, putS])
     refine wpAnyH_done (by kernel_rfl) ?_ _
     go_wp2_with fail
     go_ret
     exact ⟨by rw [HD.out]; rfl, q + 1, by rw [HQ.out]; rfl⟩
   ·have hkn : k = n := by omega
    subst hkn
    have HD := hide (show decide (same2 k k f g f' g') = true from decide_eq_true ⟨rfl, HA.out⟩)
    go_wp2_with fail
    go_ret
    exact ⟨by rw [HD.out]; rfl, q, HQ.out⟩
 ·have HD := hide (show decide (same2 n m f g f' g') = false from decide_eq_false (fun h => hnm h.1))
  have hnm2 : ¬ (n : Int) = (m : Int) := by omega
  go_enter Tryz.func20, Tryz.ntmps20
  go_wp2_with fail
  go_ret
  exact ⟨by rw [HD.out]; rfl, 0, rfl⟩
theorem rsamelq_any (A B : Option Addr) (l m : List (Int × Int)) (c d : Nat) (hl : l.length ≤ 140737488355328) (w : World) (hr : Row2 w A l.length (fsts l) (snds l)) (hs : Row2 w B m.length (fsts m) (snds m)) :
  Calls Tryz.prog 20 #[.slice A l.length c, .slice B m.length d] w fun e w' => e = .returned (.bool (l == m)) ∧ ∃ q, w' = w.drewN q := by
 refine (rsamesq_any A B l.length m.length c d _ _ _ _ hl w hr hs).mono ?_
 rintro e w' ⟨rfl, hb⟩
 refine ⟨?_, hb⟩
 by_cases h : l = m
 ·rw [decide_eq_true (same2_lists.2 h), beq_iff_eq.2 h]
 ·rw [decide_eq_false (fun g => h (same2_lists.1 g)), beq_eq_false_iff_ne.2 h]
end Go.Proofs.YtdjlaiilngechaaGreatDoor
