/- R03.Format. -/
import Derived.Test.YtodfpfbcjiganaaDoorMnE
namespace Go.Proofs.YtodfpfbcjiganaaDoor
set_option linter.unusedSimpArgs false
set_option linter.unusedVariables false
open Go.RowKit

set_option maxRecDepth 4000 in
set_option maxHeartbeats 2000000 in
theorem rmformat_any (n d : Int) (w : World) :
    Calls Tryd.prog 38 #[.int .i64 n, .int .i64 d] w fun e w' => e = .returned (.tuple #[.string ⟨(amtL n d).toArray⟩, .int .i64 (amtE n d)]) ∧ Below w.heap.size w w' := by
  cases h1 : vmB n with
  | false =>
    have H0 := hide (amt_no (show mnB n d = false by rw [mnB_eq, h1]; rfl))
    have H1 := hide h1
    clear h1
    go_enter Tryd.func38, Tryd.ntmps38
    go_wp2_with fail
    refine (rmvalid_any n _).mono ?_
    rintro e w1 ⟨rfl, rfl⟩
    rw [H1.out]
    go_wp2_with fail
    refine bodyPost_ret (by simp [results, Tryd.results38, go_sem, *] <;> rfl) rfl ⟨?_, ?_⟩
    · rw [H0.out.1, H0.out.2]
    · (repeat (first | (with_reducible exact Below.refl _ _) | (with_reducible assumption) | ((with_reducible refine Below.alloc ?_ ?_ _); (rotate_left); (first | omega | (simp <;> omega))) | ((with_reducible refine Below.setCell ?_ ?_ _); (rotate_left); (first | omega | (simp <;> omega))) | (with_reducible refine Below.drew ?_) | (with_reducible refine below_drewN ?_ _)))
  | true =>
    by_cases d0 : d < 0
    · have H0 := hide (amt_no (show mnB n d = false by unfold mnB; simp; omega))
      have H1 := hide h1
      clear h1
      go_enter Tryd.func38, Tryd.ntmps38
      go_wp2_with fail
      refine (rmvalid_any n _).mono ?_
      rintro e w1 ⟨rfl, rfl⟩
      rw [H1.out]
      go_wp2_with fail
      refine bodyPost_ret (by simp [results, Tryd.results38, go_sem, *] <;> rfl) rfl ⟨?_, ?_⟩
      · rw [H0.out.1, H0.out.2]
      · (repeat (first | (with_reducible exact Below.refl _ _) | (with_reducible assumption) | ((with_reducible refine Below.alloc ?_ ?_ _); (rotate_left); (first | omega | (simp <;> omega))) | ((with_reducible refine Below.setCell ?_ ?_ _); (rotate_left); (first | omega | (simp <;> omega))) | (with_reducible refine Below.drew ?_) | (with_reducible refine below_drewN ?_ _)))
    · have d0' := Int.not_lt.1 d0
      clear d0
      by_cases d4 : d > 4
      · have d4' : 4 < d := d4
        clear d4
        have H0 := hide (amt_no (show mnB n d = false by unfold mnB; simp; omega))
        have H1 := hide h1
        clear h1
        go_enter Tryd.func38, Tryd.ntmps38
        go_wp2_with fail
        refine (rmvalid_any n _).mono ?_
        rintro e w1 ⟨rfl, rfl⟩
        rw [H1.out]
        go_wp2_with fail
        refine bodyPost_ret (by simp [results, Tryd.results38, go_sem, *] <;> rfl) rfl ⟨?_, ?_⟩
        · rw [H0.out.1, H0.out.2]
        · (repeat (first | (with_reducible exact Below.refl _ _) | (with_reducible assumption) | ((with_reducible refine Below.alloc ?_ ?_ _); (rotate_left); (first | omega | (simp <;> omega))) | ((with_reducible refine Below.setCell ?_ ?_ _); (rotate_left); (first | omega | (simp <;> omega))) | (with_reducible refine Below.drew ?_) | (with_reducible refine below_drewN ?_ _)))
      · have d4' := Int.not_lt.1 d4
        clear d4
        have H0' := hide (amt_yes (show mnB n d = true by rw [mnB_eq, h1, plB_iff.2 ⟨d0', d4'⟩]; rfl))
        have HM := hide (vmB_iff.1 h1)
        have H1 := hide h1
        clear h1
        obtain ⟨D, rfl⟩ : ∃ D : Nat, d = D := ⟨d.toNat, by omega⟩
        have hD : D ≤ 4 := by omega
        have H0 := hide (show amtL n D = mnL n D ∧ amtE n D = 0 by have := H0'.out; rw [this.1, this.2]; exact ⟨rfl, rfl⟩)
        clear H0'
        clear d0' d4'
        by_cases hs : n < 0
        · obtain ⟨a, rfl⟩ : ∃ a : Nat, n = -(a : Int) := ⟨n.natAbs, by omega⟩
          have ha : a ≤ 1000000000000 := by have := HM.out; omega
          have hs2 : -(a : Int) < 0 := hs
          have hs3 : (0 : Int) < a := by omega
          have hs4 : - -(a : Int) = a := by omega
          clear hs
          have HL := hide (mnL_neg (a := a) (D := D) (by omega))
          go_enter Tryd.func38, Tryd.ntmps38
          go_wp2_with fail
          refine (rmvalid_any _ _).mono ?_
          rintro e w1 ⟨rfl, rfl⟩
          rw [H1.out]
          go_wp2_with fail
          refine (power_any D hD _).mono ?_
          rintro e w1 ⟨rfl, rfl⟩
          obtain ⟨p, hp⟩ : ∃ p, p = 10 ^ D := ⟨_, rfl⟩
          have hp0 : 0 < p := by rw [hp]; exact Nat.pow_pos (by decide)
          have hp4 : p ≤ 10000 := by rw [hp]; exact pow_le4 hD
          have HP := hide hp
          rw [← hp]
          clear hp
          have hq1 : a / p ≤ a := Nat.div_le_self _ _
          have hq2 : a % p < p := Nat.mod_lt _ hp0
          by_cases hz : D = 0
          · have h0 : ((D : Int) == 0) = true := by rw [hz]; rfl
            have HR := hide (show (⟨#[45]⟩ : ByteArray) ++ (⟨(Lib.decDigits a).toArray⟩ : ByteArray) = ⟨([45] ++ (wholeL a D ++ (if D = 0 then [] else 46 :: dgs a D))).toArray⟩ by unfold wholeL; rw [hz]; simp; exact bcat [45] _)
            clear hz
            go_wp2_with fail
            refine (rdigits_any a (by omega) _).mono ?_
            rintro e w2 ⟨rfl, rfl⟩
            have hl := Lib.decDigits_length a
            have hl2 := Lib.nDigits_le20 a (by omega)
            go_wp2_with fail
            refine bodyPost_ret (by simp [results, Tryd.results38, go_sem, *] <;> rfl) rfl ⟨?_, ?_⟩
            · rw [H0.out.1, H0.out.2, HL.out, ← HR.out]
            · (repeat (first | (with_reducible exact Below.refl _ _) | (with_reducible assumption) | ((with_reducible refine Below.alloc ?_ ?_ _); (rotate_left); (first | omega | (simp <;> omega))) | ((with_reducible refine Below.setCell ?_ ?_ _); (rotate_left); (first | omega | (simp <;> omega))) | (with_reducible refine Below.drew ?_) | (with_reducible refine below_drewN ?_ _)))
          · have h0 : ((D : Int) == 0) = false := by simpa using hz
            have HL := hide (HL.out.trans (by rw [if_neg hz]))
            clear hz
            obtain ⟨u, hu⟩ : ∃ u, u = a / p := ⟨_, rfl⟩
            obtain ⟨v, hv⟩ : ∃ v, v = a % p := ⟨_, rfl⟩
            have e1 := quo_id hu ha
            have e2 := tmod_id hv
            have hpz : ¬ p = 0 := by omega
            obtain ⟨s, hs⟩ : ∃ s, s = p + v := ⟨_, rfl⟩
            have e3 : (p : Int) + v = (s : Int) := by omega
            have hs2 : s ≤ 20000 := by omega
            have e4 : IntKind.i64.wrap (s : Int) = s := by rw [i64w]; unfold wrap64; omega
            have hv2 : v < p := by omega
            have hu2 : u ≤ a := by omega
            have HR := hide (fin_frac [45] (Lib.decDigits u) (Lib.decDigits s) (dgs a D) _ (by rw [hs, hv, HP.out]; exact frac_drop a D) (Lib.decDigits_length s).symm)
            have HW := hide (show wholeL a D = Lib.decDigits u by unfold wholeL; rw [hu, HP.out])
            clear hu hv hs hq1 hq2
            have hl := Lib.decDigits_length u
            have hl2 := Lib.nDigits_le20 u (by omega)
            have hl3 := Lib.decDigits_length s
            have hl4 := Lib.nDigits_le20 s (by omega)
            have hl5 := Lib.nDigits_pos s
            have hl6 : (1 : Int) ≤ (Lib.nDigits s : Int) := by omega
            have hs0 : ¬ 9223372036854775807 < 1 + Lib.nDigits u := by omega
            have hs1 : ¬ 9223372036854775807 < 1 + Lib.nDigits u + 1 := by omega
            have hs2 : ¬ 9223372036854775807 < 1 + Lib.nDigits u + 1 + (Lib.nDigits s - 1) := by omega
            go_wp2_with fail
            refine ord_start (SB (w.heap.size) [] _) 17 #[false, false, false, false, false, false, false, false, false, false, false, false, false, false, false, false, false] (by kernel_rfl) (by kernel_rfl) (by kernel_rfl) SB.refl.drew (fun hHeld => ?_)
            refine ord_take (i := 0) #[true, false, false, false, false, false, false, false, false, false, false, false, false, false, false, false, false] ?_ rfl (by kernel_rfl) (by kernel_rfl) (by kernel_rfl) (by kernel_rfl) (fun _ _ _ h => h) hHeld (by rfl) (fun wx hSx => ?_) ?_
            rotate_left
            · (unfold SB at hSx; go_simp; (try with_reducible rfl))
            (try simp only [Act.put, List.setIfInBounds_toArray, List.set_cons_zero, List.set_cons_succ])
            refine ord_take (i := 1) #[true, true, false, false, false, false, false, false, false, false, false, false, false, false, false, false, false] ?_ rfl (by kernel_rfl) (by kernel_rfl) (by kernel_rfl) (by kernel_rfl) (fun _ _ _ h => h) hHeld (by rfl) (fun wx hSx => ?_) ?_
            rotate_left
            · (unfold SB at hSx; go_simp; (try with_reducible rfl))
            (try simp only [Act.put, List.setIfInBounds_toArray, List.set_cons_zero, List.set_cons_succ])
            refine ord_take (i := 2) #[true, true, true, false, false, false, false, false, false, false, false, false, false, false, false, false, false] ?_ rfl (by kernel_rfl) (by kernel_rfl) (by kernel_rfl) (by kernel_rfl) (fun _ _ _ h => h) hHeld (by rfl) (fun wx hSx => ?_) ?_
            rotate_left
            · (unfold SB at hSx; go_simp; (try with_reducible rfl))
            (try simp only [Act.put, List.setIfInBounds_toArray, List.set_cons_zero, List.set_cons_succ])
            refine ord_take (i := 3) #[true, true, true, true, false, false, false, false, false, false, false, false, false, false, false, false, false] ?_ rfl (by kernel_rfl) (by kernel_rfl) (by kernel_rfl) (by kernel_rfl) (fun _ _ _ h => h) hHeld (by rfl) (fun wx hSx => ?_) ?_
            rotate_left
            · (unfold SB at hSx; go_simp; (try with_reducible rfl))
            (try simp only [Act.put, List.setIfInBounds_toArray, List.set_cons_zero, List.set_cons_succ])
            refine ord_take (i := 7) #[true, true, true, true, false, false, false, true, false, false, false, false, false, false, false, false, false] ?_ rfl (by kernel_rfl) (by kernel_rfl) (by kernel_rfl) (by kernel_rfl) (fun _ _ _ h => h) hHeld (by rfl) (fun wx hSx => ?_) ?_
            rotate_left
            · (unfold SB at hSx; go_simp; (try with_reducible rfl))
            (try simp only [Act.put, List.setIfInBounds_toArray, List.set_cons_zero, List.set_cons_succ])
            refine ord_take (i := 8) #[true, true, true, true, false, false, false, true, true, false, false, false, false, false, false, false, false] ?_ rfl (by kernel_rfl) (by kernel_rfl) (by kernel_rfl) (by kernel_rfl) (fun _ _ _ h => h) hHeld (by rfl) (fun wx hSx => ?_) ?_
            rotate_left
            · (unfold SB at hSx; go_simp; (try with_reducible rfl))
            (try simp only [Act.put, List.setIfInBounds_toArray, List.set_cons_zero, List.set_cons_succ])
            refine ord_take (i := 9) #[true, true, true, true, false, false, false, true, true, true, false, false, false, false, false, false, false] ?_ rfl (by kernel_rfl) (by kernel_rfl) (by kernel_rfl) (by kernel_rfl) (fun _ _ _ h => h) hHeld (by rfl) (fun wx hSx => ?_) ?_
            rotate_left
            · (unfold SB at hSx; go_simp; (try with_reducible rfl))
            (try simp only [Act.put, List.setIfInBounds_toArray, List.set_cons_zero, List.set_cons_succ])
            refine ord_take (i := 10) #[true, true, true, true, false, false, false, true, true, true, true, false, false, false, false, false, false] ?_ rfl (by kernel_rfl) (by kernel_rfl) (by kernel_rfl) (by kernel_rfl) (fun _ _ _ h => h) hHeld (by rfl) (fun wx hSx => ?_) ?_
            rotate_left
            · (unfold SB at hSx; go_simp; (try with_reducible rfl))
            (try simp only [Act.put, List.setIfInBounds_toArray, List.set_cons_zero, List.set_cons_succ])
            refine ord_take (i := 11) #[true, true, true, true, false, false, false, true, true, true, true, true, false, false, false, false, false] ?_ rfl (by kernel_rfl) (by kernel_rfl) (by kernel_rfl) (by kernel_rfl) (fun _ _ _ h => h) hHeld (by rfl) (fun wx hSx => ?_) ?_
            rotate_left
            · (unfold SB at hSx; go_simp; (try with_reducible rfl))
            (try simp only [Act.put, List.setIfInBounds_toArray, List.set_cons_zero, List.set_cons_succ])
            refine wpAnyH_ready (rs := [4]) (by kernel_rfl) (by simp) ?_
            refine ord_run (i := 4) #[true, true, true, true, true, false, false, true, true, true, true, true, false, false, false, false, false] rfl (by kernel_rfl) (by rfl) (fun K hK => ?_) AllReadyH.nil
            go_simp
            go_wp2_with (go_at_call 52; refine (rdigits_any u (by omega) _).mono ?_; rintro e w2 ⟨rfl, rfl⟩)
            refine hK.out _ _ ?_ (fun hHeld => ?_)
            · (repeat (first | (with_reducible exact SB.refl) | (with_reducible exact hHeld) | (with_reducible refine SB.drew ?_) | (with_reducible refine SB.drewN ?_ _) | ((with_reducible refine SB.alloc ?_ ?_ _); (rotate_left); (first | omega | (simp <;> omega))) | ((with_reducible refine SB.setCell ?_ ?_ _); (rotate_left); (focus (first | (simp; done) | (right; first | omega | (simp <;> omega))))) | ((with_reducible refine SB.below ?_ hbS ?_); (rotate_left); (first | omega | (simp <;> omega))) | ((with_reducible refine SB.below ?_ hbS1 ?_); (rotate_left); (first | omega | (simp <;> omega))) | ((with_reducible refine SB.below ?_ hbS2 ?_); (rotate_left); (first | omega | (simp <;> omega))) | ((with_reducible refine SB.below ?_ hbS3 ?_); (rotate_left); (first | omega | (simp <;> omega))) | ((with_reducible refine SB.below ?_ hbS4 ?_); (rotate_left); (first | omega | (simp <;> omega))) | (with_reducible refine SB.undrew ?_) | ((with_reducible refine SB.congr ?_ ?_); (rotate_left); (focus (simp; done))) | ((with_reducible refine SB.realloc ?_ ?_ ?_); (rotate_left); (focus (simp; done)); (focus (simp; done)))))
            clear hK K
            (try simp only [Act.put, List.setIfInBounds_toArray, List.set_cons_zero, List.set_cons_succ])
            refine ord_take (i := 5) #[true, true, true, true, true, true, false, true, true, true, true, true, false, false, false, false, false] ?_ rfl (by kernel_rfl) (by kernel_rfl) (by kernel_rfl) (by kernel_rfl) (fun _ _ _ h => h) hHeld (by rfl) (fun wx hSx => ?_) ?_
            rotate_left
            · (unfold SB at hSx; go_simp; (try with_reducible rfl))
            (try simp only [Act.put, List.setIfInBounds_toArray, List.set_cons_zero, List.set_cons_succ])
            refine ord_take (i := 6) #[true, true, true, true, true, true, true, true, true, true, true, true, false, false, false, false, false] ?_ rfl (by kernel_rfl) (by kernel_rfl) (by kernel_rfl) (by kernel_rfl) (fun _ _ _ h => h) hHeld (by rfl) (fun wx hSx => ?_) ?_
            rotate_left
            · (unfold SB at hSx; go_simp; (try with_reducible rfl))
            (try simp only [Act.put, List.setIfInBounds_toArray, List.set_cons_zero, List.set_cons_succ])
            refine wpAnyH_ready (rs := [12]) (by kernel_rfl) (by simp) ?_
            refine ord_run (i := 12) #[true, true, true, true, true, true, true, true, true, true, true, true, true, false, false, false, false] rfl (by kernel_rfl) (by rfl) (fun K hK => ?_) AllReadyH.nil
            go_simp
            go_wp2_with (go_at_call 52; refine (rdigits_any s (by omega) _).mono ?_; rintro e w2 ⟨rfl, rfl⟩)
            refine hK.out _ _ ?_ (fun hHeld => ?_)
            · (repeat (first | (with_reducible exact SB.refl) | (with_reducible exact hHeld) | (with_reducible refine SB.drew ?_) | (with_reducible refine SB.drewN ?_ _) | ((with_reducible refine SB.alloc ?_ ?_ _); (rotate_left); (first | omega | (simp <;> omega))) | ((with_reducible refine SB.setCell ?_ ?_ _); (rotate_left); (focus (first | (simp; done) | (right; first | omega | (simp <;> omega))))) | ((with_reducible refine SB.below ?_ hbS ?_); (rotate_left); (first | omega | (simp <;> omega))) | ((with_reducible refine SB.below ?_ hbS1 ?_); (rotate_left); (first | omega | (simp <;> omega))) | ((with_reducible refine SB.below ?_ hbS2 ?_); (rotate_left); (first | omega | (simp <;> omega))) | ((with_reducible refine SB.below ?_ hbS3 ?_); (rotate_left); (first | omega | (simp <;> omega))) | ((with_reducible refine SB.below ?_ hbS4 ?_); (rotate_left); (first | omega | (simp <;> omega))) | (with_reducible refine SB.undrew ?_) | ((with_reducible refine SB.congr ?_ ?_); (rotate_left); (focus (simp; done))) | ((with_reducible refine SB.realloc ?_ ?_ ?_); (rotate_left); (focus (simp; done)); (focus (simp; done)))))
            clear hK K
            (try simp only [Act.put, List.setIfInBounds_toArray, List.set_cons_zero, List.set_cons_succ])
            refine ord_take (i := 13) #[true, true, true, true, true, true, true, true, true, true, true, true, true, true, false, false, false] ?_ rfl (by kernel_rfl) (by kernel_rfl) (by kernel_rfl) (by kernel_rfl) (fun _ _ _ h => h) hHeld (by rfl) (fun wx hSx => ?_) ?_
            rotate_left
            · (unfold SB at hSx; go_simp; (try with_reducible rfl))
            (try simp only [Act.put, List.setIfInBounds_toArray, List.set_cons_zero, List.set_cons_succ])
            refine ord_take (i := 14) #[true, true, true, true, true, true, true, true, true, true, true, true, true, true, true, false, false] ?_ rfl (by kernel_rfl) (by kernel_rfl) (by kernel_rfl) (by kernel_rfl) (fun _ _ _ h => h) hHeld (by rfl) (fun wx hSx => ?_) ?_
            rotate_left
            · (unfold SB at hSx; go_simp; (try with_reducible rfl))
            (try simp only [Act.put, List.setIfInBounds_toArray, List.set_cons_zero, List.set_cons_succ])
            refine ord_take (i := 15) #[true, true, true, true, true, true, true, true, true, true, true, true, true, true, true, true, false] ?_ rfl (by kernel_rfl) (by kernel_rfl) (by kernel_rfl) (by kernel_rfl) (fun _ _ _ h => h) hHeld (by rfl) (fun wx hSx => ?_) ?_
            rotate_left
            · (unfold SB at hSx; go_simp; (try with_reducible rfl))
            (try simp only [Act.put, List.setIfInBounds_toArray, List.set_cons_zero, List.set_cons_succ])
            refine ord_take (i := 16) #[true, true, true, true, true, true, true, true, true, true, true, true, true, true, true, true, true] ?_ rfl (by kernel_rfl) (by kernel_rfl) (by kernel_rfl) (by kernel_rfl) (fun _ _ _ h => h) hHeld (by rfl) (fun wx hSx => ?_) ?_
            rotate_left
            · (unfold SB at hSx; go_simp; (try with_reducible rfl))
            (try simp only [Act.put, List.setIfInBounds_toArray, List.set_cons_zero, List.set_cons_succ])
            refine wpAnyH_done (by kernel_rfl) ?_ _
            go_wp2_with fail; (refine bodyPost_ret (by simp [results, Tryd.results38, go_sem, *] <;> rfl) rfl ⟨?_, ?_⟩); (focus (rw [H0.out.1, H0.out.2, HL.out, HW.out, ← HR.out])); ((repeat (first | (with_reducible exact Below.refl _ _) | (with_reducible assumption) | ((with_reducible refine Below.alloc ?_ ?_ _); (rotate_left); (first | omega | (simp <;> omega))) | ((with_reducible refine Below.setCell ?_ ?_ _); (rotate_left); (first | omega | (simp <;> omega))) | (with_reducible refine Below.drew ?_) | (with_reducible refine below_drewN ?_ _))))
        · obtain ⟨a, rfl⟩ : ∃ a : Nat, n = (a : Int) := ⟨n.natAbs, by omega⟩
          have ha : a ≤ 1000000000000 := by have := HM.out; omega
          have hs2 : ¬ (a : Int) < 0 := by omega
          clear hs
          have HL := hide (mnL_pos a D)
          go_enter Tryd.func38, Tryd.ntmps38
          go_wp2_with fail
          refine (rmvalid_any _ _).mono ?_
          rintro e w1 ⟨rfl, rfl⟩
          rw [H1.out]
          go_wp2_with fail
          refine (power_any D hD _).mono ?_
          rintro e w1 ⟨rfl, rfl⟩
          obtain ⟨p, hp⟩ : ∃ p, p = 10 ^ D := ⟨_, rfl⟩
          have hp0 : 0 < p := by rw [hp]; exact Nat.pow_pos (by decide)
          have hp4 : p ≤ 10000 := by rw [hp]; exact pow_le4 hD
          have HP := hide hp
          rw [← hp]
          clear hp
          have hq1 : a / p ≤ a := Nat.div_le_self _ _
          have hq2 : a % p < p := Nat.mod_lt _ hp0
          by_cases hz : D = 0
          · have h0 : ((D : Int) == 0) = true := by rw [hz]; rfl
            have HR := hide (show (⟨#[]⟩ : ByteArray) ++ (⟨(Lib.decDigits a).toArray⟩ : ByteArray) = ⟨([] ++ (wholeL a D ++ (if D = 0 then [] else 46 :: dgs a D))).toArray⟩ by unfold wholeL; rw [hz]; simp; exact bcat [] _)
            clear hz
            go_wp2_with fail
            refine (rdigits_any a (by omega) _).mono ?_
            rintro e w2 ⟨rfl, rfl⟩
            have hl := Lib.decDigits_length a
            have hl2 := Lib.nDigits_le20 a (by omega)
            go_wp2_with fail
            refine bodyPost_ret (by simp [results, Tryd.results38, go_sem, *] <;> rfl) rfl ⟨?_, ?_⟩
            · rw [H0.out.1, H0.out.2, HL.out, ← HR.out]
            · (repeat (first | (with_reducible exact Below.refl _ _) | (with_reducible assumption) | ((with_reducible refine Below.alloc ?_ ?_ _); (rotate_left); (first | omega | (simp <;> omega))) | ((with_reducible refine Below.setCell ?_ ?_ _); (rotate_left); (first | omega | (simp <;> omega))) | (with_reducible refine Below.drew ?_) | (with_reducible refine below_drewN ?_ _)))
          · have h0 : ((D : Int) == 0) = false := by simpa using hz
            have HL := hide (HL.out.trans (by rw [if_neg hz]))
            clear hz
            obtain ⟨u, hu⟩ : ∃ u, u = a / p := ⟨_, rfl⟩
            obtain ⟨v, hv⟩ : ∃ v, v = a % p := ⟨_, rfl⟩
            have e1 := quo_id hu ha
            have e2 := tmod_id hv
            have hpz : ¬ p = 0 := by omega
            obtain ⟨s, hs⟩ : ∃ s, s = p + v := ⟨_, rfl⟩
            have e3 : (p : Int) + v = (s : Int) := by omega
            have hs2 : s ≤ 20000 := by omega
            have e4 : IntKind.i64.wrap (s : Int) = s := by rw [i64w]; unfold wrap64; omega
            have hv2 : v < p := by omega
            have hu2 : u ≤ a := by omega
            have HR := hide (fin_frac [] (Lib.decDigits u) (Lib.decDigits s) (dgs a D) _ (by rw [hs, hv, HP.out]; exact frac_drop a D) (Lib.decDigits_length s).symm)
            have HW := hide (show wholeL a D = Lib.decDigits u by unfold wholeL; rw [hu, HP.out])
            clear hu hv hs hq1 hq2
            have hl := Lib.decDigits_length u
            have hl2 := Lib.nDigits_le20 u (by omega)
            have hl3 := Lib.decDigits_length s
            have hl4 := Lib.nDigits_le20 s (by omega)
            have hl5 := Lib.nDigits_pos s
            have hl6 : (1 : Int) ≤ (Lib.nDigits s : Int) := by omega
            have hs0 : ¬ 9223372036854775807 < Lib.nDigits u := by omega
            have hs1 : ¬ 9223372036854775807 < Lib.nDigits u + 1 := by omega
            have hs2 : ¬ 9223372036854775807 < Lib.nDigits u + 1 + (Lib.nDigits s - 1) := by omega
            go_wp2_with fail
            refine ord_start (SB (w.heap.size) [] _) 17 #[false, false, false, false, false, false, false, false, false, false, false, false, false, false, false, false, false] (by kernel_rfl) (by kernel_rfl) (by kernel_rfl) SB.refl.drew (fun hHeld => ?_)
            refine ord_take (i := 0) #[true, false, false, false, false, false, false, false, false, false, false, false, false, false, false, false, false] ?_ rfl (by kernel_rfl) (by kernel_rfl) (by kernel_rfl) (by kernel_rfl) (fun _ _ _ h => h) hHeld (by rfl) (fun wx hSx => ?_) ?_
            rotate_left
            · (unfold SB at hSx; go_simp; (try with_reducible rfl))
            (try simp only [Act.put, List.setIfInBounds_toArray, List.set_cons_zero, List.set_cons_succ])
            refine ord_take (i := 1) #[true, true, false, false, false, false, false, false, false, false, false, false, false, false, false, false, false] ?_ rfl (by kernel_rfl) (by kernel_rfl) (by kernel_rfl) (by kernel_rfl) (fun _ _ _ h => h) hHeld (by rfl) (fun wx hSx => ?_) ?_
            rotate_left
            · (unfold SB at hSx; go_simp; (try with_reducible rfl))
            (try simp only [Act.put, List.setIfInBounds_toArray, List.set_cons_zero, List.set_cons_succ])
            refine ord_take (i := 2) #[true, true, true, false, false, false, false, false, false, false, false, false, false, false, false, false, false] ?_ rfl (by kernel_rfl) (by kernel_rfl) (by kernel_rfl) (by kernel_rfl) (fun _ _ _ h => h) hHeld (by rfl) (fun wx hSx => ?_) ?_
            rotate_left
            · (unfold SB at hSx; go_simp; (try with_reducible rfl))
            (try simp only [Act.put, List.setIfInBounds_toArray, List.set_cons_zero, List.set_cons_succ])
            refine ord_take (i := 3) #[true, true, true, true, false, false, false, false, false, false, false, false, false, false, false, false, false] ?_ rfl (by kernel_rfl) (by kernel_rfl) (by kernel_rfl) (by kernel_rfl) (fun _ _ _ h => h) hHeld (by rfl) (fun wx hSx => ?_) ?_
            rotate_left
            · (unfold SB at hSx; go_simp; (try with_reducible rfl))
            (try simp only [Act.put, List.setIfInBounds_toArray, List.set_cons_zero, List.set_cons_succ])
            refine ord_take (i := 7) #[true, true, true, true, false, false, false, true, false, false, false, false, false, false, false, false, false] ?_ rfl (by kernel_rfl) (by kernel_rfl) (by kernel_rfl) (by kernel_rfl) (fun _ _ _ h => h) hHeld (by rfl) (fun wx hSx => ?_) ?_
            rotate_left
            · (unfold SB at hSx; go_simp; (try with_reducible rfl))
            (try simp only [Act.put, List.setIfInBounds_toArray, List.set_cons_zero, List.set_cons_succ])
            refine ord_take (i := 8) #[true, true, true, true, false, false, false, true, true, false, false, false, false, false, false, false, false] ?_ rfl (by kernel_rfl) (by kernel_rfl) (by kernel_rfl) (by kernel_rfl) (fun _ _ _ h => h) hHeld (by rfl) (fun wx hSx => ?_) ?_
            rotate_left
            · (unfold SB at hSx; go_simp; (try with_reducible rfl))
            (try simp only [Act.put, List.setIfInBounds_toArray, List.set_cons_zero, List.set_cons_succ])
            refine ord_take (i := 9) #[true, true, true, true, false, false, false, true, true, true, false, false, false, false, false, false, false] ?_ rfl (by kernel_rfl) (by kernel_rfl) (by kernel_rfl) (by kernel_rfl) (fun _ _ _ h => h) hHeld (by rfl) (fun wx hSx => ?_) ?_
            rotate_left
            · (unfold SB at hSx; go_simp; (try with_reducible rfl))
            (try simp only [Act.put, List.setIfInBounds_toArray, List.set_cons_zero, List.set_cons_succ])
            refine ord_take (i := 10) #[true, true, true, true, false, false, false, true, true, true, true, false, false, false, false, false, false] ?_ rfl (by kernel_rfl) (by kernel_rfl) (by kernel_rfl) (by kernel_rfl) (fun _ _ _ h => h) hHeld (by rfl) (fun wx hSx => ?_) ?_
            rotate_left
            · (unfold SB at hSx; go_simp; (try with_reducible rfl))
            (try simp only [Act.put, List.setIfInBounds_toArray, List.set_cons_zero, List.set_cons_succ])
            refine ord_take (i := 11) #[true, true, true, true, false, false, false, true, true, true, true, true, false, false, false, false, false] ?_ rfl (by kernel_rfl) (by kernel_rfl) (by kernel_rfl) (by kernel_rfl) (fun _ _ _ h => h) hHeld (by rfl) (fun wx hSx => ?_) ?_
            rotate_left
            · (unfold SB at hSx; go_simp; (try with_reducible rfl))
            (try simp only [Act.put, List.setIfInBounds_toArray, List.set_cons_zero, List.set_cons_succ])
            refine wpAnyH_ready (rs := [4]) (by kernel_rfl) (by simp) ?_
            refine ord_run (i := 4) #[true, true, true, true, true, false, false, true, true, true, true, true, false, false, false, false, false] rfl (by kernel_rfl) (by rfl) (fun K hK => ?_) AllReadyH.nil
            go_simp
            go_wp2_with (go_at_call 52; refine (rdigits_any u (by omega) _).mono ?_; rintro e w2 ⟨rfl, rfl⟩)
            refine hK.out _ _ ?_ (fun hHeld => ?_)
            · (repeat (first | (with_reducible exact SB.refl) | (with_reducible exact hHeld) | (with_reducible refine SB.drew ?_) | (with_reducible refine SB.drewN ?_ _) | ((with_reducible refine SB.alloc ?_ ?_ _); (rotate_left); (first | omega | (simp <;> omega))) | ((with_reducible refine SB.setCell ?_ ?_ _); (rotate_left); (focus (first | (simp; done) | (right; first | omega | (simp <;> omega))))) | ((with_reducible refine SB.below ?_ hbS ?_); (rotate_left); (first | omega | (simp <;> omega))) | ((with_reducible refine SB.below ?_ hbS1 ?_); (rotate_left); (first | omega | (simp <;> omega))) | ((with_reducible refine SB.below ?_ hbS2 ?_); (rotate_left); (first | omega | (simp <;> omega))) | ((with_reducible refine SB.below ?_ hbS3 ?_); (rotate_left); (first | omega | (simp <;> omega))) | ((with_reducible refine SB.below ?_ hbS4 ?_); (rotate_left); (first | omega | (simp <;> omega))) | (with_reducible refine SB.undrew ?_) | ((with_reducible refine SB.congr ?_ ?_); (rotate_left); (focus (simp; done))) | ((with_reducible refine SB.realloc ?_ ?_ ?_); (rotate_left); (focus (simp; done)); (focus (simp; done)))))
            clear hK K
            (try simp only [Act.put, List.setIfInBounds_toArray, List.set_cons_zero, List.set_cons_succ])
            refine ord_take (i := 5) #[true, true, true, true, true, true, false, true, true, true, true, true, false, false, false, false, false] ?_ rfl (by kernel_rfl) (by kernel_rfl) (by kernel_rfl) (by kernel_rfl) (fun _ _ _ h => h) hHeld (by rfl) (fun wx hSx => ?_) ?_
            rotate_left
            · (unfold SB at hSx; go_simp; (try with_reducible rfl))
            (try simp only [Act.put, List.setIfInBounds_toArray, List.set_cons_zero, List.set_cons_succ])
            refine ord_take (i := 6) #[true, true, true, true, true, true, true, true, true, true, true, true, false, false, false, false, false] ?_ rfl (by kernel_rfl) (by kernel_rfl) (by kernel_rfl) (by kernel_rfl) (fun _ _ _ h => h) hHeld (by rfl) (fun wx hSx => ?_) ?_
            rotate_left
            · (unfold SB at hSx; go_simp; (try with_reducible rfl))
            (try simp only [Act.put, List.setIfInBounds_toArray, List.set_cons_zero, List.set_cons_succ])
            refine wpAnyH_ready (rs := [12]) (by kernel_rfl) (by simp) ?_
            refine ord_run (i := 12) #[true, true, true, true, true, true, true, true, true, true, true, true, true, false, false, false, false] rfl (by kernel_rfl) (by rfl) (fun K hK => ?_) AllReadyH.nil
            go_simp
            go_wp2_with (go_at_call 52; refine (rdigits_any s (by omega) _).mono ?_; rintro e w2 ⟨rfl, rfl⟩)
            refine hK.out _ _ ?_ (fun hHeld => ?_)
            · (repeat (first | (with_reducible exact SB.refl) | (with_reducible exact hHeld) | (with_reducible refine SB.drew ?_) | (with_reducible refine SB.drewN ?_ _) | ((with_reducible refine SB.alloc ?_ ?_ _); (rotate_left); (first | omega | (simp <;> omega))) | ((with_reducible refine SB.setCell ?_ ?_ _); (rotate_left); (focus (first | (simp; done) | (right; first | omega | (simp <;> omega))))) | ((with_reducible refine SB.below ?_ hbS ?_); (rotate_left); (first | omega | (simp <;> omega))) | ((with_reducible refine SB.below ?_ hbS1 ?_); (rotate_left); (first | omega | (simp <;> omega))) | ((with_reducible refine SB.below ?_ hbS2 ?_); (rotate_left); (first | omega | (simp <;> omega))) | ((with_reducible refine SB.below ?_ hbS3 ?_); (rotate_left); (first | omega | (simp <;> omega))) | ((with_reducible refine SB.below ?_ hbS4 ?_); (rotate_left); (first | omega | (simp <;> omega))) | (with_reducible refine SB.undrew ?_) | ((with_reducible refine SB.congr ?_ ?_); (rotate_left); (focus (simp; done))) | ((with_reducible refine SB.realloc ?_ ?_ ?_); (rotate_left); (focus (simp; done)); (focus (simp; done)))))
            clear hK K
            (try simp only [Act.put, List.setIfInBounds_toArray, List.set_cons_zero, List.set_cons_succ])
            refine ord_take (i := 13) #[true, true, true, true, true, true, true, true, true, true, true, true, true, true, false, false, false] ?_ rfl (by kernel_rfl) (by kernel_rfl) (by kernel_rfl) (by kernel_rfl) (fun _ _ _ h => h) hHeld (by rfl) (fun wx hSx => ?_) ?_
            rotate_left
            · (unfold SB at hSx; go_simp; (try with_reducible rfl))
            (try simp only [Act.put, List.setIfInBounds_toArray, List.set_cons_zero, List.set_cons_succ])
            refine ord_take (i := 14) #[true, true, true, true, true, true, true, true, true, true, true, true, true, true, true, false, false] ?_ rfl (by kernel_rfl) (by kernel_rfl) (by kernel_rfl) (by kernel_rfl) (fun _ _ _ h => h) hHeld (by rfl) (fun wx hSx => ?_) ?_
            rotate_left
            · (unfold SB at hSx; go_simp; (try with_reducible rfl))
            (try simp only [Act.put, List.setIfInBounds_toArray, List.set_cons_zero, List.set_cons_succ])
            refine ord_take (i := 15) #[true, true, true, true, true, true, true, true, true, true, true, true, true, true, true, true, false] ?_ rfl (by kernel_rfl) (by kernel_rfl) (by kernel_rfl) (by kernel_rfl) (fun _ _ _ h => h) hHeld (by rfl) (fun wx hSx => ?_) ?_
            rotate_left
            · (unfold SB at hSx; go_simp; (try with_reducible rfl))
            (try simp only [Act.put, List.setIfInBounds_toArray, List.set_cons_zero, List.set_cons_succ])
            refine ord_take (i := 16) #[true, true, true, true, true, true, true, true, true, true, true, true, true, true, true, true, true] ?_ rfl (by kernel_rfl) (by kernel_rfl) (by kernel_rfl) (by kernel_rfl) (fun _ _ _ h => h) hHeld (by rfl) (fun wx hSx => ?_) ?_
            rotate_left
            · (unfold SB at hSx; go_simp; (try with_reducible rfl))
            (try simp only [Act.put, List.setIfInBounds_toArray, List.set_cons_zero, List.set_cons_succ])
            refine wpAnyH_done (by kernel_rfl) ?_ _
            go_wp2_with fail; (refine bodyPost_ret (by simp [results, Tryd.results38, go_sem, *] <;> rfl) rfl ⟨?_, ?_⟩); (focus (rw [H0.out.1, H0.out.2, HL.out, HW.out, ← HR.out])); ((repeat (first | (with_reducible exact Below.refl _ _) | (with_reducible assumption) | ((with_reducible refine Below.alloc ?_ ?_ _); (rotate_left); (first | omega | (simp <;> omega))) | ((with_reducible refine Below.setCell ?_ ?_ _); (rotate_left); (first | omega | (simp <;> omega))) | (with_reducible refine Below.drew ?_) | (with_reducible refine below_drewN ?_ _))))
end Go.Proofs.YtodfpfbcjiganaaDoor
