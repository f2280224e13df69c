/- Texts laid together: Ahd. -/
import Derived.Test.YtdjhkhadjmndoaaDoorQAha
import Derived.Laws.IdiomStrings
namespace Go.Proofs.YtdjhkhadjmndoaaDoor
set_option maxRecDepth 4000
set_option linter.unusedSimpArgs false
set_option linter.unusedVariables false
open Go.RowKit
/-- The text with one byte written over. -/
theorem wrong_list {s : ByteArray} {k : Nat} (hk : k < s.size) (c : UInt8) : ∃ p x q, s.data.toList = p ++ x :: q ∧ s[k] = x ∧ p.length = k ∧ (s.extract 0 k ++ (⟨#[c]⟩ : ByteArray) ++ s.extract (k + 1) s.size).data.toList = p ++ c :: q := by
  have hl : k < s.data.toList.length := by rw [Array.length_toList]; exact hk
  refine ⟨s.data.toList.take k, s.data.toList[k], s.data.toList.drop (k + 1), ?_, rfl, by rw [List.length_take]; omega, ?_⟩
  · rw [List.getElem_cons_drop]; exact (List.take_append_drop k _).symm
  · simp [ByteArray.data_append, ByteArray.data_extract, Array.toList_extract, List.extract]
    rw [show s.size = s.data.toList.length by rw [Array.length_toList]; rfl]
    rw [List.take_of_length_le (by rw [List.length_drop]; exact Nat.le_refl _)]
theorem conv1 {W : World} {b : Nat} {u : UInt8} (h : W.cell? ⟨b, 0, none⟩ = some (.int .u8 (u.toNat : Int))) : (convert 27 9 (.slice (some ⟨b, 0, none⟩) 1 1)).run Tryd.prog W = .ok (.string ⟨#[u]⟩) W :=
  run_convert_bytes_back (P := Tryd.prog) W 27 9 5 ⟨b, 0, none⟩ 1 [u] Tryd.underlying27 Tryd.underlying5 Tryd.underlying9 (fun j hj => by
    have hj2 : j < 1 := hj
    obtain rfl : j = 0 := by omega
    exact h)
set_option maxRecDepth 20000 in
set_option maxHeartbeats 4000000 in
theorem walk_numbers (id : Int) (h1 : -9223372036854775808 ≤ id) (h2 : id ≤ 9223372036854775807) (at_ : Int) (h3 : -9223372036854775808 ≤ at_) (h4 : at_ ≤ 9223372036854775807) (c : Nat) (hc : c < 256) (w : World) (ht : Tab w) : Calls Tryd.prog 3 #[.int .i64 id, .int .i64 at_, .int .u8 (c : Int)] w fun e w' => e = .returned (.bool true) ∧ Below w.heap.size w w' := by
  have HT := hide ht
  obtain ⟨u, rfl⟩ : ∃ u : UInt8, c = u.toNat := ⟨UInt8.ofNat c, by simp; omega⟩
  clear hc
  obtain ⟨s, hs⟩ : ∃ s : ByteArray, s = ⟨(numI id).toArray⟩ := ⟨_, rfl⟩
  have HL := hide (show s.data.toList = numI id by rw [hs])
  have HNP := hide (fun (W : World) (h : Tab W) => by have t := number_any id W h; rw [← hs] at t; exact t)
  have HNR := hide (fun (W : World) => by have t := numberR_any id W; rw [← hs] at t; exact t)
  clear ht
  cases ho : okId id with
  | false =>
    have he : s = ⟨#[]⟩ := by rw [hs, numI_no ho]
    have HI := hide (fun (W : World) (h : Tab W) => by have t := idp_any s W h; rw [HL.out, numI_no ho, id_none.1, id_none.2] at t; exact t)
    subst he
    have HO := hide ho
    clear hs ho
    by_cases g1 : id < 1000
    · have d1 : decide (id < 1000) = true := decide_eq_true g1
      clear g1 h1 h2
      go_enter Tryd.func3, Tryd.ntmps3
      go_wp2_with fail
      refine (HNP.out _ HT.out).mono ?_
      rintro r w1 ⟨rfl, hb⟩
      have B1 := hide hb
      clear hb
      go_wp2_with fail
      refine (HNR.out _).mono ?_
      rintro r w2 ⟨rfl, hb⟩
      have B2 := hide (B1.out.trans (hb.mono B1.out.size))
      clear hb
      go_wp2_with fail
      refine (HI.out _ (HT.out.below B2.out)).mono ?_
      rintro r w3 ⟨rfl, hb⟩
      have B3 := hide (B2.out.trans (hb.mono B2.out.size))
      clear hb
      go_wp2_with fail
      refine (lives_any _ (HT.out.below B3.out)).mono ?_
      rintro r w4 ⟨rfl, hb⟩
      have B4 := hide (B3.out.trans (hb.mono B3.out.size))
      clear hb
      go_wp2_with fail
      go_ret
      exact ⟨rfl, B4.out⟩
    · have d1 : decide (id < 1000) = false := decide_eq_false g1
      have g2 : 99999999 < id := by
        have := HO.out
        unfold okId at this
        simp at this
        omega
      have d2 : decide (99999999 < id) = true := decide_eq_true g2
      clear g1 g2 h1 h2
      go_enter Tryd.func3, Tryd.ntmps3
      go_wp2_with fail
      refine (HNP.out _ HT.out).mono ?_
      rintro r w1 ⟨rfl, hb⟩
      have B1 := hide hb
      clear hb
      go_wp2_with fail
      refine (HNR.out _).mono ?_
      rintro r w2 ⟨rfl, hb⟩
      have B2 := hide (B1.out.trans (hb.mono B1.out.size))
      clear hb
      go_wp2_with fail
      refine (HI.out _ (HT.out.below B2.out)).mono ?_
      rintro r w3 ⟨rfl, hb⟩
      have B3 := hide (B2.out.trans (hb.mono B2.out.size))
      clear hb
      go_wp2_with fail
      refine (lives_any _ (HT.out.below B3.out)).mono ?_
      rintro r w4 ⟨rfl, hb⟩
      have B4 := hide (B3.out.trans (hb.mono B3.out.size))
      clear hb
      go_wp2_with fail
      go_ret
      exact ⟨rfl, B4.out⟩
  | true =>
    have HI := hide (fun (W : World) (h : Tab W) => by have t := idp_any s W h; rw [HL.out, (id_num ho).1, (id_num ho).2] at t; exact t)
    have hz : s.size = 12 := by
      obtain ⟨n, _, _, _, e⟩ := numI_ok ho
      have : s.data.toList.length = 12 := by rw [HL.out, e]; exact numT_len n
      rw [Array.length_toList] at this
      exact this
    have hn1 : ¬ s.toList = [] := by
      rw [Lib.toList_data, HL.out]
      obtain ⟨n, _, _, _, e⟩ := numI_ok ho
      rw [e]
      intro h
      have := numT_len n
      rw [h] at this; cases this
    have hn2 : s.toList.isEmpty = false := by cases h : s.toList with | nil => exact absurd h hn1 | cons a b => rfl
    have hn3 : (s.toList == []) = false := by cases h : s.toList with | nil => exact absurd h hn1 | cons a b => rfl
    have hne : (s.toList == (⟨#[]⟩ : ByteArray).toList) = false := by
      rw [Lib.toList_data ⟨#[]⟩]; exact hn3
    have hzI : (s.size : Int) = 12 := by rw [hz]; rfl
    have HO := hide ho
    have HZ := hide hz
    clear hs ho h1 h2 hz
    go_enter Tryd.func3, Tryd.ntmps3
    go_wp2_with fail
    refine (HNP.out _ HT.out).mono ?_
    rintro r w1 ⟨rfl, hb⟩
    have B1 := hide hb
    clear hb
    go_wp2_with fail
    refine (HNR.out _).mono ?_
    rintro r w2 ⟨rfl, hb⟩
    have B2 := hide (B1.out.trans (hb.mono B1.out.size))
    clear hb
    go_wp2_with fail
    refine (HI.out _ (HT.out.below B2.out)).mono ?_
    rintro r w3 ⟨rfl, hb⟩
    have B3 := hide (B2.out.trans (hb.mono B2.out.size))
    clear hb
    by_cases g1 : at_ < 0
    · have d1 : decide (at_ < 0) = true := decide_eq_true g1
      clear g1
      go_wp2_with fail
      refine (lives_any _ (HT.out.below B3.out)).mono ?_
      rintro r w4 ⟨rfl, hb⟩
      have B4 := hide (B3.out.trans (hb.mono B3.out.size))
      clear hb
      go_wp2_with fail
      go_ret
      exact ⟨rfl, B4.out⟩
    have d1 : decide (at_ < 0) = false := decide_eq_false g1
    by_cases g2 : (12 : Int) ≤ at_
    · have d2 : decide ((12 : Int) ≤ at_) = true := decide_eq_true g2
      clear g1 g2
      go_wp2_with fail
      refine (lives_any _ (HT.out.below B3.out)).mono ?_
      rintro r w4 ⟨rfl, hb⟩
      have B4 := hide (B3.out.trans (hb.mono B3.out.size))
      clear hb
      go_wp2_with fail
      go_ret
      exact ⟨rfl, B4.out⟩
    have d2 : decide ((12 : Int) ≤ at_) = false := decide_eq_false g2
    obtain ⟨k, rfl⟩ : ∃ k : Nat, at_ = k := ⟨at_.toNat, by omega⟩
    have hk : k < s.size := by rw [HZ.out]; omega
    have HK := hide hk
    have k12 : k < 12 := by omega
    have kI : (k : Int) < 12 := by omega
    have k0 : (0 : Int) ≤ k := by omega
    clear g1 g2 h3 h4
    go_upto_region 9 with fail
    have d1n : decide ((k : Int) < 0) = false := decide_eq_false (by omega)
    cases g3 : (((s[k]'hk).toNat : Int) == (u.toNat : Int)) with
    | true =>
      go_wp2_with fail
      refine (lives_any _ (HT.out.below B3.out)).mono ?_
      rintro r w4 ⟨rfl, hb⟩
      have B4 := hide (B3.out.trans (hb.mono B3.out.size))
      clear hb
      go_wp2_with fail
      go_ret
      exact ⟨rfl, B4.out⟩
    | false =>
      go_wp2_with fail
      have kle : (k : Int) ≤ 12 := by omega
      have kw : IntKind.i64.wrap ((k : Int) + 1) = (k : Int) + 1 := by rw [i64w]; unfold wrap64; omega
      have kp0 : (0 : Int) ≤ (k : Int) + 1 := by omega
      have kp1 : (k : Int) + 1 ≤ 12 := by omega
      have ktn : ((k : Int) + 1).toNat = k + 1 := by omega
      have ks1 : ¬ 9223372036854775807 < min k s.size + 1 := by omega
      have ks2 : ¬ 9223372036854775807 < min k s.size + 1 + (s.size - (k + 1)) := by have := HZ.out; omega
      have z3 := B3.out.size
      have hneq : s[k]'(HK.out) ≠ u := fun e => by rw [e] at g3; simp at g3
      have HWR := hide (fun (W : World) (h : Tab W) => by
        have t := idp_any (s.extract 0 k ++ (⟨#[u]⟩ : ByteArray) ++ s.extract (k + 1) s.size) W h
        obtain ⟨p, x, q, e1, e2, e3, e4⟩ := wrong_list HK.out u
        rw [e4, (id_wrong HO.out (HL.out.symm.trans e1) (by rw [← e2]; exact hneq)).1, (id_wrong HO.out (HL.out.symm.trans e1) (by rw [← e2]; exact hneq)).2] at t
        exact t)
      clear g3 hneq
      refine ord_start (SB (w3.heap.size) [] _) 18 (preB 0 18) (by kernel_rfl) (by kernel_rfl) (by kernel_rfl) SB.refl.drew (fun hHeld => ?_)
      refine ord_take (i := 0) (preB 1 17) ?_ rfl (by kernel_rfl) (by kernel_rfl) (by kernel_rfl) (by kernel_rfl) (fun _ _ _ h => h) hHeld (by rfl) (fun wx hSx => ?_) ?_
      rotate_left
      · (unfold SB at hSx; go_simp; (try with_reducible rfl))
      (try simp only [Act.put, putA, putB, putC])
      refine ord_take (i := 1) (preB 2 16) ?_ rfl (by kernel_rfl) (by kernel_rfl) (by kernel_rfl) (by kernel_rfl) (fun _ _ _ h => h) hHeld (by rfl) (fun wx hSx => ?_) ?_
      rotate_left
      · (unfold SB at hSx; go_simp; (try with_reducible rfl))
      (try simp only [Act.put, putA, putB, putC])
      refine ord_take (i := 2) (preB 3 15) ?_ rfl (by kernel_rfl) (by kernel_rfl) (by kernel_rfl) (by kernel_rfl) (fun _ _ _ h => h) hHeld (by rfl) (fun wx hSx => ?_) ?_
      rotate_left
      · (unfold SB at hSx; go_simp; (try with_reducible rfl))
      (try simp only [Act.put, putA, putB, putC])
      refine ord_take (i := 3) (preB 4 14) ?_ rfl (by kernel_rfl) (by kernel_rfl) (by kernel_rfl) (by kernel_rfl) (fun _ _ _ h => h) hHeld (by rfl) (fun wx hSx => ?_) ?_
      rotate_left
      · (unfold SB at hSx; go_simp; (try with_reducible rfl))
      (try simp only [Act.put, putA, putB, putC])
      refine ord_take (i := 7) #[true, true, true, true, false, false, false, true, false, false, false, false, false, false, false, false, false, false] ?_ rfl (by kernel_rfl) (by kernel_rfl) (by kernel_rfl) (by kernel_rfl) (fun _ _ _ h => h) hHeld (by rfl) (fun wx hSx => ?_) ?_
      rotate_left
      · (unfold SB at hSx; go_simp; (try with_reducible rfl))
      (try simp only [Act.put, putA, putB, putC])
      refine ord_take (i := 8) #[true, true, true, true, false, false, false, true, true, false, false, false, false, false, false, false, false, false] ?_ rfl (by kernel_rfl) (by kernel_rfl) (by kernel_rfl) (by kernel_rfl) (fun _ _ _ h => h) hHeld (by rfl) (fun wx hSx => ?_) ?_
      rotate_left
      · (unfold SB at hSx; go_simp; (try with_reducible rfl))
      (try simp only [Act.put, putA, putB, putC])
      refine ord_take (i := 9) #[true, true, true, true, false, false, false, true, true, true, false, false, false, false, false, false, false, false] ?_ rfl (by kernel_rfl) (by kernel_rfl) (by kernel_rfl) (by kernel_rfl) (fun _ _ _ h => h) hHeld (by rfl) (fun wx hSx => ?_) ?_
      rotate_left
      · (unfold SB at hSx; go_simp; (try with_reducible rfl))
      (try simp only [Act.put, putA, putB, putC])
      refine ord_take (i := 10) #[true, true, true, true, false, false, false, true, true, true, true, false, false, false, false, false, false, false] ?_ rfl (by kernel_rfl) (by kernel_rfl) (by kernel_rfl) (by kernel_rfl) (fun _ _ _ h => h) hHeld (by rfl) (fun wx hSx => ?_) ?_
      rotate_left
      · (unfold SB at hSx; go_simp; (try with_reducible rfl))
      (try simp only [Act.put, putA, putB, putC])
      refine wpAnyH_ready (rs := [4]) (by kernel_rfl) (by simp) ?_
      refine ord_run (i := 4) #[true, true, true, true, true, false, false, true, true, true, true, false, false, false, false, false, false, false] rfl (by kernel_rfl) (by rfl) (fun K hK => ?_) AllReadyH.nil
      go_simp
      refine hK.out _ _ ?_ (fun hHeld => ?_)
      · (repeat (first | (with_reducible first | exact SB.refl | exact hHeld | refine SB.drew ?_ | refine SB.drewN ?_ _) | ((with_reducible first | refine SB.alloc ?_ ?_ _ | refine SB.below ?_ hbS ?_ | refine SB.below ?_ hbS1 ?_ | refine SB.below ?_ hbS2 ?_ | refine SB.below ?_ hbS3 ?_ | refine SB.below ?_ hbS4 ?_); rotate_left; (first | omega | (simp <;> omega))) | ((with_reducible refine SB.setCell ?_ ?_ _); rotate_left; (focus (first | (simp; done) | (right; first | omega | (simp <;> omega))))) | (with_reducible refine SB.undrew ?_) | ((with_reducible refine SB.congr ?_ ?_); rotate_left; (focus (simp; done))) | ((with_reducible refine SB.realloc ?_ ?_ ?_); rotate_left; (focus (simp; done)); (focus (simp; done)))))
      clear hK K
      (try simp only [Act.put, putA, putB, putC])
      refine wpAnyH_ready (rs := [5]) (by kernel_rfl) (by simp) ?_
      refine ord_run (i := 5) #[true, true, true, true, true, true, false, true, true, true, true, false, false, false, false, false, false, false] rfl (by kernel_rfl) (by rfl) (fun K hK => ?_) AllReadyH.nil
      go_simp
      (rw [conv1 (u := u) (by simp [go_sem])])
      go_simp
      refine hK.out _ _ ?_ (fun hHeld => ?_)
      · (repeat (first | (with_reducible first | exact SB.refl | exact hHeld | refine SB.drew ?_ | refine SB.drewN ?_ _) | ((with_reducible first | refine SB.alloc ?_ ?_ _ | refine SB.below ?_ hbS ?_ | refine SB.below ?_ hbS1 ?_ | refine SB.below ?_ hbS2 ?_ | refine SB.below ?_ hbS3 ?_ | refine SB.below ?_ hbS4 ?_); rotate_left; (first | omega | (simp <;> omega))) | ((with_reducible refine SB.setCell ?_ ?_ _); rotate_left; (focus (first | (simp; done) | (right; first | omega | (simp <;> omega))))) | (with_reducible refine SB.undrew ?_) | ((with_reducible refine SB.congr ?_ ?_); rotate_left; (focus (simp; done))) | ((with_reducible refine SB.realloc ?_ ?_ ?_); rotate_left; (focus (simp; done)); (focus (simp; done)))))
      clear hK K
      (try simp only [Act.put, putA, putB, putC])
      refine ord_take (i := 6) (preB 11 7) ?_ rfl (by kernel_rfl) (by kernel_rfl) (by kernel_rfl) (by kernel_rfl) (fun _ _ _ h => h) hHeld (by rfl) (fun wx hSx => ?_) ?_
      rotate_left
      · (unfold SB at hSx; go_simp; (try with_reducible rfl))
      (try simp only [Act.put, putA, putB, putC])
      refine ord_take (i := 11) (preB 12 6) ?_ rfl (by kernel_rfl) (by kernel_rfl) (by kernel_rfl) (by kernel_rfl) (fun _ _ _ h => h) hHeld (by rfl) (fun wx hSx => ?_) ?_
      rotate_left
      · (unfold SB at hSx; go_simp; (try with_reducible rfl))
      (try simp only [Act.put, putA, putB, putC])
      refine wpAnyH_ready (rs := [12]) (by kernel_rfl) (by simp) ?_
      refine ord_run (i := 12) (preB 13 5) rfl (by kernel_rfl) (by rfl) (fun K hK => ?_) AllReadyH.nil
      go_simp
      go_wp2_with (go_at_call 10; refine (HWR.out _ (HT.out.below (B3.out.trans (by (repeat (first | (with_reducible first | exact Below.refl _ _ | assumption | refine Below.drew ?_ | refine below_drewN ?_ _) | ((with_reducible first | refine Below.alloc ?_ ?_ _ | refine Below.setCell ?_ ?_ _); rotate_left; (first | omega | (simp <;> omega))))))))).mono ?_; rintro r w4 ⟨rfl, hb⟩; have hbS := hb; have B4 := hide (B3.out.trans ((show Below w3.heap.size w3 w4 from Below.trans (by (repeat (first | (with_reducible first | exact Below.refl _ _ | assumption | refine Below.drew ?_ | refine below_drewN ?_ _) | ((with_reducible first | refine Below.alloc ?_ ?_ _ | refine Below.setCell ?_ ?_ _); rotate_left; (first | omega | (simp <;> omega)))))) (hb.mono (by first | omega | (simp <;> omega)))).mono B3.out.size)); clear hb)
      refine hK.out _ _ ?_ (fun hHeld => ?_)
      · (repeat (first | (with_reducible first | exact SB.refl | exact hHeld | refine SB.drew ?_ | refine SB.drewN ?_ _) | ((with_reducible first | refine SB.alloc ?_ ?_ _ | refine SB.below ?_ hbS ?_ | refine SB.below ?_ hbS1 ?_ | refine SB.below ?_ hbS2 ?_ | refine SB.below ?_ hbS3 ?_ | refine SB.below ?_ hbS4 ?_); rotate_left; (first | omega | (simp <;> omega))) | ((with_reducible refine SB.setCell ?_ ?_ _); rotate_left; (focus (first | (simp; done) | (right; first | omega | (simp <;> omega))))) | (with_reducible refine SB.undrew ?_) | ((with_reducible refine SB.congr ?_ ?_); rotate_left; (focus (simp; done))) | ((with_reducible refine SB.realloc ?_ ?_ ?_); rotate_left; (focus (simp; done)); (focus (simp; done)))))
      clear hK K
      (try simp only [Act.put, putA, putB, putC])
      refine ord_take (i := 13) (preB 14 4) ?_ rfl (by kernel_rfl) (by kernel_rfl) (by kernel_rfl) (by kernel_rfl) (fun _ _ _ h => h) hHeld (by rfl) (fun wx hSx => ?_) ?_
      rotate_left
      · (unfold SB at hSx; go_simp; (try with_reducible rfl))
      (try simp only [Act.put, putA, putB, putC])
      refine ord_take (i := 14) (preB 15 3) ?_ rfl (by kernel_rfl) (by kernel_rfl) (by kernel_rfl) (by kernel_rfl) (fun _ _ _ h => h) hHeld (by rfl) (fun wx hSx => ?_) ?_
      rotate_left
      · (unfold SB at hSx; go_simp; (try with_reducible rfl))
      (try simp only [Act.put, putA, putB, putC])
      refine ord_take (i := 15) (preB 16 2) ?_ rfl (by kernel_rfl) (by kernel_rfl) (by kernel_rfl) (by kernel_rfl) (fun _ _ _ h => h) hHeld (by rfl) (fun wx hSx => ?_) ?_
      rotate_left
      · (unfold SB at hSx; go_simp; (try with_reducible rfl))
      (try simp only [Act.put, putA, putB, putC])
      refine ord_take (i := 16) (preB 17 1) ?_ rfl (by kernel_rfl) (by kernel_rfl) (by kernel_rfl) (by kernel_rfl) (fun _ _ _ h => h) hHeld (by rfl) (fun wx hSx => ?_) ?_
      rotate_left
      · (unfold SB at hSx; go_simp; (try with_reducible rfl))
      (try simp only [Act.put, putA, putB, putC])
      refine ord_take (i := 17) (preB 18 0) ?_ rfl (by kernel_rfl) (by kernel_rfl) (by kernel_rfl) (by kernel_rfl) (fun _ _ _ h => h) hHeld (by rfl) (fun wx hSx => ?_) ?_
      rotate_left
      · (unfold SB at hSx; go_simp; (try with_reducible rfl))
      (try simp only [Act.put, putA, putB, putC])
      refine wpAnyH_done (by kernel_rfl) ?_ _
      go_wp2_with fail
      have z4 := B4.out.size
      refine (lives_any _ (HT.out.below (B4.out.trans (by (repeat (first | (with_reducible first | exact Below.refl _ _ | assumption | refine Below.drew ?_ | refine below_drewN ?_ _) | ((with_reducible first | refine Below.alloc ?_ ?_ _ | refine Below.setCell ?_ ?_ _); rotate_left; (first | omega | (simp <;> omega))))))))).mono ?_
      rintro r w5 ⟨rfl, hb⟩
      have B5 := hide (B4.out.trans (Below.trans (by (repeat (first | (with_reducible first | exact Below.refl _ _ | assumption | refine Below.drew ?_ | refine below_drewN ?_ _) | ((with_reducible first | refine Below.alloc ?_ ?_ _ | refine Below.setCell ?_ ?_ _); rotate_left; (first | omega | (simp <;> omega)))))) (hb.mono B4.out.size)))
      clear hb
      go_wp2_with fail
      go_ret
      exact ⟨rfl, B5.out⟩
end Go.Proofs.YtdjhkhadjmndoaaDoor
