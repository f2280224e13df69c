/- Texts laid together: AgH. -/
import Derived.Test.YtdjhkhadjmndoaaDoorQAgG
namespace Go.Proofs.YtdjhkhadjmndoaaDoor
set_option maxRecDepth 4000
set_option linter.unusedSimpArgs false
set_option linter.unusedVariables false
open Go.RowKit
/-- What one account's examination answers. -/
noncomputable def stpE (P : Nat → LPro) (pn : Nat) (a : Nat → LAcc) (k : Nat) : Int := if rightB (a k) = false then 1 else if 0 < k ∧ (a k).id ≤ (a (k - 1)).id then 10 else ownE P pn (a k)
noncomputable def chkU (P : Nat → LPro) (pn : Nat) (a : Nat → LAcc) : Nat → Int
  | 0 => 0
  | k + 1 => if chkU P pn a k = 0 then stpE P pn a k else chkU P pn a k
/-- What Check answers. -/
noncomputable def chkE (P : Nat → LPro) (pn : Nat) (a : Nat → LAcc) (an : Nat) : Int := if 64 < an then 5 else chkU P pn a an
theorem chkU_fail {P : Nat → LPro} {pn : Nat} {a : Nat → LAcc} {k : Nat} (h0 : chkU P pn a k = 0) (h1 : stpE P pn a k ≠ 0) : ∀ {n : Nat}, k < n → chkU P pn a n = stpE P pn a k
  | 0, h => by omega
  | n + 1, h => by
    unfold chkU
    rcases Nat.lt_succ_iff_lt_or_eq.1 h with h2 | rfl
    · rw [chkU_fail h0 h1 h2, if_neg h1]
    · rw [if_pos h0]
theorem chkU_next {P : Nat → LPro} {pn : Nat} {a : Nat → LAcc} {k : Nat} (h0 : chkU P pn a k = 0) (h1 : stpE P pn a k = 0) : chkU P pn a (k + 1) = 0 := by unfold chkU; rw [if_pos h0, h1]
theorem stp_1 {P : Nat → LPro} {pn : Nat} {a : Nat → LAcc} {k : Nat} (h : rightB (a k) = false) : stpE P pn a k = 1 := if_pos h
theorem stp_10 {P : Nat → LPro} {pn : Nat} {a : Nat → LAcc} {k : Nat} (h : rightB (a k) = true) (h2 : 0 < k ∧ (a k).id ≤ (a (k - 1)).id) : stpE P pn a k = 10 := by unfold stpE; rw [if_neg (by rw [h]; decide), if_pos h2]
theorem stp_own {P : Nat → LPro} {pn : Nat} {a : Nat → LAcc} {k : Nat} (h : rightB (a k) = true) (h2 : ¬ (0 < k ∧ (a k).id ≤ (a (k - 1)).id)) : stpE P pn a k = ownE P pn (a k) := by unfold stpE; rw [if_neg (by rw [h]; decide), if_neg h2]
def ChkI (P : Nat → LPro) (pn : Nat) (a : Nat → LAcc) (n : Nat) (W : World) (v : Value) (wr : World) : Prop := ∃ k : Nat, k ≤ n ∧ v = .int .i64 k ∧ chkU P pn a k = 0 ∧ Below W.heap.size W wr
set_option maxRecDepth 20000 in
set_option maxHeartbeats 16000000 in
theorem check_any (B : LBk) (hB : BkOK B) (hnm : ∀ k, k < B.an → (B.a k).ow.size ≤ maxLen) (w : World) (ht : Tab w) (hw : BkIn w B) :
    Calls Tryd.prog 21 #[.agg B.C] w fun e w' => e = .returned (.int .i64 (chkE B.P B.pn B.a B.an)) ∧ Below w.heap.size w w' := by
  obtain ⟨C, aA, an, ac, a, jA, jn, jc, pA, pn, pc, P⟩ := B
  obtain ⟨i0, Z, hi0, hi1, hi2⟩ := pz_zero
  have HI := hide (And.intro hi0 hi1)
  have HZ1 := hide hi2
  have HT := hide ht
  have HR := hide (show RowAcc w aA an a from hw.acc)
  have HP := hide (show RowPro w pA pn P from hw.pro)
  have HPC := hide (show ∀ k, k < pn → PrC (P k).C (P k) from hB.cells)
  have HPN := hide (show pn ≤ 1000000 from hB.pn)
  have HSZ := hide (show ∀ k, k < an → (a k).ow.size ≤ maxLen from hnm)
  have h17 : C[17]? = some (.slice pA pn pc) := hB.pro
  have h18 : C[18]? = some (.slice aA an ac) := hB.bks.acc
  have hn : an ≤ 1000000 := hB.an
  clear hB hw ht hi0 hi1 hi2 hnm
  dsimp only
  by_cases h64 : 64 < an
  · have d64 : decide ((64 : Int) < an) = true := decide_eq_true (by omega)
    have HE := hide (show chkE P pn a an = 5 from if_pos h64)
    clear h64
    go_enter Tryd.func21, Tryd.ntmps21
    go_wp2_with fail
    go_ret
    exact ⟨by rw [HE.out]; rfl, by (repeat (first | (with_reducible first | exact Below.refl _ _ | assumption | refine Below.drew ?_) | ((with_reducible first | refine Below.alloc ?_ ?_ _ | refine Below.setCell ?_ ?_ _); rotate_left; (first | omega | (simp <;> omega)))))⟩
  have d64 : decide ((64 : Int) < an) = false := decide_eq_false (by omega)
  have d64' : (an : Int) ≤ 64 := by omega
  have HEE := hide (show chkE P pn a an = chkU P pn a an from if_neg h64)
  clear h64
  go_enter Tryd.func21, Tryd.ntmps21
  go_wp2_with fail
  go_loopw [14] (fun v wr => ChkI P pn a an (w.alloc (.cells C 41)) v wr) (fun v _ => an - (intOf v).toNat)
  case atStart => exact ⟨0, by omega, rfl, rfl, Below.refl _ _⟩
  case round =>
    obtain ⟨k, hk, rfl, hz, hb⟩ := hrel
    have HZ := hide hz
    have H0 := hide hb
    clear hz
    have q1B : Below w.heap.size w wr := (by refine Below.trans ?_ (hb.mono (by first | omega | (simp <;> omega))); (repeat (first | (with_reducible first | exact Below.refl _ _ | assumption | refine Below.drew ?_) | ((with_reducible first | refine Below.alloc ?_ ?_ _ | refine Below.setCell ?_ ?_ _); rotate_left; (first | omega | (simp <;> omega))))))
    have q1z := hb.size
    try simp at q1z
    have q1t : w.heap.size ≤ wr.heap.size := (by omega)
    have q1s0 : w.heap.size < wr.heap.size := (by omega)
    have q1n0_0 : ¬ wr.heap.size = w.heap.size := (by omega)
    have q1n0_1 : ¬ wr.heap.size + 1 = w.heap.size := (by omega)
    have q1n0_2 : ¬ wr.heap.size + 2 = w.heap.size := (by omega)
    have q1c0_17 := hb.cell (p := ⟨w.heap.size, 17, none⟩) (by first | omega | (simp <;> omega))
    simp [go_sem, *] at q1c0_17
    have q1c0_18 := hb.cell (p := ⟨w.heap.size, 18, none⟩) (by first | omega | (simp <;> omega))
    simp [go_sem, *] at q1c0_18
    have q1f0 := fun o => hb.frozen (p := ⟨w.heap.size, o, none⟩) (by first | omega | (simp <;> omega))
    simp [go_sem, *] at q1f0
    have q1o : ∀ b o, b < w.heap.size → wr.cell? ⟨b, o, none⟩ = w.cell? ⟨b, o, none⟩ := fun b o h => q1B.cell (p := ⟨b, o, none⟩) h
    clear hb
    have BL := hide q1B
    clear h17 h18
    by_cases hlt : k < an
    · have hm : (k : Int) < an := by omega
      have hk0 : (0 : Int) ≤ k := by omega
      have HK := hide hlt
      obtain ⟨rb, hrb⟩ : ∃ rb, rb = rightB (a k) := ⟨_, rfl⟩
      have HRT := hide (fun (W : World) (h : Tab W) => by have t := right_any (a k) W h; rw [← hrb] at t; exact t)
      obtain ⟨mb, hmb⟩ : ∃ mb, mb = nameB (a k).ow := ⟨_, rfl⟩
      have HNM := hide (fun (W : World) => by have t := named_any (a k).ow (HSZ.out k hlt) W; rw [← hmb] at t; exact t)
      have HCA := hide (fun (W : World) (h1 : RowPro W pA pn P) => cat_any pA pn pc P (a k).pr (a k).op HPN.out HPC.out W h1)
      obtain ⟨b, off, rfl, hbl, c0, c1, c2, c3, c4, c5, c6⟩ := (HR.out.below q1B).at hlt
      have HRB := hide hrb
      have HMB := hide hmb
      clear hrb hmb
      cases rb with
      | false =>
        have HF := hide (show chkU P pn a an = 1 from by rw [chkU_fail HZ.out (by rw [stp_1 HRB.out.symm]; decide) HK.out, stp_1 HRB.out.symm])
        clear hlt hk
        go_wp2_with fail
        refine (HRT.out _ (HT.out.below (q1B.trans (by (repeat (first | (with_reducible first | exact Below.refl _ _ | assumption | refine Below.drew ?_) | ((with_reducible first | refine Below.alloc ?_ ?_ _ | refine Below.setCell ?_ ?_ _); rotate_left; (first | omega | (simp <;> omega))))))))).mono ?_
        rintro e w1 ⟨rfl, hb⟩
        have BX : Below wr.heap.size wr w1 := (by refine Below.trans ?_ (hb.mono (by first | omega | (simp <;> omega))); (repeat (first | (with_reducible first | exact Below.refl _ _ | assumption | refine Below.drew ?_) | ((with_reducible first | refine Below.alloc ?_ ?_ _ | refine Below.setCell ?_ ?_ _); rotate_left; (first | omega | (simp <;> omega))))))
        have B2 := hide (BL.out.trans (BX.mono (by omega)))
        clear hb BX
        go_wp2_with fail
        go_ret
        exact ⟨by rw [HEE.out, HF.out]; rfl, B2.out⟩
      | true =>
        by_cases hkz : 0 < k
        · obtain ⟨kk, hkk⟩ : ∃ kk, k = kk + 1 := ⟨k - 1, by omega⟩
          have d8 : decide (0 < k) = true := decide_eq_true hkz
          have n1 : IntKind.i64.wrap ((k : Int) - 1) = (kk : Int) := by rw [i64w]; unfold wrap64; omega
          have hkk0 : (0 : Int) ≤ kk := by omega
          have hkk1 : (kk : Int) < an := by omega
          obtain ⟨b', off', e', _, p0, _, _, _, _, _, _⟩ := (HR.out.below q1B).at (show kk < an by omega)
          injection e' with e'
          injection e' with e1 e2
          subst e1 e2
          have HKK := hide hkk
          have HBL := hide hbl
          clear hlt hk hkk hkz
          go_wp2_with fail
          refine (HRT.out _ (HT.out.below (q1B.trans (by (repeat (first | (with_reducible first | exact Below.refl _ _ | assumption | refine Below.drew ?_) | ((with_reducible first | refine Below.alloc ?_ ?_ _ | refine Below.setCell ?_ ?_ _); rotate_left; (first | omega | (simp <;> omega))))))))).mono ?_
          rintro e w1 ⟨rfl, hb⟩
          have BX : Below wr.heap.size wr w1 := (by refine Below.trans ?_ (hb.mono (by first | omega | (simp <;> omega))); (repeat (first | (with_reducible first | exact Below.refl _ _ | assumption | refine Below.drew ?_) | ((with_reducible first | refine Below.alloc ?_ ?_ _ | refine Below.setCell ?_ ?_ _); rotate_left; (first | omega | (simp <;> omega))))))
          have p1 : w1.cell? ⟨b, off + kk * 7, none⟩ = some (.int .i64 (a kk).id) := (BX.cell (p := ⟨b, off + kk * 7, none⟩) HBL.out).trans p0
          clear BX
          have q2B : Below wr.heap.size wr w1 := (by refine Below.trans ?_ (hb.mono (by first | omega | (simp <;> omega))); (repeat (first | (with_reducible first | exact Below.refl _ _ | assumption | refine Below.drew ?_) | ((with_reducible first | refine Below.alloc ?_ ?_ _ | refine Below.setCell ?_ ?_ _); rotate_left; (first | omega | (simp <;> omega))))))
          have q2z := hb.size
          try simp at q2z
          have q2t : wr.heap.size ≤ w1.heap.size := (by omega)
          have q2s0 : w.heap.size < w1.heap.size := (by omega)
          have q2n0_0 : ¬ w1.heap.size = w.heap.size := (by omega)
          have q2n0_1 : ¬ w1.heap.size + 1 = w.heap.size := (by omega)
          have q2n0_2 : ¬ w1.heap.size + 2 = w.heap.size := (by omega)
          have q2c0_17 := hb.cell (p := ⟨w.heap.size, 17, none⟩) (by first | omega | (simp <;> omega))
          simp [go_sem, *] at q2c0_17
          have q2c0_18 := hb.cell (p := ⟨w.heap.size, 18, none⟩) (by first | omega | (simp <;> omega))
          simp [go_sem, *] at q2c0_18
          have q2f0 := fun o => hb.frozen (p := ⟨w.heap.size, o, none⟩) (by first | omega | (simp <;> omega))
          simp [go_sem, *] at q2f0
          have q2s1 : wr.heap.size < w1.heap.size := (by omega)
          have q2n1_0 : ¬ w1.heap.size = wr.heap.size := (by omega)
          have q2n1_1 : ¬ w1.heap.size + 1 = wr.heap.size := (by omega)
          have q2n1_2 : ¬ w1.heap.size + 2 = wr.heap.size := (by omega)
          have q2c1_0 := hb.cell (p := ⟨wr.heap.size, 0, none⟩) (by first | omega | (simp <;> omega))
          simp [go_sem, *] at q2c1_0
          have q2c1_1 := hb.cell (p := ⟨wr.heap.size, 1, none⟩) (by first | omega | (simp <;> omega))
          simp [go_sem, *] at q2c1_1
          have q2c1_2 := hb.cell (p := ⟨wr.heap.size, 2, none⟩) (by first | omega | (simp <;> omega))
          simp [go_sem, *] at q2c1_2
          have q2c1_3 := hb.cell (p := ⟨wr.heap.size, 3, none⟩) (by first | omega | (simp <;> omega))
          simp [go_sem, *] at q2c1_3
          have q2c1_4 := hb.cell (p := ⟨wr.heap.size, 4, none⟩) (by first | omega | (simp <;> omega))
          simp [go_sem, *] at q2c1_4
          have q2c1_5 := hb.cell (p := ⟨wr.heap.size, 5, none⟩) (by first | omega | (simp <;> omega))
          simp [go_sem, *] at q2c1_5
          have q2c1_6 := hb.cell (p := ⟨wr.heap.size, 6, none⟩) (by first | omega | (simp <;> omega))
          simp [go_sem, *] at q2c1_6
          have q2f1 := fun o => hb.frozen (p := ⟨wr.heap.size, o, none⟩) (by first | omega | (simp <;> omega))
          simp [go_sem, *] at q2f1
          have q2o : ∀ b o, b < wr.heap.size → w1.cell? ⟨b, o, none⟩ = wr.cell? ⟨b, o, none⟩ := fun b o h => q2B.cell (p := ⟨b, o, none⟩) h
          clear hb q1o q1f0 q1c0_18 q1c0_17 q1s0 q1z q1B
          clear p0
          have hbl1 : b < w1.heap.size := by have := HBL.out; omega
          have BW := hide q2B
          have B2 := hide (BL.out.trans (q2B.mono (by first | omega | (simp <;> omega))))
          have zB2 := B2.out.size
          by_cases ho : (a k).id ≤ (a kk).id
          · have d9 : decide ((a k).id ≤ (a kk).id) = true := decide_eq_true ho
            have HF := hide (show chkU P pn a an = 10 from by
              have hs : stpE P pn a k = 10 := stp_10 HRB.out.symm ⟨by rw [HKK.out]; omega, by rw [show k - 1 = kk by rw [HKK.out]; rfl]; exact ho⟩
              rw [chkU_fail HZ.out (by rw [hs]; decide) HK.out, hs])
            clear ho
            go_wp2_with fail
            refine ord_start (SB (w1.heap.size) [] _) 14 (preB 0 14) (by kernel_rfl) (by kernel_rfl) (by kernel_rfl) SB.refl.drew (fun hHeld => ?_)
            refine ord_take (i := 0) (preB 1 13) ?_ rfl (by kernel_rfl) (by kernel_rfl) (by kernel_rfl) (by kernel_rfl) (fun _ _ _ h => h) hHeld (by rfl) (fun wx hSx => ?_) ?_
            rotate_left
            · (unfold SB at hSx; go_simp; (try with_reducible rfl))
            (try simp only [Act.put, putA, putB, putC])
            refine ord_take (i := 1) (preB 2 12) ?_ rfl (by kernel_rfl) (by kernel_rfl) (by kernel_rfl) (by kernel_rfl) (fun _ _ _ h => h) hHeld (by rfl) (fun wx hSx => ?_) ?_
            rotate_left
            · (unfold SB at hSx; go_simp; (try with_reducible rfl))
            (try simp only [Act.put, putA, putB, putC])
            refine ord_take (i := 2) (preB 3 11) ?_ rfl (by kernel_rfl) (by kernel_rfl) (by kernel_rfl) (by kernel_rfl) (fun _ _ _ h => h) hHeld (by rfl) (fun wx hSx => ?_) ?_
            rotate_left
            · (unfold SB at hSx; go_simp; (try with_reducible rfl))
            (try simp only [Act.put, putA, putB, putC])
            refine ord_take (i := 3) (preB 4 10) ?_ rfl (by kernel_rfl) (by kernel_rfl) (by kernel_rfl) (by kernel_rfl) (fun _ _ _ h => h) hHeld (by rfl) (fun wx hSx => ?_) ?_
            rotate_left
            · (unfold SB at hSx; go_simp; (try with_reducible rfl))
            (try simp only [Act.put, putA, putB, putC])
            refine ord_take (i := 4) (preB 5 9) ?_ rfl (by kernel_rfl) (by kernel_rfl) (by kernel_rfl) (by kernel_rfl) (fun _ _ _ h => h) hHeld (by rfl) (fun wx hSx => ?_) ?_
            rotate_left
            · (unfold SB at hSx; go_simp; (try with_reducible rfl))
            (try simp only [Act.put, putA, putB, putC])
            refine ord_take (i := 5) (preB 6 8) ?_ rfl (by kernel_rfl) (by kernel_rfl) (by kernel_rfl) (by kernel_rfl) (fun _ _ _ h => h) hHeld (by rfl) (fun wx hSx => ?_) ?_
            rotate_left
            · (unfold SB at hSx; go_simp; (try with_reducible rfl))
            (try simp only [Act.put, putA, putB, putC])
            refine ord_take (i := 6) (preB 7 7) ?_ rfl (by kernel_rfl) (by kernel_rfl) (by kernel_rfl) (by kernel_rfl) (fun _ _ _ h => h) hHeld (by rfl) (fun wx hSx => ?_) ?_
            rotate_left
            · (unfold SB at hSx; go_simp; (try with_reducible rfl))
            (try simp only [Act.put, putA, putB, putC])
            refine ord_take (i := 7) (preB 8 6) ?_ rfl (by kernel_rfl) (by kernel_rfl) (by kernel_rfl) (by kernel_rfl) (fun _ _ _ h => h) hHeld (by rfl) (fun wx hSx => ?_) ?_
            rotate_left
            · (unfold SB at hSx; go_simp; (try with_reducible rfl))
            (try simp only [Act.put, putA, putB, putC])
            refine ord_take (i := 8) (preB 9 5) ?_ rfl (by kernel_rfl) (by kernel_rfl) (by kernel_rfl) (by kernel_rfl) (fun _ _ _ h => h) hHeld (by rfl) (fun wx hSx => ?_) ?_
            rotate_left
            · (unfold SB at hSx; go_simp; (try with_reducible rfl))
            (try simp only [Act.put, putA, putB, putC])
            refine ord_take (i := 9) (preB 10 4) ?_ rfl (by kernel_rfl) (by kernel_rfl) (by kernel_rfl) (by kernel_rfl) (fun _ _ _ h => h) hHeld (by rfl) (fun wx hSx => ?_) ?_
            rotate_left
            · (unfold SB at hSx; go_simp; (try with_reducible rfl))
            (try simp only [Act.put, putA, putB, putC])
            refine ord_take (i := 10) (preB 11 3) ?_ rfl (by kernel_rfl) (by kernel_rfl) (by kernel_rfl) (by kernel_rfl) (fun _ _ _ h => h) hHeld (by rfl) (fun wx hSx => ?_) ?_
            rotate_left
            · (unfold SB at hSx; go_simp; (try with_reducible rfl))
            (try simp only [Act.put, putA, putB, putC])
            refine ord_take (i := 11) (preB 12 2) ?_ rfl (by kernel_rfl) (by kernel_rfl) (by kernel_rfl) (by kernel_rfl) (fun _ _ _ h => h) hHeld (by rfl) (fun wx hSx => ?_) ?_
            rotate_left
            · (unfold SB at hSx; go_simp; (try with_reducible rfl))
            (try simp only [Act.put, putA, putB, putC])
            refine ord_take (i := 12) (preB 13 1) ?_ rfl (by kernel_rfl) (by kernel_rfl) (by kernel_rfl) (by kernel_rfl) (fun _ _ _ h => h) hHeld (by rfl) (fun wx hSx => ?_) ?_
            rotate_left
            · (unfold SB at hSx; go_simp; (try with_reducible rfl))
            (try simp only [Act.put, putA, putB, putC])
            refine ord_take (i := 13) (preB 14 0) ?_ rfl (by kernel_rfl) (by kernel_rfl) (by kernel_rfl) (by kernel_rfl) (fun _ _ _ h => h) hHeld (by rfl) (fun wx hSx => ?_) ?_
            rotate_left
            · (unfold SB at hSx; go_simp; (try with_reducible rfl))
            (try simp only [Act.put, putA, putB, putC])
            refine wpAnyH_done (by kernel_rfl) ?_ _
            go_wp2_with fail
            go_ret
            exact ⟨by rw [HEE.out, HF.out]; rfl, B2.out.trans (by (repeat (first | (with_reducible first | exact Below.refl _ _ | assumption | refine Below.drew ?_) | ((with_reducible first | refine Below.alloc ?_ ?_ _ | refine Below.setCell ?_ ?_ _); rotate_left; (first | omega | (simp <;> omega))))))⟩
          · have d9 : decide ((a k).id ≤ (a kk).id) = false := decide_eq_false ho
            have HNO := hide (show ¬ (0 < k ∧ (a k).id ≤ (a (k - 1)).id) from fun h => ho (by have h2 := h.2; rw [show k - 1 = kk by rw [HKK.out]; rfl] at h2; exact h2))
            clear ho
            go_wp2_with fail
            refine ord_start (SB (w1.heap.size) [] _) 14 (preB 0 14) (by kernel_rfl) (by kernel_rfl) (by kernel_rfl) SB.refl.drew (fun hHeld => ?_)
            refine ord_take (i := 0) (preB 1 13) ?_ rfl (by kernel_rfl) (by kernel_rfl) (by kernel_rfl) (by kernel_rfl) (fun _ _ _ h => h) hHeld (by rfl) (fun wx hSx => ?_) ?_
            rotate_left
            · (unfold SB at hSx; go_simp; (try with_reducible rfl))
            (try simp only [Act.put, putA, putB, putC])
            refine ord_take (i := 1) (preB 2 12) ?_ rfl (by kernel_rfl) (by kernel_rfl) (by kernel_rfl) (by kernel_rfl) (fun _ _ _ h => h) hHeld (by rfl) (fun wx hSx => ?_) ?_
            rotate_left
            · (unfold SB at hSx; go_simp; (try with_reducible rfl))
            (try simp only [Act.put, putA, putB, putC])
            refine ord_take (i := 2) (preB 3 11) ?_ rfl (by kernel_rfl) (by kernel_rfl) (by kernel_rfl) (by kernel_rfl) (fun _ _ _ h => h) hHeld (by rfl) (fun wx hSx => ?_) ?_
            rotate_left
            · (unfold SB at hSx; go_simp; (try with_reducible rfl))
            (try simp only [Act.put, putA, putB, putC])
            refine ord_take (i := 3) (preB 4 10) ?_ rfl (by kernel_rfl) (by kernel_rfl) (by kernel_rfl) (by kernel_rfl) (fun _ _ _ h => h) hHeld (by rfl) (fun wx hSx => ?_) ?_
            rotate_left
            · (unfold SB at hSx; go_simp; (try with_reducible rfl))
            (try simp only [Act.put, putA, putB, putC])
            refine ord_take (i := 4) (preB 5 9) ?_ rfl (by kernel_rfl) (by kernel_rfl) (by kernel_rfl) (by kernel_rfl) (fun _ _ _ h => h) hHeld (by rfl) (fun wx hSx => ?_) ?_
            rotate_left
            · (unfold SB at hSx; go_simp; (try with_reducible rfl))
            (try simp only [Act.put, putA, putB, putC])
            refine ord_take (i := 5) (preB 6 8) ?_ rfl (by kernel_rfl) (by kernel_rfl) (by kernel_rfl) (by kernel_rfl) (fun _ _ _ h => h) hHeld (by rfl) (fun wx hSx => ?_) ?_
            rotate_left
            · (unfold SB at hSx; go_simp; (try with_reducible rfl))
            (try simp only [Act.put, putA, putB, putC])
            refine ord_take (i := 6) (preB 7 7) ?_ rfl (by kernel_rfl) (by kernel_rfl) (by kernel_rfl) (by kernel_rfl) (fun _ _ _ h => h) hHeld (by rfl) (fun wx hSx => ?_) ?_
            rotate_left
            · (unfold SB at hSx; go_simp; (try with_reducible rfl))
            (try simp only [Act.put, putA, putB, putC])
            refine ord_take (i := 7) (preB 8 6) ?_ rfl (by kernel_rfl) (by kernel_rfl) (by kernel_rfl) (by kernel_rfl) (fun _ _ _ h => h) hHeld (by rfl) (fun wx hSx => ?_) ?_
            rotate_left
            · (unfold SB at hSx; go_simp; (try with_reducible rfl))
            (try simp only [Act.put, putA, putB, putC])
            refine ord_take (i := 8) (preB 9 5) ?_ rfl (by kernel_rfl) (by kernel_rfl) (by kernel_rfl) (by kernel_rfl) (fun _ _ _ h => h) hHeld (by rfl) (fun wx hSx => ?_) ?_
            rotate_left
            · (unfold SB at hSx; go_simp; (try with_reducible rfl))
            (try simp only [Act.put, putA, putB, putC])
            refine ord_take (i := 9) (preB 10 4) ?_ rfl (by kernel_rfl) (by kernel_rfl) (by kernel_rfl) (by kernel_rfl) (fun _ _ _ h => h) hHeld (by rfl) (fun wx hSx => ?_) ?_
            rotate_left
            · (unfold SB at hSx; go_simp; (try with_reducible rfl))
            (try simp only [Act.put, putA, putB, putC])
            refine ord_take (i := 10) (preB 11 3) ?_ rfl (by kernel_rfl) (by kernel_rfl) (by kernel_rfl) (by kernel_rfl) (fun _ _ _ h => h) hHeld (by rfl) (fun wx hSx => ?_) ?_
            rotate_left
            · (unfold SB at hSx; go_simp; (try with_reducible rfl))
            (try simp only [Act.put, putA, putB, putC])
            refine ord_take (i := 11) (preB 12 2) ?_ rfl (by kernel_rfl) (by kernel_rfl) (by kernel_rfl) (by kernel_rfl) (fun _ _ _ h => h) hHeld (by rfl) (fun wx hSx => ?_) ?_
            rotate_left
            · (unfold SB at hSx; go_simp; (try with_reducible rfl))
            (try simp only [Act.put, putA, putB, putC])
            refine ord_take (i := 12) (preB 13 1) ?_ rfl (by kernel_rfl) (by kernel_rfl) (by kernel_rfl) (by kernel_rfl) (fun _ _ _ h => h) hHeld (by rfl) (fun wx hSx => ?_) ?_
            rotate_left
            · (unfold SB at hSx; go_simp; (try with_reducible rfl))
            (try simp only [Act.put, putA, putB, putC])
            refine ord_take (i := 13) (preB 14 0) ?_ rfl (by kernel_rfl) (by kernel_rfl) (by kernel_rfl) (by kernel_rfl) (fun _ _ _ h => h) hHeld (by rfl) (fun wx hSx => ?_) ?_
            rotate_left
            · (unfold SB at hSx; go_simp; (try with_reducible rfl))
            (try simp only [Act.put, putA, putB, putC])
            refine wpAnyH_done (by kernel_rfl) ?_ _
            go_wp2_with fail
            refine (HNM.out _).mono ?_
            rintro e w3 ⟨rfl, hb⟩
            have q3B : Below w1.heap.size w1 w3 := (by refine Below.trans ?_ (hb.mono (by first | omega | (simp <;> omega))); (repeat (first | (with_reducible first | exact Below.refl _ _ | assumption | refine Below.drew ?_) | ((with_reducible first | refine Below.alloc ?_ ?_ _ | refine Below.setCell ?_ ?_ _); rotate_left; (first | omega | (simp <;> omega))))))
            have q3z := hb.size
            try simp at q3z
            have q3t : w1.heap.size ≤ w3.heap.size := (by omega)
            have q3s0 : w.heap.size < w3.heap.size := (by omega)
            have q3n0_0 : ¬ w3.heap.size = w.heap.size := (by omega)
            have q3n0_1 : ¬ w3.heap.size + 1 = w.heap.size := (by omega)
            have q3n0_2 : ¬ w3.heap.size + 2 = w.heap.size := (by omega)
            have q3c0_17 := hb.cell (p := ⟨w.heap.size, 17, none⟩) (by first | omega | (simp <;> omega))
            simp [go_sem, *] at q3c0_17
            have q3f0 := fun o => hb.frozen (p := ⟨w.heap.size, o, none⟩) (by first | omega | (simp <;> omega))
            simp [go_sem, *] at q3f0
            have q3s1 : wr.heap.size < w3.heap.size := (by omega)
            have q3n1_0 : ¬ w3.heap.size = wr.heap.size := (by omega)
            have q3n1_1 : ¬ w3.heap.size + 1 = wr.heap.size := (by omega)
            have q3n1_2 : ¬ w3.heap.size + 2 = wr.heap.size := (by omega)
            have q3c1_0 := hb.cell (p := ⟨wr.heap.size, 0, none⟩) (by first | omega | (simp <;> omega))
            simp [go_sem, *] at q3c1_0
            have q3c1_1 := hb.cell (p := ⟨wr.heap.size, 1, none⟩) (by first | omega | (simp <;> omega))
            simp [go_sem, *] at q3c1_1
            have q3c1_2 := hb.cell (p := ⟨wr.heap.size, 2, none⟩) (by first | omega | (simp <;> omega))
            simp [go_sem, *] at q3c1_2
            have q3c1_3 := hb.cell (p := ⟨wr.heap.size, 3, none⟩) (by first | omega | (simp <;> omega))
            simp [go_sem, *] at q3c1_3
            have q3c1_4 := hb.cell (p := ⟨wr.heap.size, 4, none⟩) (by first | omega | (simp <;> omega))
            simp [go_sem, *] at q3c1_4
            have q3c1_5 := hb.cell (p := ⟨wr.heap.size, 5, none⟩) (by first | omega | (simp <;> omega))
            simp [go_sem, *] at q3c1_5
            have q3c1_6 := hb.cell (p := ⟨wr.heap.size, 6, none⟩) (by first | omega | (simp <;> omega))
            simp [go_sem, *] at q3c1_6
            have q3f1 := fun o => hb.frozen (p := ⟨wr.heap.size, o, none⟩) (by first | omega | (simp <;> omega))
            simp [go_sem, *] at q3f1
            have q3o : ∀ b o, b < w1.heap.size → w3.cell? ⟨b, o, none⟩ = w1.cell? ⟨b, o, none⟩ := fun b o h => q3B.cell (p := ⟨b, o, none⟩) h
            clear hb q2o q2f1 q2c1_6 q2c1_5 q2c1_4 q2c1_3 q2c1_2 q2c1_1 q2c1_0 q2s1 q2f0 q2c0_18 q2c0_17 q2s0 q2z q2B
            have B4 := hide (B2.out.trans (q3B.mono zB2))
            have B3W := hide q3B
            have zB4 := B4.out.size
            cases mb with
            | false =>
              have HF := hide (show chkU P pn a an = 4 from by rw [chkU_fail HZ.out (by rw [stp_own HRB.out.symm HNO.out, own_4 HMB.out.symm]; decide) HK.out, stp_own HRB.out.symm HNO.out, own_4 HMB.out.symm])
              go_wp2_with fail
              go_ret
              exact ⟨by rw [HEE.out, HF.out]; rfl, B4.out.trans (by (repeat (first | (with_reducible first | exact Below.refl _ _ | assumption | refine Below.drew ?_) | ((with_reducible first | refine Below.alloc ?_ ?_ _ | refine Below.setCell ?_ ?_ _); rotate_left; (first | omega | (simp <;> omega))))))⟩
            | true =>
              go_wp2_with fail
              refine (HCA.out _ (HP.out.below (B4.out.trans (by (repeat (first | (with_reducible first | exact Below.refl _ _ | assumption | refine Below.drew ?_) | ((with_reducible first | refine Below.alloc ?_ ?_ _ | refine Below.setCell ?_ ?_ _); rotate_left; (first | omega | (simp <;> omega))))))))).mono ?_
              rintro e w4 ⟨D, b4, rfl, hs4, h14, ho4, hb⟩
              have HH := hide (And.intro hs4 h14)
              have HOO := hide (cat_some ho4)
              have B45 := Below.trans (by (repeat (first | (with_reducible first | exact Below.refl _ _ | assumption | refine Below.drew ?_) | ((with_reducible first | refine Below.alloc ?_ ?_ _ | refine Below.setCell ?_ ?_ _); rotate_left; (first | omega | (simp <;> omega))))) : Below w3.heap.size w3 _) hb
              have B5 := hide (B4.out.trans (B45.mono zB4))
              have B5W := hide (B3W.out.trans (B45.mono B3W.out.size))
              clear B45
              clear hs4 h14 ho4 hb
              cases b4 with
              | false =>
                have HF := hide (show chkU P pn a an = 11 from by rw [chkU_fail HZ.out (by rw [stp_own HRB.out.symm HNO.out, own_11 HMB.out.symm HOO.out]; decide) HK.out, stp_own HRB.out.symm HNO.out, own_11 HMB.out.symm HOO.out])
                go_wp2_with (first
                  | (with_reducible refine wpList_alloc_row rfl 53 rfl (some 5) rfl i0 HI.out.1 Z HI.out.2 w4.heap.size rfl ?_)
                  | ((with_reducible refine wpList_store_newrow2 rfl 53 (.tmp 5) (.tmp 48) rfl rfl w4.heap.size D rfl rfl 53 Z (blk_new rfl) (pz_size HH.out.1) (by rw [HZ1.out, HH.out.1]) HH.out.2 ?_); intro w5 hb5 hs5 hx5 hk5))
                have B6 := hide (B5.out.trans ((show Below w4.heap.size w4 w5 from Below.trans (by (repeat (first | (with_reducible first | exact Below.refl _ _ | assumption | refine Below.drew ?_) | ((with_reducible first | refine Below.alloc ?_ ?_ _ | refine Below.setCell ?_ ?_ _); rotate_left; (first | omega | (simp <;> omega)))))) hb5).mono B5.out.size))
                clear hb5 hs5 hx5 hk5
                go_wp2_with fail
                go_ret
                exact ⟨by rw [HEE.out, HF.out]; rfl, B6.out⟩
              | true =>
                have HF := hide (show chkU P pn a (k + 1) = 0 from chkU_next HZ.out (by rw [stp_own HRB.out.symm HNO.out, own_0 HMB.out.symm HOO.out]))
                go_wp2_with (first
                  | (with_reducible refine wpList_alloc_row rfl 53 rfl (some 5) rfl i0 HI.out.1 Z HI.out.2 w4.heap.size rfl ?_)
                  | ((with_reducible refine wpList_store_newrow2 rfl 53 (.tmp 5) (.tmp 48) rfl rfl w4.heap.size D rfl rfl 53 Z (blk_new rfl) (pz_size HH.out.1) (by rw [HZ1.out, HH.out.1]) HH.out.2 ?_); intro w5 hb5 hs5 hx5 hk5))
                have B6 := hide (H0.out.trans (((BW.out.trans (B5W.out.mono BW.out.size)).trans ((show Below w4.heap.size w4 w5 from Below.trans (by (repeat (first | (with_reducible first | exact Below.refl _ _ | assumption | refine Below.drew ?_) | ((with_reducible first | refine Below.alloc ?_ ?_ _ | refine Below.setCell ?_ ?_ _); rotate_left; (first | omega | (simp <;> omega)))))) hb5).mono (by have h1 := BW.out.size; have h2 := B5W.out.size; omega))).mono (by have h1 := H0.out.size; simpa using h1)))
                clear hb5 hs5 hx5 hk5
                go_wp2_with fail
                go_roundw
                case rel => exact ⟨k + 1, HK.out, by go_num, HF.out, B6.out⟩
                case measure => have := HK.out; simp [intOf]; omega
        · have d8 : decide (0 < k) = false := decide_eq_false hkz
          have HNO := hide (show ¬ (0 < k ∧ (a k).id ≤ (a (k - 1)).id) from fun h => hkz h.1)
          clear hlt hk hkz
          go_wp2_with fail
          refine (HRT.out _ (HT.out.below (q1B.trans (by (repeat (first | (with_reducible first | exact Below.refl _ _ | assumption | refine Below.drew ?_) | ((with_reducible first | refine Below.alloc ?_ ?_ _ | refine Below.setCell ?_ ?_ _); rotate_left; (first | omega | (simp <;> omega))))))))).mono ?_
          rintro e w1 ⟨rfl, hb⟩
          have q2B : Below wr.heap.size wr w1 := (by refine Below.trans ?_ (hb.mono (by first | omega | (simp <;> omega))); (repeat (first | (with_reducible first | exact Below.refl _ _ | assumption | refine Below.drew ?_) | ((with_reducible first | refine Below.alloc ?_ ?_ _ | refine Below.setCell ?_ ?_ _); rotate_left; (first | omega | (simp <;> omega))))))
          have q2z := hb.size
          try simp at q2z
          have q2t : wr.heap.size ≤ w1.heap.size := (by omega)
          have q2s0 : w.heap.size < w1.heap.size := (by omega)
          have q2n0_0 : ¬ w1.heap.size = w.heap.size := (by omega)
          have q2n0_1 : ¬ w1.heap.size + 1 = w.heap.size := (by omega)
          have q2n0_2 : ¬ w1.heap.size + 2 = w.heap.size := (by omega)
          have q2c0_17 := hb.cell (p := ⟨w.heap.size, 17, none⟩) (by first | omega | (simp <;> omega))
          simp [go_sem, *] at q2c0_17
          have q2c0_18 := hb.cell (p := ⟨w.heap.size, 18, none⟩) (by first | omega | (simp <;> omega))
          simp [go_sem, *] at q2c0_18
          have q2f0 := fun o => hb.frozen (p := ⟨w.heap.size, o, none⟩) (by first | omega | (simp <;> omega))
          simp [go_sem, *] at q2f0
          have q2s1 : wr.heap.size < w1.heap.size := (by omega)
          have q2n1_0 : ¬ w1.heap.size = wr.heap.size := (by omega)
          have q2n1_1 : ¬ w1.heap.size + 1 = wr.heap.size := (by omega)
          have q2n1_2 : ¬ w1.heap.size + 2 = wr.heap.size := (by omega)
          have q2c1_0 := hb.cell (p := ⟨wr.heap.size, 0, none⟩) (by first | omega | (simp <;> omega))
          simp [go_sem, *] at q2c1_0
          have q2c1_1 := hb.cell (p := ⟨wr.heap.size, 1, none⟩) (by first | omega | (simp <;> omega))
          simp [go_sem, *] at q2c1_1
          have q2c1_2 := hb.cell (p := ⟨wr.heap.size, 2, none⟩) (by first | omega | (simp <;> omega))
          simp [go_sem, *] at q2c1_2
          have q2c1_3 := hb.cell (p := ⟨wr.heap.size, 3, none⟩) (by first | omega | (simp <;> omega))
          simp [go_sem, *] at q2c1_3
          have q2c1_4 := hb.cell (p := ⟨wr.heap.size, 4, none⟩) (by first | omega | (simp <;> omega))
          simp [go_sem, *] at q2c1_4
          have q2c1_5 := hb.cell (p := ⟨wr.heap.size, 5, none⟩) (by first | omega | (simp <;> omega))
          simp [go_sem, *] at q2c1_5
          have q2c1_6 := hb.cell (p := ⟨wr.heap.size, 6, none⟩) (by first | omega | (simp <;> omega))
          simp [go_sem, *] at q2c1_6
          have q2f1 := fun o => hb.frozen (p := ⟨wr.heap.size, o, none⟩) (by first | omega | (simp <;> omega))
          simp [go_sem, *] at q2f1
          have q2o : ∀ b o, b < wr.heap.size → w1.cell? ⟨b, o, none⟩ = wr.cell? ⟨b, o, none⟩ := fun b o h => q2B.cell (p := ⟨b, o, none⟩) h
          clear hb
          have BW := hide q2B
          have B2 := hide (BL.out.trans (q2B.mono (by first | omega | (simp <;> omega))))
          have zB2 := B2.out.size
          go_wp2_with fail
          refine ord_start (SB (w1.heap.size) [] _) 14 (preB 0 14) (by kernel_rfl) (by kernel_rfl) (by kernel_rfl) SB.refl.drew (fun hHeld => ?_)
          refine ord_take (i := 0) (preB 1 13) ?_ rfl (by kernel_rfl) (by kernel_rfl) (by kernel_rfl) (by kernel_rfl) (fun _ _ _ h => h) hHeld (by rfl) (fun wx hSx => ?_) ?_
          rotate_left
          · (unfold SB at hSx; go_simp; (try with_reducible rfl))
          (try simp only [Act.put, putA, putB, putC])
          refine ord_take (i := 1) (preB 2 12) ?_ rfl (by kernel_rfl) (by kernel_rfl) (by kernel_rfl) (by kernel_rfl) (fun _ _ _ h => h) hHeld (by rfl) (fun wx hSx => ?_) ?_
          rotate_left
          · (unfold SB at hSx; go_simp; (try with_reducible rfl))
          (try simp only [Act.put, putA, putB, putC])
          refine ord_take (i := 2) (preB 3 11) ?_ rfl (by kernel_rfl) (by kernel_rfl) (by kernel_rfl) (by kernel_rfl) (fun _ _ _ h => h) hHeld (by rfl) (fun wx hSx => ?_) ?_
          rotate_left
          · (unfold SB at hSx; go_simp; (try with_reducible rfl))
          (try simp only [Act.put, putA, putB, putC])
          refine ord_skip (i := 3) (preB 4 10) rfl (by kernel_rfl) (by kernel_rfl) (by kernel_rfl) (by kernel_rfl) (fun _ _ _ h => h) hHeld (by rfl) ?_
          (try simp only [Act.put, putA, putB, putC])
          refine ord_skip (i := 4) (preB 5 9) rfl (by kernel_rfl) (by kernel_rfl) (by kernel_rfl) (by kernel_rfl) (fun _ _ _ h => h) hHeld (by rfl) ?_
          (try simp only [Act.put, putA, putB, putC])
          refine ord_skip (i := 5) (preB 6 8) rfl (by kernel_rfl) (by kernel_rfl) (by kernel_rfl) (by kernel_rfl) (fun _ _ _ h => h) hHeld (by rfl) ?_
          (try simp only [Act.put, putA, putB, putC])
          refine ord_skip (i := 6) (preB 7 7) rfl (by kernel_rfl) (by kernel_rfl) (by kernel_rfl) (by kernel_rfl) (fun _ _ _ h => h) hHeld (by rfl) ?_
          (try simp only [Act.put, putA, putB, putC])
          refine ord_skip (i := 7) (preB 8 6) rfl (by kernel_rfl) (by kernel_rfl) (by kernel_rfl) (by kernel_rfl) (fun _ _ _ h => h) hHeld (by rfl) ?_
          (try simp only [Act.put, putA, putB, putC])
          refine ord_skip (i := 8) (preB 9 5) rfl (by kernel_rfl) (by kernel_rfl) (by kernel_rfl) (by kernel_rfl) (fun _ _ _ h => h) hHeld (by rfl) ?_
          (try simp only [Act.put, putA, putB, putC])
          refine ord_skip (i := 9) (preB 10 4) rfl (by kernel_rfl) (by kernel_rfl) (by kernel_rfl) (by kernel_rfl) (fun _ _ _ h => h) hHeld (by rfl) ?_
          (try simp only [Act.put, putA, putB, putC])
          refine ord_skip (i := 10) (preB 11 3) rfl (by kernel_rfl) (by kernel_rfl) (by kernel_rfl) (by kernel_rfl) (fun _ _ _ h => h) hHeld (by rfl) ?_
          (try simp only [Act.put, putA, putB, putC])
          refine ord_skip (i := 11) (preB 12 2) rfl (by kernel_rfl) (by kernel_rfl) (by kernel_rfl) (by kernel_rfl) (fun _ _ _ h => h) hHeld (by rfl) ?_
          (try simp only [Act.put, putA, putB, putC])
          refine ord_skip (i := 12) (preB 13 1) rfl (by kernel_rfl) (by kernel_rfl) (by kernel_rfl) (by kernel_rfl) (fun _ _ _ h => h) hHeld (by rfl) ?_
          (try simp only [Act.put, putA, putB, putC])
          refine ord_take (i := 13) (preB 14 0) ?_ rfl (by kernel_rfl) (by kernel_rfl) (by kernel_rfl) (by kernel_rfl) (fun _ _ _ h => h) hHeld (by rfl) (fun wx hSx => ?_) ?_
          rotate_left
          · (unfold SB at hSx; go_simp; (try with_reducible rfl))
          (try simp only [Act.put, putA, putB, putC])
          refine wpAnyH_done (by kernel_rfl) ?_ _
          go_wp2_with fail
          refine (HNM.out _).mono ?_
          rintro e w3 ⟨rfl, hb⟩
          have q3B : Below w1.heap.size w1 w3 := (by refine Below.trans ?_ (hb.mono (by first | omega | (simp <;> omega))); (repeat (first | (with_reducible first | exact Below.refl _ _ | assumption | refine Below.drew ?_) | ((with_reducible first | refine Below.alloc ?_ ?_ _ | refine Below.setCell ?_ ?_ _); rotate_left; (first | omega | (simp <;> omega))))))
          have q3z := hb.size
          try simp at q3z
          have q3t : w1.heap.size ≤ w3.heap.size := (by omega)
          have q3s0 : w.heap.size < w3.heap.size := (by omega)
          have q3n0_0 : ¬ w3.heap.size = w.heap.size := (by omega)
          have q3n0_1 : ¬ w3.heap.size + 1 = w.heap.size := (by omega)
          have q3n0_2 : ¬ w3.heap.size + 2 = w.heap.size := (by omega)
          have q3c0_17 := hb.cell (p := ⟨w.heap.size, 17, none⟩) (by first | omega | (simp <;> omega))
          simp [go_sem, *] at q3c0_17
          have q3f0 := fun o => hb.frozen (p := ⟨w.heap.size, o, none⟩) (by first | omega | (simp <;> omega))
          simp [go_sem, *] at q3f0
          have q3s1 : wr.heap.size < w3.heap.size := (by omega)
          have q3n1_0 : ¬ w3.heap.size = wr.heap.size := (by omega)
          have q3n1_1 : ¬ w3.heap.size + 1 = wr.heap.size := (by omega)
          have q3n1_2 : ¬ w3.heap.size + 2 = wr.heap.size := (by omega)
          have q3c1_0 := hb.cell (p := ⟨wr.heap.size, 0, none⟩) (by first | omega | (simp <;> omega))
          simp [go_sem, *] at q3c1_0
          have q3c1_1 := hb.cell (p := ⟨wr.heap.size, 1, none⟩) (by first | omega | (simp <;> omega))
          simp [go_sem, *] at q3c1_1
          have q3c1_2 := hb.cell (p := ⟨wr.heap.size, 2, none⟩) (by first | omega | (simp <;> omega))
          simp [go_sem, *] at q3c1_2
          have q3c1_3 := hb.cell (p := ⟨wr.heap.size, 3, none⟩) (by first | omega | (simp <;> omega))
          simp [go_sem, *] at q3c1_3
          have q3c1_4 := hb.cell (p := ⟨wr.heap.size, 4, none⟩) (by first | omega | (simp <;> omega))
          simp [go_sem, *] at q3c1_4
          have q3c1_5 := hb.cell (p := ⟨wr.heap.size, 5, none⟩) (by first | omega | (simp <;> omega))
          simp [go_sem, *] at q3c1_5
          have q3c1_6 := hb.cell (p := ⟨wr.heap.size, 6, none⟩) (by first | omega | (simp <;> omega))
          simp [go_sem, *] at q3c1_6
          have q3f1 := fun o => hb.frozen (p := ⟨wr.heap.size, o, none⟩) (by first | omega | (simp <;> omega))
          simp [go_sem, *] at q3f1
          have q3o : ∀ b o, b < w1.heap.size → w3.cell? ⟨b, o, none⟩ = w1.cell? ⟨b, o, none⟩ := fun b o h => q3B.cell (p := ⟨b, o, none⟩) h
          clear hb q2o q2f1 q2c1_6 q2c1_5 q2c1_4 q2c1_3 q2c1_2 q2c1_1 q2c1_0 q2s1 q2f0 q2c0_18 q2c0_17 q2s0 q2z q2B
          have B4 := hide (B2.out.trans (q3B.mono zB2))
          have B3W := hide q3B
          have zB4 := B4.out.size
          cases mb with
          | false =>
            have HF := hide (show chkU P pn a an = 4 from by rw [chkU_fail HZ.out (by rw [stp_own HRB.out.symm HNO.out, own_4 HMB.out.symm]; decide) HK.out, stp_own HRB.out.symm HNO.out, own_4 HMB.out.symm])
            go_wp2_with fail
            go_ret
            exact ⟨by rw [HEE.out, HF.out]; rfl, B4.out.trans (by (repeat (first | (with_reducible first | exact Below.refl _ _ | assumption | refine Below.drew ?_) | ((with_reducible first | refine Below.alloc ?_ ?_ _ | refine Below.setCell ?_ ?_ _); rotate_left; (first | omega | (simp <;> omega))))))⟩
          | true =>
            go_wp2_with fail
            refine (HCA.out _ (HP.out.below (B4.out.trans (by (repeat (first | (with_reducible first | exact Below.refl _ _ | assumption | refine Below.drew ?_) | ((with_reducible first | refine Below.alloc ?_ ?_ _ | refine Below.setCell ?_ ?_ _); rotate_left; (first | omega | (simp <;> omega))))))))).mono ?_
            rintro e w4 ⟨D, b4, rfl, hs4, h14, ho4, hb⟩
            have HH := hide (And.intro hs4 h14)
            have HOO := hide (cat_some ho4)
            have B45 := Below.trans (by (repeat (first | (with_reducible first | exact Below.refl _ _ | assumption | refine Below.drew ?_) | ((with_reducible first | refine Below.alloc ?_ ?_ _ | refine Below.setCell ?_ ?_ _); rotate_left; (first | omega | (simp <;> omega))))) : Below w3.heap.size w3 _) hb
            have B5 := hide (B4.out.trans (B45.mono zB4))
            have B5W := hide (B3W.out.trans (B45.mono B3W.out.size))
            clear B45
            clear hs4 h14 ho4 hb
            cases b4 with
            | false =>
              have HF := hide (show chkU P pn a an = 11 from by rw [chkU_fail HZ.out (by rw [stp_own HRB.out.symm HNO.out, own_11 HMB.out.symm HOO.out]; decide) HK.out, stp_own HRB.out.symm HNO.out, own_11 HMB.out.symm HOO.out])
              go_wp2_with (first
                | (with_reducible refine wpList_alloc_row rfl 53 rfl (some 5) rfl i0 HI.out.1 Z HI.out.2 w4.heap.size rfl ?_)
                | ((with_reducible refine wpList_store_newrow2 rfl 53 (.tmp 5) (.tmp 48) rfl rfl w4.heap.size D rfl rfl 53 Z (blk_new rfl) (pz_size HH.out.1) (by rw [HZ1.out, HH.out.1]) HH.out.2 ?_); intro w5 hb5 hs5 hx5 hk5))
              have B6 := hide (B5.out.trans ((show Below w4.heap.size w4 w5 from Below.trans (by (repeat (first | (with_reducible first | exact Below.refl _ _ | assumption | refine Below.drew ?_) | ((with_reducible first | refine Below.alloc ?_ ?_ _ | refine Below.setCell ?_ ?_ _); rotate_left; (first | omega | (simp <;> omega)))))) hb5).mono B5.out.size))
              clear hb5 hs5 hx5 hk5
              go_wp2_with fail
              go_ret
              exact ⟨by rw [HEE.out, HF.out]; rfl, B6.out⟩
            | true =>
              have HF := hide (show chkU P pn a (k + 1) = 0 from chkU_next HZ.out (by rw [stp_own HRB.out.symm HNO.out, own_0 HMB.out.symm HOO.out]))
              go_wp2_with (first
                | (with_reducible refine wpList_alloc_row rfl 53 rfl (some 5) rfl i0 HI.out.1 Z HI.out.2 w4.heap.size rfl ?_)
                | ((with_reducible refine wpList_store_newrow2 rfl 53 (.tmp 5) (.tmp 48) rfl rfl w4.heap.size D rfl rfl 53 Z (blk_new rfl) (pz_size HH.out.1) (by rw [HZ1.out, HH.out.1]) HH.out.2 ?_); intro w5 hb5 hs5 hx5 hk5))
              have B6 := hide (H0.out.trans (((BW.out.trans (B5W.out.mono BW.out.size)).trans ((show Below w4.heap.size w4 w5 from Below.trans (by (repeat (first | (with_reducible first | exact Below.refl _ _ | assumption | refine Below.drew ?_) | ((with_reducible first | refine Below.alloc ?_ ?_ _ | refine Below.setCell ?_ ?_ _); rotate_left; (first | omega | (simp <;> omega)))))) hb5).mono (by have h1 := BW.out.size; have h2 := B5W.out.size; omega))).mono (by have h1 := H0.out.size; simpa using h1)))
              clear hb5 hs5 hx5 hk5
              go_wp2_with fail
              go_roundw
              case rel => exact ⟨k + 1, HK.out, by go_num, HF.out, B6.out⟩
              case measure => have := HK.out; simp [intOf]; omega
    · obtain rfl : k = an := by omega
      have HF := hide (HZ.out)
      clear hlt hk
      go_wp2_with fail
      go_ret
      exact ⟨by rw [HEE.out, HF.out]; rfl, BL.out⟩
end Go.Proofs.YtdjhkhadjmndoaaDoor
