/- Texts laid together: Ahe. -/
import Derived.Test.YtdjhkhadjmndoaaDoorQAgH
import Derived.Test.YtdjhkhadjmndoaaDoorQAgD
namespace Go.Proofs.YtdjhkhadjmndoaaDoor
set_option maxRecDepth 4000
set_option linter.unusedSimpArgs false
set_option linter.unusedVariables false
open Go.RowKit
theorem right_eq (x : LAcc) : rightB x = (shB x && (clB x && exB x)) := rfl
set_option maxRecDepth 20000 in
set_option maxHeartbeats 16000000 in
theorem rcheck_any (B : LBk) (hB : BkOK B) (w : World) (hw : BkIn w B) :
    Calls Tryd.prog 22 #[.agg B.C] w fun e w' => e = .returned (.int .i64 (chkE B.P B.pn B.a B.an)) ∧ Below w.heap.size w w' := by
  obtain ⟨C, aA, an, ac, a, jA, jn, jc, pA, pn, pc, P⟩ := B
  have HR := hide (show RowAcc w aA an a from hw.acc)
  have HIN := hide hw
  have HOK := hide hB
  have HCS := hide (bk_size hB)
  have h17 : C[17]? = some (.slice pA pn pc) := hB.pro
  have h18 : C[18]? = some (.slice aA an ac) := hB.bks.acc
  have hn : an ≤ 1000000 := hB.an
  clear hB hw
  dsimp only
  by_cases h64 : 64 < an
  · have d64 : decide ((64 : Int) < an) = true := decide_eq_true (by omega)
    have HE := hide (show chkE P pn a an = 5 from if_pos h64)
    clear h64
    go_enter Tryd.func22, Tryd.ntmps22
    go_wp2_with fail
    go_ret
    exact ⟨by rw [HE.out]; rfl, by (repeat (first | (with_reducible first | exact Below.refl _ _ | assumption | refine Below.drew ?_ | refine below_drewN ?_ _) | ((with_reducible first | refine Below.alloc ?_ ?_ _ | refine Below.setCell ?_ ?_ _); rotate_left; (first | omega | (simp <;> omega)))))⟩
  have d64 : decide ((64 : Int) < an) = false := decide_eq_false (by omega)
  have d64' : (an : Int) ≤ 64 := by omega
  have HEE := hide (show chkE P pn a an = chkU P pn a an from if_neg h64)
  clear h64
  go_enter Tryd.func22, Tryd.ntmps22
  go_wp2_with fail
  go_loopw [3] (fun v wr => ChkI P pn a an (w.alloc (.cells C 41)) v wr) (fun v _ => an - (intOf v).toNat)
  case atStart => exact ⟨0, by omega, rfl, rfl, Below.refl _ _⟩
  case round =>
    obtain ⟨k, hk, rfl, hz, hb⟩ := hrel
    have HZ := hide hz
    have H0 := hide hb
    have HC0 := hide (blk_below hb (by simp) (blk_new (w := w) (o := .cells C 41) rfl))
    clear hz
    have q1B : Below w.heap.size w wr := (by refine Below.trans ?_ (hb.mono (by first | omega | (simp <;> omega))); (repeat (first | (with_reducible first | exact Below.refl _ _ | assumption | refine Below.drew ?_ | refine below_drewN ?_ _) | ((with_reducible first | refine Below.alloc ?_ ?_ _ | refine Below.setCell ?_ ?_ _); rotate_left; (first | omega | (simp <;> omega))))))
    have q1z := hb.size
    try simp at q1z
    have q1t : w.heap.size ≤ wr.heap.size := (by omega)
    have q1s0 : w.heap.size < wr.heap.size := (by omega)
    have q1n0_0 : ¬ wr.heap.size = w.heap.size := (by omega)
    have q1n0_1 : ¬ wr.heap.size + 1 = w.heap.size := (by omega)
    have q1n0_2 : ¬ wr.heap.size + 2 = w.heap.size := (by omega)
    have q1c0_17 := hb.cell (p := ⟨w.heap.size, 17, none⟩) (by first | omega | (simp <;> omega))
    simp [go_sem, *] at q1c0_17
    have q1c0_18 := hb.cell (p := ⟨w.heap.size, 18, none⟩) (by first | omega | (simp <;> omega))
    simp [go_sem, *] at q1c0_18
    have q1f0 := fun o => hb.frozen (p := ⟨w.heap.size, o, none⟩) (by first | omega | (simp <;> omega))
    simp [go_sem, *] at q1f0
    have q1o : ∀ b o, b < w.heap.size → wr.cell? ⟨b, o, none⟩ = w.cell? ⟨b, o, none⟩ := fun b o h => q1B.cell (p := ⟨b, o, none⟩) h
    clear hb
    have BL := hide q1B
    clear h17 h18
    by_cases hlt : k < an
    · have hm : (k : Int) < an := by omega
      have hk0 : (0 : Int) ≤ k := by omega
      have HK := hide hlt
      obtain ⟨sb, hsb⟩ : ∃ b, b = shB (a k) := ⟨_, rfl⟩
      obtain ⟨cb, hcb⟩ : ∃ b, b = clB (a k) := ⟨_, rfl⟩
      obtain ⟨ow, how⟩ : ∃ e, e = ownE P pn (a k) := ⟨_, rfl⟩
      have HSH := hide (fun (W : World) => by have t := shaped_any (a k) W; rw [← hsb] at t; exact t)
      obtain ⟨b, off, rfl, hbl, c0, c1, c2, c3, c4, c5, c6⟩ := (HR.out.below q1B).at hlt
      have HOW := hide (fun (W : World) (h : BkIn W ⟨C, some ⟨b, off, none⟩, an, ac, a, jA, jn, jc, pA, pn, pc, P⟩) => by have t := owned_any _ HOK.out (a k) W h; rw [show ownE P pn (a k) = ow from how.symm] at t; exact t)
      have HOE := hide how
      have HRE := hide (show rightB (a k) = (sb && (cb && exB (a k))) from by rw [right_eq, ← hsb, ← hcb])
      clear how hsb
      obtain ⟨x, hx⟩ : ∃ x, x = a k := ⟨_, rfl⟩
      rw [← hx] at c0 c1 c2 c3 c4 c5 c6 hcb
      have HX := hide hx
      rw [← hx] at HSH HOW
      have HSM := hide (show ∀ kk, k = kk + 1 → wr.cell? ⟨b, off + kk * 7, none⟩ = some (.int .i64 (a kk).id) from fun kk hkk => by
        obtain ⟨b', off', e', _, p0, _, _, _, _, _, _⟩ := (HR.out.below q1B).at (show kk < an by omega)
        injection e' with e'
        injection e' with e1 e2
        subst e1 e2
        exact p0)
      have HBL := hide hbl
      clear hlt hk hx
      go_upto_region 7 with fail
      go_cut [5] (fun v5 wx => v5 = .bool cb ∧ wx = wr.alloc (.cells #[.int .i64 x.id, .int .i64 x.op, .int .i64 x.cl, .int .i64 x.ex, .string x.ow, .string x.pr, .string x.nu] 44))
      case first =>
        cases h1 : (x.cl == 0) with
        | true =>
          have hc : cb = true := by rw [hcb]; unfold clB; rw [h1]; rfl
          clear hcb
          go_wp2_with fail
          go_meet
          exact ⟨by rw [hc], rfl⟩
        | false =>
          obtain ⟨vc, hvc⟩ : ∃ vc, vc = vday x.cl := ⟨_, rfl⟩
          have HV := hide (fun (W : World) => by have h := rvalid_any x.cl W; rw [← hvc] at h; exact h)
          have hc0 : cb = (vc && decide (x.op ≤ x.cl)) := by rw [hcb]; unfold clB; rw [h1, hvc]; rfl
          clear hcb hvc
          have HC := hide hc0
          clear hc0
          cases vc with
          | false =>
            go_wp2_with fail
            refine (HV.out _).mono ?_
            rintro e w1 ⟨rfl, rfl⟩
            go_wp2_with fail
            go_meet
            exact ⟨by rw [HC.out]; rfl, rfl⟩
          | true =>
            by_cases h2 : x.op ≤ x.cl
            · have d2 : decide (x.op ≤ x.cl) = true := decide_eq_true h2
              go_wp2_with fail
              refine (HV.out _).mono ?_
              rintro e w1 ⟨rfl, rfl⟩
              go_wp2_with fail
              go_meet
              exact ⟨by rw [HC.out, d2]; rfl, rfl⟩
            · have d2 : decide (x.op ≤ x.cl) = false := decide_eq_false h2
              have h3 := Int.not_le.1 h2
              clear h2
              go_wp2_with fail
              refine (HV.out _).mono ?_
              rintro e w1 ⟨rfl, rfl⟩
              go_wp2_with fail
              go_meet
              exact ⟨by rw [HC.out, d2]; rfl, rfl⟩
      case rest =>
        obtain ⟨rfl, rfl⟩ := hcut
        clear hcb hbl c0 c1 c2 c3 c4 c5 c6
        go_wp2_with fail
        refine (HSH.out _).mono ?_
        rintro e w1 ⟨rfl, hb⟩
        have BX : Below wr.heap.size wr w1 := (by refine Below.trans ?_ (hb.mono (by first | omega | (simp <;> omega))); (repeat (first | (with_reducible first | exact Below.refl _ _ | assumption | refine Below.drew ?_ | refine below_drewN ?_ _) | ((with_reducible first | refine Below.alloc ?_ ?_ _ | refine Below.setCell ?_ ?_ _); rotate_left; (first | omega | (simp <;> omega))))))
        have HC1 := hide (blk_below BX (by omega) HC0.out)
        have q2B : Below wr.heap.size wr w1 := (by refine Below.trans ?_ (hb.mono (by first | omega | (simp <;> omega))); (repeat (first | (with_reducible first | exact Below.refl _ _ | assumption | refine Below.drew ?_ | refine below_drewN ?_ _) | ((with_reducible first | refine Below.alloc ?_ ?_ _ | refine Below.setCell ?_ ?_ _); rotate_left; (first | omega | (simp <;> omega))))))
        have q2z := hb.size
        try simp at q2z
        have q2t : wr.heap.size ≤ w1.heap.size := (by omega)
        have q2s0 : w.heap.size < w1.heap.size := (by omega)
        have q2n0_0 : ¬ w1.heap.size = w.heap.size := (by omega)
        have q2n0_1 : ¬ w1.heap.size + 1 = w.heap.size := (by omega)
        have q2n0_2 : ¬ w1.heap.size + 2 = w.heap.size := (by omega)
        have q2c0_17 := hb.cell (p := ⟨w.heap.size, 17, none⟩) (by first | omega | (simp <;> omega))
        simp [go_sem, *] at q2c0_17
        have q2c0_18 := hb.cell (p := ⟨w.heap.size, 18, none⟩) (by first | omega | (simp <;> omega))
        simp [go_sem, *] at q2c0_18
        have q2f0 := fun o => hb.frozen (p := ⟨w.heap.size, o, none⟩) (by first | omega | (simp <;> omega))
        simp [go_sem, *] at q2f0
        have q2s1 : wr.heap.size < w1.heap.size := (by omega)
        have q2n1_0 : ¬ w1.heap.size = wr.heap.size := (by omega)
        have q2n1_1 : ¬ w1.heap.size + 1 = wr.heap.size := (by omega)
        have q2n1_2 : ¬ w1.heap.size + 2 = wr.heap.size := (by omega)
        have q2c1_0 := hb.cell (p := ⟨wr.heap.size, 0, none⟩) (by first | omega | (simp <;> omega))
        simp [go_sem, *] at q2c1_0
        have q2c1_1 := hb.cell (p := ⟨wr.heap.size, 1, none⟩) (by first | omega | (simp <;> omega))
        simp [go_sem, *] at q2c1_1
        have q2c1_2 := hb.cell (p := ⟨wr.heap.size, 2, none⟩) (by first | omega | (simp <;> omega))
        simp [go_sem, *] at q2c1_2
        have q2c1_3 := hb.cell (p := ⟨wr.heap.size, 3, none⟩) (by first | omega | (simp <;> omega))
        simp [go_sem, *] at q2c1_3
        have q2c1_4 := hb.cell (p := ⟨wr.heap.size, 4, none⟩) (by first | omega | (simp <;> omega))
        simp [go_sem, *] at q2c1_4
        have q2c1_5 := hb.cell (p := ⟨wr.heap.size, 5, none⟩) (by first | omega | (simp <;> omega))
        simp [go_sem, *] at q2c1_5
        have q2c1_6 := hb.cell (p := ⟨wr.heap.size, 6, none⟩) (by first | omega | (simp <;> omega))
        simp [go_sem, *] at q2c1_6
        have q2f1 := fun o => hb.frozen (p := ⟨wr.heap.size, o, none⟩) (by first | omega | (simp <;> omega))
        simp [go_sem, *] at q2f1
        have q2o : ∀ b o, b < wr.heap.size → w1.cell? ⟨b, o, none⟩ = wr.cell? ⟨b, o, none⟩ := fun b o h => q2B.cell (p := ⟨b, o, none⟩) h
        clear hb q1o q1f0 q1c0_18 q1c0_17 q1s0 q1z q1B
        have BW := hide q2B
        have B2 := hide (BL.out.trans (q2B.mono (by first | omega | (simp <;> omega))))
        have zB2 := B2.out.size
        clear BX
        cases sb with
        | false =>
          have HRB := hide (show rightB (a k) = false from HRE.out)
          have HF := hide (show chkU P pn a an = 1 from by rw [chkU_fail HZ.out (by rw [stp_1 HRB.out]; decide) HK.out, stp_1 HRB.out])
          go_wp2_with fail
          go_ret
          exact ⟨by rw [HEE.out, HF.out]; rfl, B2.out⟩
        | true =>
          cases cb with
          | false =>
            have HRB := hide (show rightB (a k) = false from HRE.out)
            have HF := hide (show chkU P pn a an = 1 from by rw [chkU_fail HZ.out (by rw [stp_1 HRB.out]; decide) HK.out, stp_1 HRB.out])
            go_wp2_with fail
            go_ret
            exact ⟨by rw [HEE.out, HF.out]; rfl, B2.out⟩
          | true =>
            by_cases g5 : x.ex < 0
            · have d5 : decide (x.ex < 0) = true := decide_eq_true g5
              have HRB := hide (show rightB (a k) = false from by rw [HRE.out, ← HX.out]; exact decide_eq_false (fun h => by have := h.1; omega))
              have HF := hide (show chkU P pn a an = 1 from by rw [chkU_fail HZ.out (by rw [stp_1 HRB.out]; decide) HK.out, stp_1 HRB.out])
              clear g5
              go_wp2_with fail
              go_ret
              exact ⟨by rw [HEE.out, HF.out]; rfl, B2.out⟩
            have d5 : decide (x.ex < 0) = false := decide_eq_false g5
            by_cases g6 : 1000000000000 < x.ex
            · have d6 : decide (1000000000000 < x.ex) = true := decide_eq_true g6
              have HRB := hide (show rightB (a k) = false from by rw [HRE.out, ← HX.out]; exact decide_eq_false (fun h => by have := h.2; omega))
              have HF := hide (show chkU P pn a an = 1 from by rw [chkU_fail HZ.out (by rw [stp_1 HRB.out]; decide) HK.out, stp_1 HRB.out])
              clear g5 g6
              go_wp2_with fail
              go_ret
              exact ⟨by rw [HEE.out, HF.out]; rfl, B2.out⟩
            have d6 : decide (1000000000000 < x.ex) = false := decide_eq_false g6
            have HRB := hide (show rightB (a k) = true from by rw [HRE.out, ← HX.out]; exact decide_eq_true ⟨by omega, by omega⟩)
            clear g5 g6
            by_cases hkz : 0 < k
            · obtain ⟨kk, hkk⟩ : ∃ kk, k = kk + 1 := ⟨k - 1, by omega⟩
              have d8 : decide (0 < k) = true := decide_eq_true hkz
              have n1 : IntKind.i64.wrap ((k : Int) - 1) = (kk : Int) := by rw [i64w]; unfold wrap64; have := HK.out; omega
              have hkk0 : (0 : Int) ≤ kk := by omega
              have hkk1 : (kk : Int) < an := by have := HK.out; omega
              have p1 : w1.cell? ⟨b, off + kk * 7, none⟩ = some (.int .i64 (a kk).id) := (BW.out.cell (p := ⟨b, off + kk * 7, none⟩) HBL.out).trans (HSM.out kk hkk)
              have HKK := hide hkk
              have hbl1 : b < w1.heap.size := by have := HBL.out; omega
              clear hkk hkz
              by_cases ho : x.id ≤ (a kk).id
              · have d9 : decide (x.id ≤ (a kk).id) = true := decide_eq_true ho
                have HF := hide (show chkU P pn a an = 10 from by
                  have hs : stpE P pn a k = 10 := stp_10 HRB.out ⟨by rw [HKK.out]; omega, by rw [show k - 1 = kk by rw [HKK.out]; rfl, ← HX.out]; exact ho⟩
                  rw [chkU_fail HZ.out (by rw [hs]; decide) HK.out, hs])
                clear ho
                go_wp2_with fail
                refine ord_start (SB (w1.heap.size) [] _) 14 (preB 0 14) (by kernel_rfl) (by kernel_rfl) (by kernel_rfl) SB.refl.drew (fun hHeld => ?_)
                refine ord_take (i := 0) (preB 1 13) ?_ rfl (by kernel_rfl) (by kernel_rfl) (by kernel_rfl) (by kernel_rfl) (fun _ _ _ h => h) hHeld (by rfl) (fun wx hSx => ?_) ?_
                rotate_left
                · (unfold SB at hSx; go_simp; (try with_reducible rfl))
                (try simp only [Act.put, putA, putB, putC])
                refine ord_take (i := 1) (preB 2 12) ?_ rfl (by kernel_rfl) (by kernel_rfl) (by kernel_rfl) (by kernel_rfl) (fun _ _ _ h => h) hHeld (by rfl) (fun wx hSx => ?_) ?_
                rotate_left
                · (unfold SB at hSx; go_simp; (try with_reducible rfl))
                (try simp only [Act.put, putA, putB, putC])
                refine ord_take (i := 2) (preB 3 11) ?_ rfl (by kernel_rfl) (by kernel_rfl) (by kernel_rfl) (by kernel_rfl) (fun _ _ _ h => h) hHeld (by rfl) (fun wx hSx => ?_) ?_
                rotate_left
                · (unfold SB at hSx; go_simp; (try with_reducible rfl))
                (try simp only [Act.put, putA, putB, putC])
                refine ord_take (i := 3) (preB 4 10) ?_ rfl (by kernel_rfl) (by kernel_rfl) (by kernel_rfl) (by kernel_rfl) (fun _ _ _ h => h) hHeld (by rfl) (fun wx hSx => ?_) ?_
                rotate_left
                · (unfold SB at hSx; go_simp; (try with_reducible rfl))
                (try simp only [Act.put, putA, putB, putC])
                refine ord_take (i := 4) (preB 5 9) ?_ rfl (by kernel_rfl) (by kernel_rfl) (by kernel_rfl) (by kernel_rfl) (fun _ _ _ h => h) hHeld (by rfl) (fun wx hSx => ?_) ?_
                rotate_left
                · (unfold SB at hSx; go_simp; (try with_reducible rfl))
                (try simp only [Act.put, putA, putB, putC])
                refine ord_take (i := 5) (preB 6 8) ?_ rfl (by kernel_rfl) (by kernel_rfl) (by kernel_rfl) (by kernel_rfl) (fun _ _ _ h => h) hHeld (by rfl) (fun wx hSx => ?_) ?_
                rotate_left
                · (unfold SB at hSx; go_simp; (try with_reducible rfl))
                (try simp only [Act.put, putA, putB, putC])
                refine ord_take (i := 6) (preB 7 7) ?_ rfl (by kernel_rfl) (by kernel_rfl) (by kernel_rfl) (by kernel_rfl) (fun _ _ _ h => h) hHeld (by rfl) (fun wx hSx => ?_) ?_
                rotate_left
                · (unfold SB at hSx; go_simp; (try with_reducible rfl))
                (try simp only [Act.put, putA, putB, putC])
                refine ord_take (i := 7) (preB 8 6) ?_ rfl (by kernel_rfl) (by kernel_rfl) (by kernel_rfl) (by kernel_rfl) (fun _ _ _ h => h) hHeld (by rfl) (fun wx hSx => ?_) ?_
                rotate_left
                · (unfold SB at hSx; go_simp; (try with_reducible rfl))
                (try simp only [Act.put, putA, putB, putC])
                refine ord_take (i := 8) (preB 9 5) ?_ rfl (by kernel_rfl) (by kernel_rfl) (by kernel_rfl) (by kernel_rfl) (fun _ _ _ h => h) hHeld (by rfl) (fun wx hSx => ?_) ?_
                rotate_left
                · (unfold SB at hSx; go_simp; (try with_reducible rfl))
                (try simp only [Act.put, putA, putB, putC])
                refine ord_take (i := 9) (preB 10 4) ?_ rfl (by kernel_rfl) (by kernel_rfl) (by kernel_rfl) (by kernel_rfl) (fun _ _ _ h => h) hHeld (by rfl) (fun wx hSx => ?_) ?_
                rotate_left
                · (unfold SB at hSx; go_simp; (try with_reducible rfl))
                (try simp only [Act.put, putA, putB, putC])
                refine ord_take (i := 10) (preB 11 3) ?_ rfl (by kernel_rfl) (by kernel_rfl) (by kernel_rfl) (by kernel_rfl) (fun _ _ _ h => h) hHeld (by rfl) (fun wx hSx => ?_) ?_
                rotate_left
                · (unfold SB at hSx; go_simp; (try with_reducible rfl))
                (try simp only [Act.put, putA, putB, putC])
                refine ord_take (i := 11) (preB 12 2) ?_ rfl (by kernel_rfl) (by kernel_rfl) (by kernel_rfl) (by kernel_rfl) (fun _ _ _ h => h) hHeld (by rfl) (fun wx hSx => ?_) ?_
                rotate_left
                · (unfold SB at hSx; go_simp; (try with_reducible rfl))
                (try simp only [Act.put, putA, putB, putC])
                refine ord_take (i := 12) (preB 13 1) ?_ rfl (by kernel_rfl) (by kernel_rfl) (by kernel_rfl) (by kernel_rfl) (fun _ _ _ h => h) hHeld (by rfl) (fun wx hSx => ?_) ?_
                rotate_left
                · (unfold SB at hSx; go_simp; (try with_reducible rfl))
                (try simp only [Act.put, putA, putB, putC])
                refine ord_take (i := 13) (preB 14 0) ?_ rfl (by kernel_rfl) (by kernel_rfl) (by kernel_rfl) (by kernel_rfl) (fun _ _ _ h => h) hHeld (by rfl) (fun wx hSx => ?_) ?_
                rotate_left
                · (unfold SB at hSx; go_simp; (try with_reducible rfl))
                (try simp only [Act.put, putA, putB, putC])
                refine wpAnyH_done (by kernel_rfl) ?_ _
                go_wp2_with fail
                go_ret
                exact ⟨by rw [HEE.out, HF.out]; rfl, B2.out.trans (by (repeat (first | (with_reducible first | exact Below.refl _ _ | assumption | refine Below.drew ?_ | refine below_drewN ?_ _) | ((with_reducible first | refine Below.alloc ?_ ?_ _ | refine Below.setCell ?_ ?_ _); rotate_left; (first | omega | (simp <;> omega))))))⟩
              · have d9 : decide (x.id ≤ (a kk).id) = false := decide_eq_false ho
                have HNO := hide (show ¬ (0 < k ∧ (a k).id ≤ (a (k - 1)).id) from fun h => ho (by have h2 := h.2; rw [show k - 1 = kk by rw [HKK.out]; rfl, ← HX.out] at h2; exact h2))
                clear ho
                go_wp2_with fail
                refine ord_start (SB (w1.heap.size) [] _) 14 (preB 0 14) (by kernel_rfl) (by kernel_rfl) (by kernel_rfl) SB.refl.drew (fun hHeld => ?_)
                refine ord_take (i := 0) (preB 1 13) ?_ rfl (by kernel_rfl) (by kernel_rfl) (by kernel_rfl) (by kernel_rfl) (fun _ _ _ h => h) hHeld (by rfl) (fun wx hSx => ?_) ?_
                rotate_left
                · (unfold SB at hSx; go_simp; (try with_reducible rfl))
                (try simp only [Act.put, putA, putB, putC])
                refine ord_take (i := 1) (preB 2 12) ?_ rfl (by kernel_rfl) (by kernel_rfl) (by kernel_rfl) (by kernel_rfl) (fun _ _ _ h => h) hHeld (by rfl) (fun wx hSx => ?_) ?_
                rotate_left
                · (unfold SB at hSx; go_simp; (try with_reducible rfl))
                (try simp only [Act.put, putA, putB, putC])
                refine ord_take (i := 2) (preB 3 11) ?_ rfl (by kernel_rfl) (by kernel_rfl) (by kernel_rfl) (by kernel_rfl) (fun _ _ _ h => h) hHeld (by rfl) (fun wx hSx => ?_) ?_
                rotate_left
                · (unfold SB at hSx; go_simp; (try with_reducible rfl))
                (try simp only [Act.put, putA, putB, putC])
                refine ord_take (i := 3) (preB 4 10) ?_ rfl (by kernel_rfl) (by kernel_rfl) (by kernel_rfl) (by kernel_rfl) (fun _ _ _ h => h) hHeld (by rfl) (fun wx hSx => ?_) ?_
                rotate_left
                · (unfold SB at hSx; go_simp; (try with_reducible rfl))
                (try simp only [Act.put, putA, putB, putC])
                refine ord_take (i := 4) (preB 5 9) ?_ rfl (by kernel_rfl) (by kernel_rfl) (by kernel_rfl) (by kernel_rfl) (fun _ _ _ h => h) hHeld (by rfl) (fun wx hSx => ?_) ?_
                rotate_left
                · (unfold SB at hSx; go_simp; (try with_reducible rfl))
                (try simp only [Act.put, putA, putB, putC])
                refine ord_take (i := 5) (preB 6 8) ?_ rfl (by kernel_rfl) (by kernel_rfl) (by kernel_rfl) (by kernel_rfl) (fun _ _ _ h => h) hHeld (by rfl) (fun wx hSx => ?_) ?_
                rotate_left
                · (unfold SB at hSx; go_simp; (try with_reducible rfl))
                (try simp only [Act.put, putA, putB, putC])
                refine ord_take (i := 6) (preB 7 7) ?_ rfl (by kernel_rfl) (by kernel_rfl) (by kernel_rfl) (by kernel_rfl) (fun _ _ _ h => h) hHeld (by rfl) (fun wx hSx => ?_) ?_
                rotate_left
                · (unfold SB at hSx; go_simp; (try with_reducible rfl))
                (try simp only [Act.put, putA, putB, putC])
                refine ord_take (i := 7) (preB 8 6) ?_ rfl (by kernel_rfl) (by kernel_rfl) (by kernel_rfl) (by kernel_rfl) (fun _ _ _ h => h) hHeld (by rfl) (fun wx hSx => ?_) ?_
                rotate_left
                · (unfold SB at hSx; go_simp; (try with_reducible rfl))
                (try simp only [Act.put, putA, putB, putC])
                refine ord_take (i := 8) (preB 9 5) ?_ rfl (by kernel_rfl) (by kernel_rfl) (by kernel_rfl) (by kernel_rfl) (fun _ _ _ h => h) hHeld (by rfl) (fun wx hSx => ?_) ?_
                rotate_left
                · (unfold SB at hSx; go_simp; (try with_reducible rfl))
                (try simp only [Act.put, putA, putB, putC])
                refine ord_take (i := 9) (preB 10 4) ?_ rfl (by kernel_rfl) (by kernel_rfl) (by kernel_rfl) (by kernel_rfl) (fun _ _ _ h => h) hHeld (by rfl) (fun wx hSx => ?_) ?_
                rotate_left
                · (unfold SB at hSx; go_simp; (try with_reducible rfl))
                (try simp only [Act.put, putA, putB, putC])
                refine ord_take (i := 10) (preB 11 3) ?_ rfl (by kernel_rfl) (by kernel_rfl) (by kernel_rfl) (by kernel_rfl) (fun _ _ _ h => h) hHeld (by rfl) (fun wx hSx => ?_) ?_
                rotate_left
                · (unfold SB at hSx; go_simp; (try with_reducible rfl))
                (try simp only [Act.put, putA, putB, putC])
                refine ord_take (i := 11) (preB 12 2) ?_ rfl (by kernel_rfl) (by kernel_rfl) (by kernel_rfl) (by kernel_rfl) (fun _ _ _ h => h) hHeld (by rfl) (fun wx hSx => ?_) ?_
                rotate_left
                · (unfold SB at hSx; go_simp; (try with_reducible rfl))
                (try simp only [Act.put, putA, putB, putC])
                refine ord_take (i := 12) (preB 13 1) ?_ rfl (by kernel_rfl) (by kernel_rfl) (by kernel_rfl) (by kernel_rfl) (fun _ _ _ h => h) hHeld (by rfl) (fun wx hSx => ?_) ?_
                rotate_left
                · (unfold SB at hSx; go_simp; (try with_reducible rfl))
                (try simp only [Act.put, putA, putB, putC])
                refine ord_take (i := 13) (preB 14 0) ?_ rfl (by kernel_rfl) (by kernel_rfl) (by kernel_rfl) (by kernel_rfl) (fun _ _ _ h => h) hHeld (by rfl) (fun wx hSx => ?_) ?_
                rotate_left
                · (unfold SB at hSx; go_simp; (try with_reducible rfl))
                (try simp only [Act.put, putA, putB, putC])
                refine wpAnyH_done (by kernel_rfl) ?_ _
                go_wp2_with (with_reducible refine wpList_load_row rfl 41 (.tmp 1) rfl w.heap.size rfl 41 C (0, 0) _ (blk_drew HC1.out) Tryd.underlying41 rfl HCS.out ?_)
                refine (HOW.out _ (HIN.out.below (B2.out.trans (by (repeat (first | (with_reducible first | exact Below.refl _ _ | assumption | refine Below.drew ?_ | refine below_drewN ?_ _) | ((with_reducible first | refine Below.alloc ?_ ?_ _ | refine Below.setCell ?_ ?_ _); rotate_left; (first | omega | (simp <;> omega))))))))).mono ?_
                rintro e w3 ⟨rfl, hb⟩
                have B3W := Below.trans (by (repeat (first | (with_reducible first | exact Below.refl _ _ | assumption | refine Below.drew ?_ | refine below_drewN ?_ _) | ((with_reducible first | refine Below.alloc ?_ ?_ _ | refine Below.setCell ?_ ?_ _); rotate_left; (first | omega | (simp <;> omega))))) : Below w1.heap.size w1 _) hb
                have B3 := hide (B2.out.trans (B3W.mono zB2))
                have B3F := hide (BW.out.trans (B3W.mono BW.out.size))
                clear hb B3W
                by_cases h9 : ow = 0
                · have n9 : (ow != 0) = false := by rw [h9]; rfl
                  have HF := hide (show chkU P pn a (k + 1) = 0 from chkU_next HZ.out (by rw [stp_own HRB.out HNO.out, ← HOE.out]; exact h9))
                  clear h9
                  go_wp2_with fail
                  go_roundw
                  case rel => exact ⟨k + 1, HK.out, by go_num, HF.out, H0.out.trans (B3F.out.mono (by have h1 := H0.out.size; simpa using h1))⟩
                  case measure => have := HK.out; simp [intOf]; omega
                · have n9 : (ow != 0) = true := by simp [bne, h9]
                  have HF := hide (show chkU P pn a an = ow from by rw [chkU_fail HZ.out (by rw [stp_own HRB.out HNO.out, ← HOE.out]; exact h9) HK.out, stp_own HRB.out HNO.out, ← HOE.out])
                  clear h9
                  go_wp2_with fail
                  go_ret
                  exact ⟨by rw [HEE.out, HF.out]; rfl, B3.out.trans (by (repeat (first | (with_reducible first | exact Below.refl _ _ | assumption | refine Below.drew ?_ | refine below_drewN ?_ _) | ((with_reducible first | refine Below.alloc ?_ ?_ _ | refine Below.setCell ?_ ?_ _); rotate_left; (first | omega | (simp <;> omega))))))⟩
            · have d8 : decide (0 < k) = false := decide_eq_false hkz
              have HNO := hide (show ¬ (0 < k ∧ (a k).id ≤ (a (k - 1)).id) from fun h => hkz h.1)
              clear hkz
              go_wp2_with fail
              refine ord_start (SB (w1.heap.size) [] _) 14 (preB 0 14) (by kernel_rfl) (by kernel_rfl) (by kernel_rfl) SB.refl.drew (fun hHeld => ?_)
              refine ord_take (i := 0) (preB 1 13) ?_ rfl (by kernel_rfl) (by kernel_rfl) (by kernel_rfl) (by kernel_rfl) (fun _ _ _ h => h) hHeld (by rfl) (fun wx hSx => ?_) ?_
              rotate_left
              · (unfold SB at hSx; go_simp; (try with_reducible rfl))
              (try simp only [Act.put, putA, putB, putC])
              refine ord_take (i := 1) (preB 2 12) ?_ rfl (by kernel_rfl) (by kernel_rfl) (by kernel_rfl) (by kernel_rfl) (fun _ _ _ h => h) hHeld (by rfl) (fun wx hSx => ?_) ?_
              rotate_left
              · (unfold SB at hSx; go_simp; (try with_reducible rfl))
              (try simp only [Act.put, putA, putB, putC])
              refine ord_take (i := 2) (preB 3 11) ?_ rfl (by kernel_rfl) (by kernel_rfl) (by kernel_rfl) (by kernel_rfl) (fun _ _ _ h => h) hHeld (by rfl) (fun wx hSx => ?_) ?_
              rotate_left
              · (unfold SB at hSx; go_simp; (try with_reducible rfl))
              (try simp only [Act.put, putA, putB, putC])
              refine ord_skip (i := 3) (preB 4 10) rfl (by kernel_rfl) (by kernel_rfl) (by kernel_rfl) (by kernel_rfl) (fun _ _ _ h => h) hHeld (by rfl) ?_
              (try simp only [Act.put, putA, putB, putC])
              refine ord_skip (i := 4) (preB 5 9) rfl (by kernel_rfl) (by kernel_rfl) (by kernel_rfl) (by kernel_rfl) (fun _ _ _ h => h) hHeld (by rfl) ?_
              (try simp only [Act.put, putA, putB, putC])
              refine ord_skip (i := 5) (preB 6 8) rfl (by kernel_rfl) (by kernel_rfl) (by kernel_rfl) (by kernel_rfl) (fun _ _ _ h => h) hHeld (by rfl) ?_
              (try simp only [Act.put, putA, putB, putC])
              refine ord_skip (i := 6) (preB 7 7) rfl (by kernel_rfl) (by kernel_rfl) (by kernel_rfl) (by kernel_rfl) (fun _ _ _ h => h) hHeld (by rfl) ?_
              (try simp only [Act.put, putA, putB, putC])
              refine ord_skip (i := 7) (preB 8 6) rfl (by kernel_rfl) (by kernel_rfl) (by kernel_rfl) (by kernel_rfl) (fun _ _ _ h => h) hHeld (by rfl) ?_
              (try simp only [Act.put, putA, putB, putC])
              refine ord_skip (i := 8) (preB 9 5) rfl (by kernel_rfl) (by kernel_rfl) (by kernel_rfl) (by kernel_rfl) (fun _ _ _ h => h) hHeld (by rfl) ?_
              (try simp only [Act.put, putA, putB, putC])
              refine ord_skip (i := 9) (preB 10 4) rfl (by kernel_rfl) (by kernel_rfl) (by kernel_rfl) (by kernel_rfl) (fun _ _ _ h => h) hHeld (by rfl) ?_
              (try simp only [Act.put, putA, putB, putC])
              refine ord_skip (i := 10) (preB 11 3) rfl (by kernel_rfl) (by kernel_rfl) (by kernel_rfl) (by kernel_rfl) (fun _ _ _ h => h) hHeld (by rfl) ?_
              (try simp only [Act.put, putA, putB, putC])
              refine ord_skip (i := 11) (preB 12 2) rfl (by kernel_rfl) (by kernel_rfl) (by kernel_rfl) (by kernel_rfl) (fun _ _ _ h => h) hHeld (by rfl) ?_
              (try simp only [Act.put, putA, putB, putC])
              refine ord_skip (i := 12) (preB 13 1) rfl (by kernel_rfl) (by kernel_rfl) (by kernel_rfl) (by kernel_rfl) (fun _ _ _ h => h) hHeld (by rfl) ?_
              (try simp only [Act.put, putA, putB, putC])
              refine ord_take (i := 13) (preB 14 0) ?_ rfl (by kernel_rfl) (by kernel_rfl) (by kernel_rfl) (by kernel_rfl) (fun _ _ _ h => h) hHeld (by rfl) (fun wx hSx => ?_) ?_
              rotate_left
              · (unfold SB at hSx; go_simp; (try with_reducible rfl))
              (try simp only [Act.put, putA, putB, putC])
              refine wpAnyH_done (by kernel_rfl) ?_ _
              go_wp2_with (with_reducible refine wpList_load_row rfl 41 (.tmp 1) rfl w.heap.size rfl 41 C (0, 0) _ (blk_drew HC1.out) Tryd.underlying41 rfl HCS.out ?_)
              refine (HOW.out _ (HIN.out.below (B2.out.trans (by (repeat (first | (with_reducible first | exact Below.refl _ _ | assumption | refine Below.drew ?_ | refine below_drewN ?_ _) | ((with_reducible first | refine Below.alloc ?_ ?_ _ | refine Below.setCell ?_ ?_ _); rotate_left; (first | omega | (simp <;> omega))))))))).mono ?_
              rintro e w3 ⟨rfl, hb⟩
              have B3W := Below.trans (by (repeat (first | (with_reducible first | exact Below.refl _ _ | assumption | refine Below.drew ?_ | refine below_drewN ?_ _) | ((with_reducible first | refine Below.alloc ?_ ?_ _ | refine Below.setCell ?_ ?_ _); rotate_left; (first | omega | (simp <;> omega))))) : Below w1.heap.size w1 _) hb
              have B3 := hide (B2.out.trans (B3W.mono zB2))
              have B3F := hide (BW.out.trans (B3W.mono BW.out.size))
              clear hb B3W
              by_cases h9 : ow = 0
              · have n9 : (ow != 0) = false := by rw [h9]; rfl
                have HF := hide (show chkU P pn a (k + 1) = 0 from chkU_next HZ.out (by rw [stp_own HRB.out HNO.out, ← HOE.out]; exact h9))
                clear h9
                go_wp2_with fail
                go_roundw
                case rel => exact ⟨k + 1, HK.out, by go_num, HF.out, H0.out.trans (B3F.out.mono (by have h1 := H0.out.size; simpa using h1))⟩
                case measure => have := HK.out; simp [intOf]; omega
              · have n9 : (ow != 0) = true := by simp [bne, h9]
                have HF := hide (show chkU P pn a an = ow from by rw [chkU_fail HZ.out (by rw [stp_own HRB.out HNO.out, ← HOE.out]; exact h9) HK.out, stp_own HRB.out HNO.out, ← HOE.out])
                clear h9
                go_wp2_with fail
                go_ret
                exact ⟨by rw [HEE.out, HF.out]; rfl, B3.out.trans (by (repeat (first | (with_reducible first | exact Below.refl _ _ | assumption | refine Below.drew ?_ | refine below_drewN ?_ _) | ((with_reducible first | refine Below.alloc ?_ ?_ _ | refine Below.setCell ?_ ?_ _); rotate_left; (first | omega | (simp <;> omega))))))⟩
    · obtain rfl : k = an := by omega
      have HF := hide (HZ.out)
      clear hlt hk
      go_wp2_with fail
      go_ret
      exact ⟨by rw [HEE.out, HF.out]; rfl, BL.out⟩
end Go.Proofs.YtdjhkhadjmndoaaDoor
