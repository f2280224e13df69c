/- Texts laid together: SmC. -/
import Derived.Test.YtdjhkhadjmndoaaDoorQSmA
namespace Go.Proofs.YtdjhkhadjmndoaaDoor
set_option maxRecDepth 4000
set_option linter.unusedSimpArgs false
set_option linter.unusedVariables false
open Go.RowKit
set_option maxRecDepth 20000 in
set_option maxHeartbeats 16000000 in
theorem sm_SameCalendars (A B : Option Addr) (n cap cap' : Nat) (c : Nat → Nat → Tr) (C D : Nat → Nat → Value) (hk : RowK 2 n c) (w : World) (hA : RowT (Old w) w 2 A n c C) (hB : RowT (Old w) w 2 B n c D) :
    Calls Tryd.prog 76 #[.slice A n cap, .slice B n cap'] w fun r w' => r = .returned (.bool true) ∧ Below w.heap.size w w' := by
  have hn : n ≤ 140737488351232 := by have := hk.room; simp only [tby] at this; omega
  have HK := hide hk
  have HA0 := hide hA
  have HB0 := hide hB
  clear hk hA hB
  go_enter Tryd.func76, Tryd.ntmps76
  go_wp2_with fail
  go_loopw [5] (fun v wr => SmI2 n w v wr) (fun v _ => n - (intOf v).toNat)
  case atStart => exact ⟨0, by omega, rfl, by (repeat (first | (with_reducible first | exact Below.refl _ _ | assumption | refine Below.drew ?_) | ((with_reducible first | refine Below.alloc ?_ ?_ _ | refine Below.setCell ?_ ?_ _); rotate_left; (first | omega | (simp <;> omega)))))⟩
  case round =>
    obtain ⟨k, hkn, rfl, hb⟩ := hrel
    have H0 := hide hb
    by_cases hlt : k < n
    · have hm : (k : Int) < n := by omega
      have HLT := hide hlt
      have hk0 : (0 : Int) ≤ k := by omega
      have HA := hide (HA0.out.below hb)
      have HB := hide (HB0.out.below hb)
      obtain ⟨b, off, rfl, hbl, hc⟩ := HA.out.cells (by decide) hlt
      obtain ⟨b', off', rfl, hbl', hd⟩ := HB.out.cells (by decide) hlt
      have hX := HA.out.el HK.out hlt
      have hY := HB.out.el HK.out hlt
      have hw := knk HK.out hlt
      have rx : elA 2 C k = #[C k 0, C k 1, C k 2] := rfl
      have ry : elA 2 D k = #[D k 0, D k 1, D k 2] := rfl
      rw [rx] at hX hc
      rw [ry] at hY hd
      obtain ⟨x0, hx0⟩ : ∃ x, x = C k 0 := ⟨_, rfl⟩
      obtain ⟨y0, hy0⟩ : ∃ x, x = D k 0 := ⟨_, rfl⟩
      obtain ⟨x1, hx1⟩ : ∃ x, x = C k 1 := ⟨_, rfl⟩
      obtain ⟨y1, hy1⟩ : ∃ x, x = D k 1 := ⟨_, rfl⟩
      obtain ⟨x2, hx2⟩ : ∃ x, x = C k 2 := ⟨_, rfl⟩
      obtain ⟨y2, hy2⟩ : ∃ x, x = D k 2 := ⟨_, rfl⟩
      rw [← hx0, ← hx1, ← hx2] at hX hc
      rw [← hy0, ← hy1, ← hy2] at hY hd
      clear rx ry hx0 hy0 hx1 hy1 hx2 hy2
      obtain ⟨z0u, q0u, e0u, _⟩ := rd_str (hX.rd 0 (by decide)) (hw 0 (by decide))
      have e0u : x0 = .string z0u := e0u
      have f0u : y0 = .string z0u := rd_lfv (hY.rd 0 (by decide)) q0u
      subst e0u f0u
      have Q0u := hide q0u
      clear q0u
      obtain ⟨n1u, c1u, hc1u, hk1u, A1u, cap1u, C1u, e1u, _, hA1u⟩ := rd_row (e := 0) (hX.rd 1 (by decide)) (hw 1 (by decide))
      have g1u := hY.rd 1 (by decide)
      rw [hc1u] at g1u
      obtain ⟨B1u, cbp1u, D1u, f1u, _, hB1u, hD1u⟩ := g1u
      have e1u : x1 = .slice A1u n1u cap1u := e1u
      have f1u : y1 = .slice B1u n1u cbp1u := f1u
      subst e1u f1u
      have HA1u := hide hA1u
      have HB1u := hide (show RowT (Old wr) wr 0 B1u n1u c1u D1u from ⟨hB1u, hD1u⟩)
      have HK1u := hide hk1u
      have HC1u := hide hc1u
      clear hA1u hB1u hD1u hk1u hc1u
      obtain ⟨n2u, c2u, hc2u, hk2u, A2u, cap2u, C2u, e2u, _, hA2u⟩ := rd_row (e := 0) (hX.rd 2 (by decide)) (hw 2 (by decide))
      have g2u := hY.rd 2 (by decide)
      rw [hc2u] at g2u
      obtain ⟨B2u, cbp2u, D2u, f2u, _, hB2u, hD2u⟩ := g2u
      have e2u : x2 = .slice A2u n2u cap2u := e2u
      have f2u : y2 = .slice B2u n2u cbp2u := f2u
      subst e2u f2u
      have HA2u := hide hA2u
      have HB2u := hide (show RowT (Old wr) wr 0 B2u n2u c2u D2u from ⟨hB2u, hD2u⟩)
      have HK2u := hide hk2u
      have HC2u := hide hc2u
      clear hA2u hB2u hD2u hk2u hc2u
      have HX := hide hX
      have HY := hide hY
      have HW := hide hw
      have c0 : wr.cell? ⟨b, off + k * 3, none⟩ = some (.string z0u) := hc 0 _ rfl
      have d0 : wr.cell? ⟨b', off' + k * 3, none⟩ = some (.string z0u) := hd 0 _ rfl
      have c1 : wr.cell? ⟨b, off + k * 3 + 1, none⟩ = some (.slice A1u n1u cap1u) := hc 1 _ rfl
      have d1 : wr.cell? ⟨b', off' + k * 3 + 1, none⟩ = some (.slice B1u n1u cbp1u) := hd 1 _ rfl
      have c2 : wr.cell? ⟨b, off + k * 3 + 2, none⟩ = some (.slice A2u n2u cap2u) := hc 2 _ rfl
      have d2 : wr.cell? ⟨b', off' + k * 3 + 2, none⟩ = some (.slice B2u n2u cbp2u) := hd 2 _ rfl
      clear hc hd hX hY hw
      have EC0 := hide (fun (W : World) (h1 : RowT (Old W) W 0 A1u n1u c1u C1u) (h2 : RowT (Old W) W 0 B1u n1u c1u D1u) => sm_sameInts A1u B1u n1u cap1u cbp1u c1u C1u D1u HK1u.out W h1 h2)
      have EC1 := hide (fun (W : World) (h1 : RowT (Old W) W 0 A2u n2u c2u C2u) (h2 : RowT (Old W) W 0 B2u n2u c2u D2u) => sm_sameInts A2u B2u n2u cap2u cbp2u c2u C2u D2u HK2u.out W h1 h2)
      clear hlt hkn hb
      go_wp2_with fail
      refine ord_start (SB (wr.heap.size) [] _) 39 (preB 0 39) (by kernel_rfl) (by kernel_rfl) (by kernel_rfl) SB.refl.drew (fun hHeld => ?_)
      refine ord_take (i := 0) (preB 1 38) ?_ rfl (by kernel_rfl) (by kernel_rfl) (by kernel_rfl) (by kernel_rfl) (fun _ _ _ h => h) hHeld (by rfl) (fun wx hSx => ?_) ?_
      rotate_left
      · (unfold SB at hSx; go_simp; (try with_reducible rfl))
      (try simp only [Act.put, putA, putB, putC])
      refine ord_take (i := 1) (preB 2 37) ?_ rfl (by kernel_rfl) (by kernel_rfl) (by kernel_rfl) (by kernel_rfl) (fun _ _ _ h => h) hHeld (by rfl) (fun wx hSx => ?_) ?_
      rotate_left
      · (unfold SB at hSx; go_simp; (try with_reducible rfl))
      (try simp only [Act.put, putA, putB, putC])
      refine ord_take (i := 2) (preB 3 36) ?_ rfl (by kernel_rfl) (by kernel_rfl) (by kernel_rfl) (by kernel_rfl) (fun _ _ _ h => h) hHeld (by rfl) (fun wx hSx => ?_) ?_
      rotate_left
      · (unfold SB at hSx; go_simp; (try with_reducible rfl))
      (try simp only [Act.put, putA, putB, putC])
      refine ord_take (i := 3) (preB 4 35) ?_ rfl (by kernel_rfl) (by kernel_rfl) (by kernel_rfl) (by kernel_rfl) (fun _ _ _ h => h) hHeld (by rfl) (fun wx hSx => ?_) ?_
      rotate_left
      · (unfold SB at hSx; go_simp; (try with_reducible rfl))
      (try simp only [Act.put, putA, putB, putC])
      refine ord_take (i := 4) (preB 5 34) ?_ rfl (by kernel_rfl) (by kernel_rfl) (by kernel_rfl) (by kernel_rfl) (fun _ _ _ h => h) hHeld (by rfl) (fun wx hSx => ?_) ?_
      rotate_left
      · (unfold SB at hSx; go_simp; (try with_reducible rfl))
      (try simp only [Act.put, putA, putB, putC])
      refine ord_take (i := 5) (preB 6 33) ?_ rfl (by kernel_rfl) (by kernel_rfl) (by kernel_rfl) (by kernel_rfl) (fun _ _ _ h => h) hHeld (by rfl) (fun wx hSx => ?_) ?_
      rotate_left
      · (unfold SB at hSx; go_simp; (try with_reducible rfl))
      (try simp only [Act.put, putA, putB, putC])
      refine ord_take (i := 6) (preB 7 32) ?_ rfl (by kernel_rfl) (by kernel_rfl) (by kernel_rfl) (by kernel_rfl) (fun _ _ _ h => h) hHeld (by rfl) (fun wx hSx => ?_) ?_
      rotate_left
      · (unfold SB at hSx; go_simp; (try with_reducible rfl))
      (try simp only [Act.put, putA, putB, putC])
      refine ord_take (i := 7) (preB 8 31) ?_ rfl (by kernel_rfl) (by kernel_rfl) (by kernel_rfl) (by kernel_rfl) (fun _ _ _ h => h) hHeld (by rfl) (fun wx hSx => ?_) ?_
      rotate_left
      · (unfold SB at hSx; go_simp; (try with_reducible rfl))
      (try simp only [Act.put, putA, putB, putC])
      refine ord_take (i := 8) (preB 9 30) ?_ rfl (by kernel_rfl) (by kernel_rfl) (by kernel_rfl) (by kernel_rfl) (fun _ _ _ h => h) hHeld (by rfl) (fun wx hSx => ?_) ?_
      rotate_left
      · (unfold SB at hSx; go_simp; (try with_reducible rfl))
      (try simp only [Act.put, putA, putB, putC])
      refine ord_take (i := 9) (preB 10 29) ?_ rfl (by kernel_rfl) (by kernel_rfl) (by kernel_rfl) (by kernel_rfl) (fun _ _ _ h => h) hHeld (by rfl) (fun wx hSx => ?_) ?_
      rotate_left
      · (unfold SB at hSx; go_simp; (try with_reducible rfl))
      (try simp only [Act.put, putA, putB, putC])
      refine ord_take (i := 10) (preB 11 28) ?_ rfl (by kernel_rfl) (by kernel_rfl) (by kernel_rfl) (by kernel_rfl) (fun _ _ _ h => h) hHeld (by rfl) (fun wx hSx => ?_) ?_
      rotate_left
      · (unfold SB at hSx; go_simp; (try with_reducible rfl))
      (try simp only [Act.put, putA, putB, putC])
      refine ord_take (i := 11) (preB 12 27) ?_ rfl (by kernel_rfl) (by kernel_rfl) (by kernel_rfl) (by kernel_rfl) (fun _ _ _ h => h) hHeld (by rfl) (fun wx hSx => ?_) ?_
      rotate_left
      · (unfold SB at hSx; go_simp; (try with_reducible rfl))
      (try simp only [Act.put, putA, putB, putC])
      refine ord_take (i := 12) (preB 13 26) ?_ rfl (by kernel_rfl) (by kernel_rfl) (by kernel_rfl) (by kernel_rfl) (fun _ _ _ h => h) hHeld (by rfl) (fun wx hSx => ?_) ?_
      rotate_left
      · (unfold SB at hSx; go_simp; (try with_reducible rfl))
      (try simp only [Act.put, putA, putB, putC])
      refine ord_take (i := 13) (preB 14 25) ?_ rfl (by kernel_rfl) (by kernel_rfl) (by kernel_rfl) (by kernel_rfl) (fun _ _ _ h => h) hHeld (by rfl) (fun wx hSx => ?_) ?_
      rotate_left
      · (unfold SB at hSx; go_simp; (try with_reducible rfl))
      (try simp only [Act.put, putA, putB, putC])
      refine ord_take (i := 14) (preB 15 24) ?_ rfl (by kernel_rfl) (by kernel_rfl) (by kernel_rfl) (by kernel_rfl) (fun _ _ _ h => h) hHeld (by rfl) (fun wx hSx => ?_) ?_
      rotate_left
      · (unfold SB at hSx; go_simp; (try with_reducible rfl))
      (try simp only [Act.put, putA, putB, putC])
      refine ord_take (i := 15) (preB 16 23) ?_ rfl (by kernel_rfl) (by kernel_rfl) (by kernel_rfl) (by kernel_rfl) (fun _ _ _ h => h) hHeld (by rfl) (fun wx hSx => ?_) ?_
      rotate_left
      · (unfold SB at hSx; go_simp; (try with_reducible rfl))
      (try simp only [Act.put, putA, putB, putC])
      refine ord_take (i := 16) (preB 17 22) ?_ rfl (by kernel_rfl) (by kernel_rfl) (by kernel_rfl) (by kernel_rfl) (fun _ _ _ h => h) hHeld (by rfl) (fun wx hSx => ?_) ?_
      rotate_left
      · (unfold SB at hSx; go_simp; (try with_reducible rfl))
      (try simp only [Act.put, putA, putB, putC])
      refine ord_take (i := 17) (preB 18 21) ?_ rfl (by kernel_rfl) (by kernel_rfl) (by kernel_rfl) (by kernel_rfl) (fun _ _ _ h => h) hHeld (by rfl) (fun wx hSx => ?_) ?_
      rotate_left
      · (unfold SB at hSx; go_simp; (try with_reducible rfl))
      (try simp only [Act.put, putA, putB, putC])
      refine ord_take (i := 18) (preB 19 20) ?_ rfl (by kernel_rfl) (by kernel_rfl) (by kernel_rfl) (by kernel_rfl) (fun _ _ _ h => h) hHeld (by rfl) (fun wx hSx => ?_) ?_
      rotate_left
      · (unfold SB at hSx; go_simp; (try with_reducible rfl))
      (try simp only [Act.put, putA, putB, putC])
      refine ord_take (i := 19) (preB 20 19) ?_ rfl (by kernel_rfl) (by kernel_rfl) (by kernel_rfl) (by kernel_rfl) (fun _ _ _ h => h) hHeld (by rfl) (fun wx hSx => ?_) ?_
      rotate_left
      · (unfold SB at hSx; go_simp; (try with_reducible rfl))
      (try simp only [Act.put, putA, putB, putC])
      refine ord_take (i := 20) (preB 21 18) ?_ rfl (by kernel_rfl) (by kernel_rfl) (by kernel_rfl) (by kernel_rfl) (fun _ _ _ h => h) hHeld (by rfl) (fun wx hSx => ?_) ?_
      rotate_left
      · (unfold SB at hSx; go_simp; (try with_reducible rfl))
      (try simp only [Act.put, putA, putB, putC])
      refine ord_take (i := 21) (preB 22 17) ?_ rfl (by kernel_rfl) (by kernel_rfl) (by kernel_rfl) (by kernel_rfl) (fun _ _ _ h => h) hHeld (by rfl) (fun wx hSx => ?_) ?_
      rotate_left
      · (unfold SB at hSx; go_simp; (try with_reducible rfl))
      (try simp only [Act.put, putA, putB, putC])
      refine wpAnyH_ready (rs := [22]) (by kernel_rfl) (by simp) ?_
      refine ord_run (i := 22) (preB 23 16) rfl (by kernel_rfl) (by rfl) (fun K hK => ?_) AllReadyH.nil
      go_simp
      go_wp2_with (go_at_call 93; refine (EC0.out _ (HA1u.out.below (by (repeat (first | (with_reducible first | exact Below.refl _ _ | assumption | refine Below.drew ?_) | ((with_reducible first | refine Below.alloc ?_ ?_ _ | refine Below.setCell ?_ ?_ _); rotate_left; (first | omega | (simp <;> omega))))))) (HB1u.out.below (by (repeat (first | (with_reducible first | exact Below.refl _ _ | assumption | refine Below.drew ?_) | ((with_reducible first | refine Below.alloc ?_ ?_ _ | refine Below.setCell ?_ ?_ _); rotate_left; (first | omega | (simp <;> omega)))))))).mono ?_; rintro r v1 ⟨rfl, hb⟩; have hbS := hb; have hbS1 := hb; have J1 := hide (show Below wr.heap.size wr v1 from Below.trans (by (repeat (first | (with_reducible first | exact Below.refl _ _ | assumption | refine Below.drew ?_) | ((with_reducible first | refine Below.alloc ?_ ?_ _ | refine Below.setCell ?_ ?_ _); rotate_left; (first | omega | (simp <;> omega)))))) hb); have zJ1 := J1.out.size; clear hb)
      refine hK.out _ _ ?_ (fun hHeld => ?_)
      · (repeat (first | (with_reducible first | exact SB.refl | exact hHeld | refine SB.drew ?_ | refine SB.drewN ?_ _) | ((with_reducible first | refine SB.alloc ?_ ?_ _ | refine SB.below ?_ hbS ?_ | refine SB.below ?_ hbS1 ?_ | refine SB.below ?_ hbS2 ?_ | refine SB.below ?_ hbS3 ?_ | refine SB.below ?_ hbS4 ?_); rotate_left; (first | omega | (simp <;> omega))) | ((with_reducible refine SB.setCell ?_ ?_ _); rotate_left; (focus (first | (simp; done) | (right; first | omega | (simp <;> omega))))) | (with_reducible refine SB.undrew ?_) | ((with_reducible refine SB.congr ?_ ?_); rotate_left; (focus (simp; done))) | ((with_reducible refine SB.realloc ?_ ?_ ?_); rotate_left; (focus (simp; done)); (focus (simp; done)))))
      clear hK K
      (try simp only [Act.put, putA, putB, putC])
      refine ord_take (i := 23) (preB 24 15) ?_ rfl (by kernel_rfl) (by kernel_rfl) (by kernel_rfl) (by kernel_rfl) (fun _ _ _ h => h) hHeld (by rfl) (fun wx hSx => ?_) ?_
      rotate_left
      · (unfold SB at hSx; go_simp; (try with_reducible rfl))
      (try simp only [Act.put, putA, putB, putC])
      refine ord_take (i := 24) (preB 25 14) ?_ rfl (by kernel_rfl) (by kernel_rfl) (by kernel_rfl) (by kernel_rfl) (fun _ _ _ h => h) hHeld (by rfl) (fun wx hSx => ?_) ?_
      rotate_left
      · (unfold SB at hSx; go_simp; (try with_reducible rfl))
      (try simp only [Act.put, putA, putB, putC])
      refine ord_take (i := 25) (preB 26 13) ?_ rfl (by kernel_rfl) (by kernel_rfl) (by kernel_rfl) (by kernel_rfl) (fun _ _ _ h => h) hHeld (by rfl) (fun wx hSx => ?_) ?_
      rotate_left
      · (unfold SB at hSx; go_simp; (try with_reducible rfl))
      (try simp only [Act.put, putA, putB, putC])
      refine ord_take (i := 26) (preB 27 12) ?_ rfl (by kernel_rfl) (by kernel_rfl) (by kernel_rfl) (by kernel_rfl) (fun _ _ _ h => h) hHeld (by rfl) (fun wx hSx => ?_) ?_
      rotate_left
      · (unfold SB at hSx; go_simp; (try with_reducible rfl))
      (try simp only [Act.put, putA, putB, putC])
      refine ord_take (i := 27) (preB 28 11) ?_ rfl (by kernel_rfl) (by kernel_rfl) (by kernel_rfl) (by kernel_rfl) (fun _ _ _ h => h) hHeld (by rfl) (fun wx hSx => ?_) ?_
      rotate_left
      · (unfold SB at hSx; go_simp; (try with_reducible rfl))
      (try simp only [Act.put, putA, putB, putC])
      refine ord_take (i := 28) (preB 29 10) ?_ rfl (by kernel_rfl) (by kernel_rfl) (by kernel_rfl) (by kernel_rfl) (fun _ _ _ h => h) hHeld (by rfl) (fun wx hSx => ?_) ?_
      rotate_left
      · (unfold SB at hSx; go_simp; (try with_reducible rfl))
      (try simp only [Act.put, putA, putB, putC])
      refine ord_take (i := 29) (preB 30 9) ?_ rfl (by kernel_rfl) (by kernel_rfl) (by kernel_rfl) (by kernel_rfl) (fun _ _ _ h => h) hHeld (by rfl) (fun wx hSx => ?_) ?_
      rotate_left
      · (unfold SB at hSx; go_simp; (try with_reducible rfl))
      (try simp only [Act.put, putA, putB, putC])
      refine ord_take (i := 30) (preB 31 8) ?_ rfl (by kernel_rfl) (by kernel_rfl) (by kernel_rfl) (by kernel_rfl) (fun _ _ _ h => h) hHeld (by rfl) (fun wx hSx => ?_) ?_
      rotate_left
      · (unfold SB at hSx; go_simp; (try with_reducible rfl))
      (try simp only [Act.put, putA, putB, putC])
      refine ord_take (i := 31) (preB 32 7) ?_ rfl (by kernel_rfl) (by kernel_rfl) (by kernel_rfl) (by kernel_rfl) (fun _ _ _ h => h) hHeld (by rfl) (fun wx hSx => ?_) ?_
      rotate_left
      · (unfold SB at hSx; go_simp; (try with_reducible rfl))
      (try simp only [Act.put, putA, putB, putC])
      refine ord_take (i := 32) (preB 33 6) ?_ rfl (by kernel_rfl) (by kernel_rfl) (by kernel_rfl) (by kernel_rfl) (fun _ _ _ h => h) hHeld (by rfl) (fun wx hSx => ?_) ?_
      rotate_left
      · (unfold SB at hSx; go_simp; (try with_reducible rfl))
      (try simp only [Act.put, putA, putB, putC])
      refine ord_take (i := 33) (preB 34 5) ?_ rfl (by kernel_rfl) (by kernel_rfl) (by kernel_rfl) (by kernel_rfl) (fun _ _ _ h => h) hHeld (by rfl) (fun wx hSx => ?_) ?_
      rotate_left
      · (unfold SB at hSx; go_simp; (try with_reducible rfl))
      (try simp only [Act.put, putA, putB, putC])
      refine ord_take (i := 34) (preB 35 4) ?_ rfl (by kernel_rfl) (by kernel_rfl) (by kernel_rfl) (by kernel_rfl) (fun _ _ _ h => h) hHeld (by rfl) (fun wx hSx => ?_) ?_
      rotate_left
      · (unfold SB at hSx; go_simp; (try with_reducible rfl))
      (try simp only [Act.put, putA, putB, putC])
      refine ord_take (i := 35) (preB 36 3) ?_ rfl (by kernel_rfl) (by kernel_rfl) (by kernel_rfl) (by kernel_rfl) (fun _ _ _ h => h) hHeld (by rfl) (fun wx hSx => ?_) ?_
      rotate_left
      · (unfold SB at hSx; go_simp; (try with_reducible rfl))
      (try simp only [Act.put, putA, putB, putC])
      refine wpAnyH_ready (rs := [36]) (by kernel_rfl) (by simp) ?_
      refine ord_run (i := 36) (preB 37 2) rfl (by kernel_rfl) (by rfl) (fun K hK => ?_) AllReadyH.nil
      go_simp
      go_wp2_with (go_at_call 93; refine (EC1.out _ (HA2u.out.below (J1.out.trans (by (repeat (first | (with_reducible first | exact Below.refl _ _ | assumption | refine Below.drew ?_) | ((with_reducible first | refine Below.alloc ?_ ?_ _ | refine Below.setCell ?_ ?_ _); rotate_left; (first | omega | (simp <;> omega)))))))) (HB2u.out.below (J1.out.trans (by (repeat (first | (with_reducible first | exact Below.refl _ _ | assumption | refine Below.drew ?_) | ((with_reducible first | refine Below.alloc ?_ ?_ _ | refine Below.setCell ?_ ?_ _); rotate_left; (first | omega | (simp <;> omega))))))))).mono ?_; rintro r v2 ⟨rfl, hb⟩; have hbS := hb; have hbS2 := hb; have J2 := hide (show Below wr.heap.size wr v2 from J1.out.trans (Below.trans (by (repeat (first | (with_reducible first | exact Below.refl _ _ | assumption | refine Below.drew ?_) | ((with_reducible first | refine Below.alloc ?_ ?_ _ | refine Below.setCell ?_ ?_ _); rotate_left; (first | omega | (simp <;> omega)))))) (hb.mono (by first | exact J1.out.size | (have := J1.out.size; simpa using this))))); have zJ2 := J2.out.size; clear hb)
      refine hK.out _ _ ?_ (fun hHeld => ?_)
      · (repeat (first | (with_reducible first | exact SB.refl | exact hHeld | refine SB.drew ?_ | refine SB.drewN ?_ _) | ((with_reducible first | refine SB.alloc ?_ ?_ _ | refine SB.below ?_ hbS ?_ | refine SB.below ?_ hbS1 ?_ | refine SB.below ?_ hbS2 ?_ | refine SB.below ?_ hbS3 ?_ | refine SB.below ?_ hbS4 ?_); rotate_left; (first | omega | (simp <;> omega))) | ((with_reducible refine SB.setCell ?_ ?_ _); rotate_left; (focus (first | (simp; done) | (right; first | omega | (simp <;> omega))))) | (with_reducible refine SB.undrew ?_) | ((with_reducible refine SB.congr ?_ ?_); rotate_left; (focus (simp; done))) | ((with_reducible refine SB.realloc ?_ ?_ ?_); rotate_left; (focus (simp; done)); (focus (simp; done)))))
      clear hK K
      (try simp only [Act.put, putA, putB, putC])
      refine ord_take (i := 37) (preB 38 1) ?_ rfl (by kernel_rfl) (by kernel_rfl) (by kernel_rfl) (by kernel_rfl) (fun _ _ _ h => h) hHeld (by rfl) (fun wx hSx => ?_) ?_
      rotate_left
      · (unfold SB at hSx; go_simp; (try with_reducible rfl))
      (try simp only [Act.put, putA, putB, putC])
      refine ord_take (i := 38) (preB 39 0) ?_ rfl (by kernel_rfl) (by kernel_rfl) (by kernel_rfl) (by kernel_rfl) (fun _ _ _ h => h) hHeld (by rfl) (fun wx hSx => ?_) ?_
      rotate_left
      · (unfold SB at hSx; go_simp; (try with_reducible rfl))
      (try simp only [Act.put, putA, putB, putC])
      refine wpAnyH_done (by kernel_rfl) ?_ _
      go_wp2_with fail
      go_roundw
      case rel => exact ⟨k + 1, HLT.out, by go_num, H0.out.trans ((J2.out.mono H0.out.size).trans (by (repeat (first | (with_reducible first | exact Below.refl _ _ | assumption | refine Below.drew ?_) | ((with_reducible first | refine Below.alloc ?_ ?_ _ | refine Below.setCell ?_ ?_ _); rotate_left; (first | omega | (simp <;> omega)))))))⟩
      case measure => have := HLT.out; simp [intOf]; omega
    · obtain rfl : k = n := by omega
      clear hlt hkn
      go_wp2_with fail
      go_ret
      exact ⟨rfl, hb⟩
set_option maxRecDepth 20000 in
set_option maxHeartbeats 16000000 in
theorem sm_SameFees (A B : Option Addr) (n cap cap' : Nat) (c : Nat → Nat → Tr) (C D : Nat → Nat → Value) (hk : RowK 6 n c) (w : World) (hA : RowT (Old w) w 6 A n c C) (hB : RowT (Old w) w 6 B n c D) :
    Calls Tryd.prog 36 #[.slice A n cap, .slice B n cap'] w fun r w' => r = .returned (.bool true) ∧ Below w.heap.size w w' := by
  have hn : n ≤ 140737488351232 := by have := hk.room; simp only [tby] at this; omega
  have HK := hide hk
  have HA0 := hide hA
  have HB0 := hide hB
  clear hk hA hB
  go_enter Tryd.func36, Tryd.ntmps36
  go_wp2_with fail
  go_loopw [5] (fun v wr => SmI2 n w v wr) (fun v _ => n - (intOf v).toNat)
  case atStart => exact ⟨0, by omega, rfl, by (repeat (first | (with_reducible first | exact Below.refl _ _ | assumption | refine Below.drew ?_) | ((with_reducible first | refine Below.alloc ?_ ?_ _ | refine Below.setCell ?_ ?_ _); rotate_left; (first | omega | (simp <;> omega)))))⟩
  case round =>
    obtain ⟨k, hkn, rfl, hb⟩ := hrel
    have H0 := hide hb
    by_cases hlt : k < n
    · have hm : (k : Int) < n := by omega
      have HLT := hide hlt
      have hk0 : (0 : Int) ≤ k := by omega
      have HA := hide (HA0.out.below hb)
      have HB := hide (HB0.out.below hb)
      obtain ⟨b, off, rfl, hbl, hc⟩ := HA.out.cells (by decide) hlt
      obtain ⟨b', off', rfl, hbl', hd⟩ := HB.out.cells (by decide) hlt
      have hX := HA.out.el HK.out hlt
      have hY := HB.out.el HK.out hlt
      have hw := knk HK.out hlt
      have rx : elA 6 C k = #[C k 0, C k 1, C k 2, C k 3, C k 4, C k 5, C k 6, C k 7, C k 8, C k 9] := rfl
      have ry : elA 6 D k = #[D k 0, D k 1, D k 2, D k 3, D k 4, D k 5, D k 6, D k 7, D k 8, D k 9] := rfl
      rw [rx] at hX hc
      rw [ry] at hY hd
      obtain ⟨x0, hx0⟩ : ∃ x, x = C k 0 := ⟨_, rfl⟩
      obtain ⟨y0, hy0⟩ : ∃ x, x = D k 0 := ⟨_, rfl⟩
      obtain ⟨x1, hx1⟩ : ∃ x, x = C k 1 := ⟨_, rfl⟩
      obtain ⟨y1, hy1⟩ : ∃ x, x = D k 1 := ⟨_, rfl⟩
      obtain ⟨x2, hx2⟩ : ∃ x, x = C k 2 := ⟨_, rfl⟩
      obtain ⟨y2, hy2⟩ : ∃ x, x = D k 2 := ⟨_, rfl⟩
      obtain ⟨x3, hx3⟩ : ∃ x, x = C k 3 := ⟨_, rfl⟩
      obtain ⟨y3, hy3⟩ : ∃ x, x = D k 3 := ⟨_, rfl⟩
      obtain ⟨x4, hx4⟩ : ∃ x, x = C k 4 := ⟨_, rfl⟩
      obtain ⟨y4, hy4⟩ : ∃ x, x = D k 4 := ⟨_, rfl⟩
      obtain ⟨x5, hx5⟩ : ∃ x, x = C k 5 := ⟨_, rfl⟩
      obtain ⟨y5, hy5⟩ : ∃ x, x = D k 5 := ⟨_, rfl⟩
      obtain ⟨x6, hx6⟩ : ∃ x, x = C k 6 := ⟨_, rfl⟩
      obtain ⟨y6, hy6⟩ : ∃ x, x = D k 6 := ⟨_, rfl⟩
      obtain ⟨x7, hx7⟩ : ∃ x, x = C k 7 := ⟨_, rfl⟩
      obtain ⟨y7, hy7⟩ : ∃ x, x = D k 7 := ⟨_, rfl⟩
      obtain ⟨x8, hx8⟩ : ∃ x, x = C k 8 := ⟨_, rfl⟩
      obtain ⟨y8, hy8⟩ : ∃ x, x = D k 8 := ⟨_, rfl⟩
      obtain ⟨x9, hx9⟩ : ∃ x, x = C k 9 := ⟨_, rfl⟩
      obtain ⟨y9, hy9⟩ : ∃ x, x = D k 9 := ⟨_, rfl⟩
      rw [← hx0, ← hx1, ← hx2, ← hx3, ← hx4, ← hx5, ← hx6, ← hx7, ← hx8, ← hx9] at hX hc
      rw [← hy0, ← hy1, ← hy2, ← hy3, ← hy4, ← hy5, ← hy6, ← hy7, ← hy8, ← hy9] at hY hd
      clear rx ry hx0 hy0 hx1 hy1 hx2 hy2 hx3 hy3 hx4 hy4 hx5 hy5 hx6 hy6 hx7 hy7 hx8 hy8 hx9 hy9
      obtain ⟨z0u, q0u, e0u, _⟩ := rd_str (hX.rd 0 (by decide)) (hw 0 (by decide))
      have e0u : x0 = .string z0u := e0u
      have f0u : y0 = .string z0u := rd_lfv (hY.rd 0 (by decide)) q0u
      subst e0u f0u
      have Q0u := hide q0u
      clear q0u
      obtain ⟨z1u, q1u, e1u, _⟩ := rd_int (hX.rd 1 (by decide)) (hw 1 (by decide))
      have e1u : x1 = .int .i64 z1u := e1u
      have f1u : y1 = .int .i64 z1u := rd_lfv (hY.rd 1 (by decide)) q1u
      subst e1u f1u
      have Q1u := hide q1u
      clear q1u
      obtain ⟨z2u, q2u, e2u, _⟩ := rd_int (hX.rd 2 (by decide)) (hw 2 (by decide))
      have e2u : x2 = .int .i64 z2u := e2u
      have f2u : y2 = .int .i64 z2u := rd_lfv (hY.rd 2 (by decide)) q2u
      subst e2u f2u
      have Q2u := hide q2u
      clear q2u
      obtain ⟨z3u, q3u, e3u, _⟩ := rd_int (hX.rd 3 (by decide)) (hw 3 (by decide))
      have e3u : x3 = .int .i64 z3u := e3u
      have f3u : y3 = .int .i64 z3u := rd_lfv (hY.rd 3 (by decide)) q3u
      subst e3u f3u
      have Q3u := hide q3u
      clear q3u
      obtain ⟨z4u, q4u, e4u, _⟩ := rd_str (hX.rd 4 (by decide)) (hw 4 (by decide))
      have e4u : x4 = .string z4u := e4u
      have f4u : y4 = .string z4u := rd_lfv (hY.rd 4 (by decide)) q4u
      subst e4u f4u
      have Q4u := hide q4u
      clear q4u
      obtain ⟨z6u, q6u, e6u, _⟩ := rd_int (hX.rd 6 (by decide)) (hw 6 (by decide))
      have e6u : x6 = .int .i64 z6u := e6u
      have f6u : y6 = .int .i64 z6u := rd_lfv (hY.rd 6 (by decide)) q6u
      subst e6u f6u
      have Q6u := hide q6u
      clear q6u
      obtain ⟨z7u, q7u, e7u, _⟩ := rd_int (hX.rd 7 (by decide)) (hw 7 (by decide))
      have e7u : x7 = .int .i64 z7u := e7u
      have f7u : y7 = .int .i64 z7u := rd_lfv (hY.rd 7 (by decide)) q7u
      subst e7u f7u
      have Q7u := hide q7u
      clear q7u
      obtain ⟨z8u, q8u, e8u, _⟩ := rd_str (hX.rd 8 (by decide)) (hw 8 (by decide))
      have e8u : x8 = .string z8u := e8u
      have f8u : y8 = .string z8u := rd_lfv (hY.rd 8 (by decide)) q8u
      subst e8u f8u
      have Q8u := hide q8u
      clear q8u
      obtain ⟨n5u, c5u, hc5u, hk5u, A5u, cap5u, C5u, e5u, _, hA5u⟩ := rd_row (e := 5) (hX.rd 5 (by decide)) (hw 5 (by decide))
      have g5u := hY.rd 5 (by decide)
      rw [hc5u] at g5u
      obtain ⟨B5u, cbp5u, D5u, f5u, _, hB5u, hD5u⟩ := g5u
      have e5u : x5 = .slice A5u n5u cap5u := e5u
      have f5u : y5 = .slice B5u n5u cbp5u := f5u
      subst e5u f5u
      have HA5u := hide hA5u
      have HB5u := hide (show RowT (Old wr) wr 5 B5u n5u c5u D5u from ⟨hB5u, hD5u⟩)
      have HK5u := hide hk5u
      have HC5u := hide hc5u
      clear hA5u hB5u hD5u hk5u hc5u
      obtain ⟨n9u, c9u, hc9u, hk9u, A9u, cap9u, C9u, e9u, _, hA9u⟩ := rd_row (e := 5) (hX.rd 9 (by decide)) (hw 9 (by decide))
      have g9u := hY.rd 9 (by decide)
      rw [hc9u] at g9u
      obtain ⟨B9u, cbp9u, D9u, f9u, _, hB9u, hD9u⟩ := g9u
      have e9u : x9 = .slice A9u n9u cap9u := e9u
      have f9u : y9 = .slice B9u n9u cbp9u := f9u
      subst e9u f9u
      have HA9u := hide hA9u
      have HB9u := hide (show RowT (Old wr) wr 5 B9u n9u c9u D9u from ⟨hB9u, hD9u⟩)
      have HK9u := hide hk9u
      have HC9u := hide hc9u
      clear hA9u hB9u hD9u hk9u hc9u
      have HX := hide hX
      have HY := hide hY
      have HW := hide hw
      have c0 : wr.cell? ⟨b, off + k * 10, none⟩ = some (.string z0u) := hc 0 _ rfl
      have d0 : wr.cell? ⟨b', off' + k * 10, none⟩ = some (.string z0u) := hd 0 _ rfl
      have c1 : wr.cell? ⟨b, off + k * 10 + 1, none⟩ = some (.int .i64 z1u) := hc 1 _ rfl
      have d1 : wr.cell? ⟨b', off' + k * 10 + 1, none⟩ = some (.int .i64 z1u) := hd 1 _ rfl
      have c2 : wr.cell? ⟨b, off + k * 10 + 2, none⟩ = some (.int .i64 z2u) := hc 2 _ rfl
      have d2 : wr.cell? ⟨b', off' + k * 10 + 2, none⟩ = some (.int .i64 z2u) := hd 2 _ rfl
      have c3 : wr.cell? ⟨b, off + k * 10 + 3, none⟩ = some (.int .i64 z3u) := hc 3 _ rfl
      have d3 : wr.cell? ⟨b', off' + k * 10 + 3, none⟩ = some (.int .i64 z3u) := hd 3 _ rfl
      have c4 : wr.cell? ⟨b, off + k * 10 + 4, none⟩ = some (.string z4u) := hc 4 _ rfl
      have d4 : wr.cell? ⟨b', off' + k * 10 + 4, none⟩ = some (.string z4u) := hd 4 _ rfl
      have c5 : wr.cell? ⟨b, off + k * 10 + 5, none⟩ = some (.slice A5u n5u cap5u) := hc 5 _ rfl
      have d5 : wr.cell? ⟨b', off' + k * 10 + 5, none⟩ = some (.slice B5u n5u cbp5u) := hd 5 _ rfl
      have c6 : wr.cell? ⟨b, off + k * 10 + 6, none⟩ = some (.int .i64 z6u) := hc 6 _ rfl
      have d6 : wr.cell? ⟨b', off' + k * 10 + 6, none⟩ = some (.int .i64 z6u) := hd 6 _ rfl
      have c7 : wr.cell? ⟨b, off + k * 10 + 7, none⟩ = some (.int .i64 z7u) := hc 7 _ rfl
      have d7 : wr.cell? ⟨b', off' + k * 10 + 7, none⟩ = some (.int .i64 z7u) := hd 7 _ rfl
      have c8 : wr.cell? ⟨b, off + k * 10 + 8, none⟩ = some (.string z8u) := hc 8 _ rfl
      have d8 : wr.cell? ⟨b', off' + k * 10 + 8, none⟩ = some (.string z8u) := hd 8 _ rfl
      have c9 : wr.cell? ⟨b, off + k * 10 + 9, none⟩ = some (.slice A9u n9u cap9u) := hc 9 _ rfl
      have d9 : wr.cell? ⟨b', off' + k * 10 + 9, none⟩ = some (.slice B9u n9u cbp9u) := hd 9 _ rfl
      clear hc hd hX hY hw
      have EX0 := hide (show ElT (Old wr) wr 5 (fun j => c k (2 + j)) #[.int .i64 z2u, .int .i64 z3u, .string z4u, .slice A5u n5u cap5u] from el_sub (o := 2) HX.out (by decide))
      have EY0 := hide (show ElT (Old wr) wr 5 (fun j => c k (2 + j)) #[.int .i64 z2u, .int .i64 z3u, .string z4u, .slice B5u n5u cbp5u] from el_sub (o := 2) HY.out (by decide))
      have EC0 := hide (smS (HW.out.sub (e' := 5) (o := 2) (by decide)))
      have EX1 := hide (show ElT (Old wr) wr 5 (fun j => c k (6 + j)) #[.int .i64 z6u, .int .i64 z7u, .string z8u, .slice A9u n9u cap9u] from el_sub (o := 6) HX.out (by decide))
      have EY1 := hide (show ElT (Old wr) wr 5 (fun j => c k (6 + j)) #[.int .i64 z6u, .int .i64 z7u, .string z8u, .slice B9u n9u cbp9u] from el_sub (o := 6) HY.out (by decide))
      have EC1 := hide (smS (HW.out.sub (e' := 5) (o := 6) (by decide)))
      clear hlt hkn hb
      go_wp2_with fail
      refine ord_start (SB (wr.heap.size) [] _) 52 (preB 0 52) (by kernel_rfl) (by kernel_rfl) (by kernel_rfl) SB.refl.drew (fun hHeld => ?_)
      refine ord_take (i := 0) (preB 1 51) ?_ rfl (by kernel_rfl) (by kernel_rfl) (by kernel_rfl) (by kernel_rfl) (fun _ _ _ h => h) hHeld (by rfl) (fun wx hSx => ?_) ?_
      rotate_left
      · (unfold SB at hSx; go_simp; (try with_reducible rfl))
      (try simp only [Act.put, putA, putB, putC])
      refine ord_take (i := 1) (preB 2 50) ?_ rfl (by kernel_rfl) (by kernel_rfl) (by kernel_rfl) (by kernel_rfl) (fun _ _ _ h => h) hHeld (by rfl) (fun wx hSx => ?_) ?_
      rotate_left
      · (unfold SB at hSx; go_simp; (try with_reducible rfl))
      (try simp only [Act.put, putA, putB, putC])
      refine ord_take (i := 2) (preB 3 49) ?_ rfl (by kernel_rfl) (by kernel_rfl) (by kernel_rfl) (by kernel_rfl) (fun _ _ _ h => h) hHeld (by rfl) (fun wx hSx => ?_) ?_
      rotate_left
      · (unfold SB at hSx; go_simp; (try with_reducible rfl))
      (try simp only [Act.put, putA, putB, putC])
      refine ord_take (i := 3) (preB 4 48) ?_ rfl (by kernel_rfl) (by kernel_rfl) (by kernel_rfl) (by kernel_rfl) (fun _ _ _ h => h) hHeld (by rfl) (fun wx hSx => ?_) ?_
      rotate_left
      · (unfold SB at hSx; go_simp; (try with_reducible rfl))
      (try simp only [Act.put, putA, putB, putC])
      refine ord_take (i := 4) (preB 5 47) ?_ rfl (by kernel_rfl) (by kernel_rfl) (by kernel_rfl) (by kernel_rfl) (fun _ _ _ h => h) hHeld (by rfl) (fun wx hSx => ?_) ?_
      rotate_left
      · (unfold SB at hSx; go_simp; (try with_reducible rfl))
      (try simp only [Act.put, putA, putB, putC])
      refine ord_take (i := 5) (preB 6 46) ?_ rfl (by kernel_rfl) (by kernel_rfl) (by kernel_rfl) (by kernel_rfl) (fun _ _ _ h => h) hHeld (by rfl) (fun wx hSx => ?_) ?_
      rotate_left
      · (unfold SB at hSx; go_simp; (try with_reducible rfl))
      (try simp only [Act.put, putA, putB, putC])
      refine ord_take (i := 6) (preB 7 45) ?_ rfl (by kernel_rfl) (by kernel_rfl) (by kernel_rfl) (by kernel_rfl) (fun _ _ _ h => h) hHeld (by rfl) (fun wx hSx => ?_) ?_
      rotate_left
      · (unfold SB at hSx; go_simp; (try with_reducible rfl))
      (try simp only [Act.put, putA, putB, putC])
      refine ord_take (i := 7) (preB 8 44) ?_ rfl (by kernel_rfl) (by kernel_rfl) (by kernel_rfl) (by kernel_rfl) (fun _ _ _ h => h) hHeld (by rfl) (fun wx hSx => ?_) ?_
      rotate_left
      · (unfold SB at hSx; go_simp; (try with_reducible rfl))
      (try simp only [Act.put, putA, putB, putC])
      refine ord_take (i := 8) (preB 9 43) ?_ rfl (by kernel_rfl) (by kernel_rfl) (by kernel_rfl) (by kernel_rfl) (fun _ _ _ h => h) hHeld (by rfl) (fun wx hSx => ?_) ?_
      rotate_left
      · (unfold SB at hSx; go_simp; (try with_reducible rfl))
      (try simp only [Act.put, putA, putB, putC])
      refine ord_take (i := 9) (preB 10 42) ?_ rfl (by kernel_rfl) (by kernel_rfl) (by kernel_rfl) (by kernel_rfl) (fun _ _ _ h => h) hHeld (by rfl) (fun wx hSx => ?_) ?_
      rotate_left
      · (unfold SB at hSx; go_simp; (try with_reducible rfl))
      (try simp only [Act.put, putA, putB, putC])
      refine ord_take (i := 10) (preB 11 41) ?_ rfl (by kernel_rfl) (by kernel_rfl) (by kernel_rfl) (by kernel_rfl) (fun _ _ _ h => h) hHeld (by rfl) (fun wx hSx => ?_) ?_
      rotate_left
      · (unfold SB at hSx; go_simp; (try with_reducible rfl))
      (try simp only [Act.put, putA, putB, putC])
      refine ord_take (i := 11) (preB 12 40) ?_ rfl (by kernel_rfl) (by kernel_rfl) (by kernel_rfl) (by kernel_rfl) (fun _ _ _ h => h) hHeld (by rfl) (fun wx hSx => ?_) ?_
      rotate_left
      · (unfold SB at hSx; go_simp; (try with_reducible rfl))
      (try simp only [Act.put, putA, putB, putC])
      refine ord_take (i := 12) (preB 13 39) ?_ rfl (by kernel_rfl) (by kernel_rfl) (by kernel_rfl) (by kernel_rfl) (fun _ _ _ h => h) hHeld (by rfl) (fun wx hSx => ?_) ?_
      rotate_left
      · (unfold SB at hSx; go_simp; (try with_reducible rfl))
      (try simp only [Act.put, putA, putB, putC])
      refine ord_take (i := 13) (preB 14 38) ?_ rfl (by kernel_rfl) (by kernel_rfl) (by kernel_rfl) (by kernel_rfl) (fun _ _ _ h => h) hHeld (by rfl) (fun wx hSx => ?_) ?_
      rotate_left
      · (unfold SB at hSx; go_simp; (try with_reducible rfl))
      (try simp only [Act.put, putA, putB, putC])
      refine ord_take (i := 14) (preB 15 37) ?_ rfl (by kernel_rfl) (by kernel_rfl) (by kernel_rfl) (by kernel_rfl) (fun _ _ _ h => h) hHeld (by rfl) (fun wx hSx => ?_) ?_
      rotate_left
      · (unfold SB at hSx; go_simp; (try with_reducible rfl))
      (try simp only [Act.put, putA, putB, putC])
      refine ord_take (i := 15) (preB 16 36) ?_ rfl (by kernel_rfl) (by kernel_rfl) (by kernel_rfl) (by kernel_rfl) (fun _ _ _ h => h) hHeld (by rfl) (fun wx hSx => ?_) ?_
      rotate_left
      · (unfold SB at hSx; go_simp; (try with_reducible rfl))
      (try simp only [Act.put, putA, putB, putC])
      refine ord_take (i := 16) (preB 17 35) ?_ rfl (by kernel_rfl) (by kernel_rfl) (by kernel_rfl) (by kernel_rfl) (fun _ _ _ h => h) hHeld (by rfl) (fun wx hSx => ?_) ?_
      rotate_left
      · (unfold SB at hSx; go_simp; (try with_reducible rfl))
      (try simp only [Act.put, putA, putB, putC])
      refine ord_take (i := 17) (preB 18 34) ?_ rfl (by kernel_rfl) (by kernel_rfl) (by kernel_rfl) (by kernel_rfl) (fun _ _ _ h => h) hHeld (by rfl) (fun wx hSx => ?_) ?_
      rotate_left
      · (unfold SB at hSx; go_simp; (try with_reducible rfl))
      (try simp only [Act.put, putA, putB, putC])
      refine ord_take (i := 18) (preB 19 33) ?_ rfl (by kernel_rfl) (by kernel_rfl) (by kernel_rfl) (by kernel_rfl) (fun _ _ _ h => h) hHeld (by rfl) (fun wx hSx => ?_) ?_
      rotate_left
      · (unfold SB at hSx; go_simp; (try with_reducible rfl))
      (try simp only [Act.put, putA, putB, putC])
      refine ord_take (i := 19) (preB 20 32) ?_ rfl (by kernel_rfl) (by kernel_rfl) (by kernel_rfl) (by kernel_rfl) (fun _ _ _ h => h) hHeld (by rfl) (fun wx hSx => ?_) ?_
      rotate_left
      · (unfold SB at hSx; go_simp; (try with_reducible rfl))
      (try simp only [Act.put, putA, putB, putC])
      refine ord_take (i := 20) (preB 21 31) ?_ rfl (by kernel_rfl) (by kernel_rfl) (by kernel_rfl) (by kernel_rfl) (fun _ _ _ h => h) hHeld (by rfl) (fun wx hSx => ?_) ?_
      rotate_left
      · (unfold SB at hSx; go_simp; (try with_reducible rfl))
      (try simp only [Act.put, putA, putB, putC])
      refine ord_take (i := 21) (preB 22 30) ?_ rfl (by kernel_rfl) (by kernel_rfl) (by kernel_rfl) (by kernel_rfl) (fun _ _ _ h => h) hHeld (by rfl) (fun wx hSx => ?_) ?_
      rotate_left
      · (unfold SB at hSx; go_simp; (try with_reducible rfl))
      (try simp only [Act.put, putA, putB, putC])
      refine ord_take (i := 22) (preB 23 29) ?_ rfl (by kernel_rfl) (by kernel_rfl) (by kernel_rfl) (by kernel_rfl) (fun _ _ _ h => h) hHeld (by rfl) (fun wx hSx => ?_) ?_
      rotate_left
      · (unfold SB at hSx; go_simp; (try with_reducible rfl))
      (try simp only [Act.put, putA, putB, putC])
      refine ord_take (i := 23) (preB 24 28) ?_ rfl (by kernel_rfl) (by kernel_rfl) (by kernel_rfl) (by kernel_rfl) (fun _ _ _ h => h) hHeld (by rfl) (fun wx hSx => ?_) ?_
      rotate_left
      · (unfold SB at hSx; go_simp; (try with_reducible rfl))
      (try simp only [Act.put, putA, putB, putC])
      refine ord_take (i := 24) (preB 25 27) ?_ rfl (by kernel_rfl) (by kernel_rfl) (by kernel_rfl) (by kernel_rfl) (fun _ _ _ h => h) hHeld (by rfl) (fun wx hSx => ?_) ?_
      rotate_left
      · (unfold SB at hSx; go_simp; (try with_reducible rfl))
      (try simp only [Act.put, putA, putB, putC])
      refine ord_take (i := 25) (preB 26 26) ?_ rfl (by kernel_rfl) (by kernel_rfl) (by kernel_rfl) (by kernel_rfl) (fun _ _ _ h => h) hHeld (by rfl) (fun wx hSx => ?_) ?_
      rotate_left
      · (unfold SB at hSx; go_simp; (try with_reducible rfl))
      (try simp only [Act.put, putA, putB, putC])
      refine ord_take (i := 26) (preB 27 25) ?_ rfl (by kernel_rfl) (by kernel_rfl) (by kernel_rfl) (by kernel_rfl) (fun _ _ _ h => h) hHeld (by rfl) (fun wx hSx => ?_) ?_
      rotate_left
      · (unfold SB at hSx; go_simp; (try with_reducible rfl))
      (try simp only [Act.put, putA, putB, putC])
      refine ord_take (i := 27) (preB 28 24) ?_ rfl (by kernel_rfl) (by kernel_rfl) (by kernel_rfl) (by kernel_rfl) (fun _ _ _ h => h) hHeld (by rfl) (fun wx hSx => ?_) ?_
      rotate_left
      · (unfold SB at hSx; go_simp; (try with_reducible rfl))
      (try simp only [Act.put, putA, putB, putC])
      refine ord_take (i := 28) (preB 29 23) ?_ rfl (by kernel_rfl) (by kernel_rfl) (by kernel_rfl) (by kernel_rfl) (fun _ _ _ h => h) hHeld (by rfl) (fun wx hSx => ?_) ?_
      rotate_left
      · (unfold SB at hSx; go_simp; (try with_reducible rfl))
      (try simp only [Act.put, putA, putB, putC])
      refine ord_take (i := 29) (preB 30 22) ?_ rfl (by kernel_rfl) (by kernel_rfl) (by kernel_rfl) (by kernel_rfl) (fun _ _ _ h => h) hHeld (by rfl) (fun wx hSx => ?_) ?_
      rotate_left
      · (unfold SB at hSx; go_simp; (try with_reducible rfl))
      (try simp only [Act.put, putA, putB, putC])
      refine ord_take (i := 30) (preB 31 21) ?_ rfl (by kernel_rfl) (by kernel_rfl) (by kernel_rfl) (by kernel_rfl) (fun _ _ _ h => h) hHeld (by rfl) (fun wx hSx => ?_) ?_
      rotate_left
      · (unfold SB at hSx; go_simp; (try with_reducible rfl))
      (try simp only [Act.put, putA, putB, putC])
      refine ord_take (i := 31) (preB 32 20) ?_ rfl (by kernel_rfl) (by kernel_rfl) (by kernel_rfl) (by kernel_rfl) (fun _ _ _ h => h) hHeld (by rfl) (fun wx hSx => ?_) ?_
      rotate_left
      · (unfold SB at hSx; go_simp; (try with_reducible rfl))
      (try simp only [Act.put, putA, putB, putC])
      refine ord_take (i := 32) (preB 33 19) ?_ rfl (by kernel_rfl) (by kernel_rfl) (by kernel_rfl) (by kernel_rfl) (fun _ _ _ h => h) hHeld (by rfl) (fun wx hSx => ?_) ?_
      rotate_left
      · (unfold SB at hSx; go_simp; (try with_reducible rfl))
      (try simp only [Act.put, putA, putB, putC])
      refine ord_take (i := 33) (preB 34 18) ?_ rfl (by kernel_rfl) (by kernel_rfl) (by kernel_rfl) (by kernel_rfl) (fun _ _ _ h => h) hHeld (by rfl) (fun wx hSx => ?_) ?_
      rotate_left
      · (unfold SB at hSx; go_simp; (try with_reducible rfl))
      (try simp only [Act.put, putA, putB, putC])
      refine ord_take (i := 34) (preB 35 17) ?_ rfl (by kernel_rfl) (by kernel_rfl) (by kernel_rfl) (by kernel_rfl) (fun _ _ _ h => h) hHeld (by rfl) (fun wx hSx => ?_) ?_
      rotate_left
      · (unfold SB at hSx; go_simp; (try with_reducible rfl))
      (try simp only [Act.put, putA, putB, putC])
      refine wpAnyH_ready (rs := [35]) (by kernel_rfl) (by simp) ?_
      refine ord_run (i := 35) (preB 36 16) rfl (by kernel_rfl) (by rfl) (fun K hK => ?_) AllReadyH.nil
      go_simp
      go_wp2_with (go_at_call 37; refine (EC0.out _ _ _ (EX0.out.below (by (repeat (first | (with_reducible first | exact Below.refl _ _ | assumption | refine Below.drew ?_) | ((with_reducible first | refine Below.alloc ?_ ?_ _ | refine Below.setCell ?_ ?_ _); rotate_left; (first | omega | (simp <;> omega))))))) (EY0.out.below (by (repeat (first | (with_reducible first | exact Below.refl _ _ | assumption | refine Below.drew ?_) | ((with_reducible first | refine Below.alloc ?_ ?_ _ | refine Below.setCell ?_ ?_ _); rotate_left; (first | omega | (simp <;> omega)))))))).mono ?_; rintro r v1 ⟨rfl, hb⟩; have hbS := hb; have hbS1 := hb; have J1 := hide (show Below wr.heap.size wr v1 from Below.trans (by (repeat (first | (with_reducible first | exact Below.refl _ _ | assumption | refine Below.drew ?_) | ((with_reducible first | refine Below.alloc ?_ ?_ _ | refine Below.setCell ?_ ?_ _); rotate_left; (first | omega | (simp <;> omega)))))) hb); have zJ1 := J1.out.size; clear hb)
      refine hK.out _ _ ?_ (fun hHeld => ?_)
      · (repeat (first | (with_reducible first | exact SB.refl | exact hHeld | refine SB.drew ?_ | refine SB.drewN ?_ _) | ((with_reducible first | refine SB.alloc ?_ ?_ _ | refine SB.below ?_ hbS ?_ | refine SB.below ?_ hbS1 ?_ | refine SB.below ?_ hbS2 ?_ | refine SB.below ?_ hbS3 ?_ | refine SB.below ?_ hbS4 ?_); rotate_left; (first | omega | (simp <;> omega))) | ((with_reducible refine SB.setCell ?_ ?_ _); rotate_left; (focus (first | (simp; done) | (right; first | omega | (simp <;> omega))))) | (with_reducible refine SB.undrew ?_) | ((with_reducible refine SB.congr ?_ ?_); rotate_left; (focus (simp; done))) | ((with_reducible refine SB.realloc ?_ ?_ ?_); rotate_left; (focus (simp; done)); (focus (simp; done)))))
      clear hK K
      (try simp only [Act.put, putA, putB, putC])
      refine ord_take (i := 36) (preB 37 15) ?_ rfl (by kernel_rfl) (by kernel_rfl) (by kernel_rfl) (by kernel_rfl) (fun _ _ _ h => h) hHeld (by rfl) (fun wx hSx => ?_) ?_
      rotate_left
      · (unfold SB at hSx; go_simp; (try with_reducible rfl))
      (try simp only [Act.put, putA, putB, putC])
      refine ord_take (i := 37) (preB 38 14) ?_ rfl (by kernel_rfl) (by kernel_rfl) (by kernel_rfl) (by kernel_rfl) (fun _ _ _ h => h) hHeld (by rfl) (fun wx hSx => ?_) ?_
      rotate_left
      · (unfold SB at hSx; go_simp; (try with_reducible rfl))
      (try simp only [Act.put, putA, putB, putC])
      refine ord_take (i := 38) (preB 39 13) ?_ rfl (by kernel_rfl) (by kernel_rfl) (by kernel_rfl) (by kernel_rfl) (fun _ _ _ h => h) hHeld (by rfl) (fun wx hSx => ?_) ?_
      rotate_left
      · (unfold SB at hSx; go_simp; (try with_reducible rfl))
      (try simp only [Act.put, putA, putB, putC])
      refine ord_take (i := 39) (preB 40 12) ?_ rfl (by kernel_rfl) (by kernel_rfl) (by kernel_rfl) (by kernel_rfl) (fun _ _ _ h => h) hHeld (by rfl) (fun wx hSx => ?_) ?_
      rotate_left
      · (unfold SB at hSx; go_simp; (try with_reducible rfl))
      (try simp only [Act.put, putA, putB, putC])
      refine ord_take (i := 40) (preB 41 11) ?_ rfl (by kernel_rfl) (by kernel_rfl) (by kernel_rfl) (by kernel_rfl) (fun _ _ _ h => h) hHeld (by rfl) (fun wx hSx => ?_) ?_
      rotate_left
      · (unfold SB at hSx; go_simp; (try with_reducible rfl))
      (try simp only [Act.put, putA, putB, putC])
      refine ord_take (i := 41) (preB 42 10) ?_ rfl (by kernel_rfl) (by kernel_rfl) (by kernel_rfl) (by kernel_rfl) (fun _ _ _ h => h) hHeld (by rfl) (fun wx hSx => ?_) ?_
      rotate_left
      · (unfold SB at hSx; go_simp; (try with_reducible rfl))
      (try simp only [Act.put, putA, putB, putC])
      refine ord_take (i := 42) (preB 43 9) ?_ rfl (by kernel_rfl) (by kernel_rfl) (by kernel_rfl) (by kernel_rfl) (fun _ _ _ h => h) hHeld (by rfl) (fun wx hSx => ?_) ?_
      rotate_left
      · (unfold SB at hSx; go_simp; (try with_reducible rfl))
      (try simp only [Act.put, putA, putB, putC])
      refine ord_take (i := 43) (preB 44 8) ?_ rfl (by kernel_rfl) (by kernel_rfl) (by kernel_rfl) (by kernel_rfl) (fun _ _ _ h => h) hHeld (by rfl) (fun wx hSx => ?_) ?_
      rotate_left
      · (unfold SB at hSx; go_simp; (try with_reducible rfl))
      (try simp only [Act.put, putA, putB, putC])
      refine ord_take (i := 44) (preB 45 7) ?_ rfl (by kernel_rfl) (by kernel_rfl) (by kernel_rfl) (by kernel_rfl) (fun _ _ _ h => h) hHeld (by rfl) (fun wx hSx => ?_) ?_
      rotate_left
      · (unfold SB at hSx; go_simp; (try with_reducible rfl))
      (try simp only [Act.put, putA, putB, putC])
      refine ord_take (i := 45) (preB 46 6) ?_ rfl (by kernel_rfl) (by kernel_rfl) (by kernel_rfl) (by kernel_rfl) (fun _ _ _ h => h) hHeld (by rfl) (fun wx hSx => ?_) ?_
      rotate_left
      · (unfold SB at hSx; go_simp; (try with_reducible rfl))
      (try simp only [Act.put, putA, putB, putC])
      refine ord_take (i := 46) (preB 47 5) ?_ rfl (by kernel_rfl) (by kernel_rfl) (by kernel_rfl) (by kernel_rfl) (fun _ _ _ h => h) hHeld (by rfl) (fun wx hSx => ?_) ?_
      rotate_left
      · (unfold SB at hSx; go_simp; (try with_reducible rfl))
      (try simp only [Act.put, putA, putB, putC])
      refine ord_take (i := 47) (preB 48 4) ?_ rfl (by kernel_rfl) (by kernel_rfl) (by kernel_rfl) (by kernel_rfl) (fun _ _ _ h => h) hHeld (by rfl) (fun wx hSx => ?_) ?_
      rotate_left
      · (unfold SB at hSx; go_simp; (try with_reducible rfl))
      (try simp only [Act.put, putA, putB, putC])
      refine ord_take (i := 48) (preB 49 3) ?_ rfl (by kernel_rfl) (by kernel_rfl) (by kernel_rfl) (by kernel_rfl) (fun _ _ _ h => h) hHeld (by rfl) (fun wx hSx => ?_) ?_
      rotate_left
      · (unfold SB at hSx; go_simp; (try with_reducible rfl))
      (try simp only [Act.put, putA, putB, putC])
      refine wpAnyH_ready (rs := [49]) (by kernel_rfl) (by simp) ?_
      refine ord_run (i := 49) (preB 50 2) rfl (by kernel_rfl) (by rfl) (fun K hK => ?_) AllReadyH.nil
      go_simp
      go_wp2_with (go_at_call 37; refine (EC1.out _ _ _ (EX1.out.below (J1.out.trans (by (repeat (first | (with_reducible first | exact Below.refl _ _ | assumption | refine Below.drew ?_) | ((with_reducible first | refine Below.alloc ?_ ?_ _ | refine Below.setCell ?_ ?_ _); rotate_left; (first | omega | (simp <;> omega)))))))) (EY1.out.below (J1.out.trans (by (repeat (first | (with_reducible first | exact Below.refl _ _ | assumption | refine Below.drew ?_) | ((with_reducible first | refine Below.alloc ?_ ?_ _ | refine Below.setCell ?_ ?_ _); rotate_left; (first | omega | (simp <;> omega))))))))).mono ?_; rintro r v2 ⟨rfl, hb⟩; have hbS := hb; have hbS2 := hb; have J2 := hide (show Below wr.heap.size wr v2 from J1.out.trans (Below.trans (by (repeat (first | (with_reducible first | exact Below.refl _ _ | assumption | refine Below.drew ?_) | ((with_reducible first | refine Below.alloc ?_ ?_ _ | refine Below.setCell ?_ ?_ _); rotate_left; (first | omega | (simp <;> omega)))))) (hb.mono (by first | exact J1.out.size | (have := J1.out.size; simpa using this))))); have zJ2 := J2.out.size; clear hb)
      refine hK.out _ _ ?_ (fun hHeld => ?_)
      · (repeat (first | (with_reducible first | exact SB.refl | exact hHeld | refine SB.drew ?_ | refine SB.drewN ?_ _) | ((with_reducible first | refine SB.alloc ?_ ?_ _ | refine SB.below ?_ hbS ?_ | refine SB.below ?_ hbS1 ?_ | refine SB.below ?_ hbS2 ?_ | refine SB.below ?_ hbS3 ?_ | refine SB.below ?_ hbS4 ?_); rotate_left; (first | omega | (simp <;> omega))) | ((with_reducible refine SB.setCell ?_ ?_ _); rotate_left; (focus (first | (simp; done) | (right; first | omega | (simp <;> omega))))) | (with_reducible refine SB.undrew ?_) | ((with_reducible refine SB.congr ?_ ?_); rotate_left; (focus (simp; done))) | ((with_reducible refine SB.realloc ?_ ?_ ?_); rotate_left; (focus (simp; done)); (focus (simp; done)))))
      clear hK K
      (try simp only [Act.put, putA, putB, putC])
      refine ord_take (i := 50) (preB 51 1) ?_ rfl (by kernel_rfl) (by kernel_rfl) (by kernel_rfl) (by kernel_rfl) (fun _ _ _ h => h) hHeld (by rfl) (fun wx hSx => ?_) ?_
      rotate_left
      · (unfold SB at hSx; go_simp; (try with_reducible rfl))
      (try simp only [Act.put, putA, putB, putC])
      refine ord_take (i := 51) (preB 52 0) ?_ rfl (by kernel_rfl) (by kernel_rfl) (by kernel_rfl) (by kernel_rfl) (fun _ _ _ h => h) hHeld (by rfl) (fun wx hSx => ?_) ?_
      rotate_left
      · (unfold SB at hSx; go_simp; (try with_reducible rfl))
      (try simp only [Act.put, putA, putB, putC])
      refine wpAnyH_done (by kernel_rfl) ?_ _
      go_wp2_with fail
      go_roundw
      case rel => exact ⟨k + 1, HLT.out, by go_num, H0.out.trans ((J2.out.mono H0.out.size).trans (by (repeat (first | (with_reducible first | exact Below.refl _ _ | assumption | refine Below.drew ?_) | ((with_reducible first | refine Below.alloc ?_ ?_ _ | refine Below.setCell ?_ ?_ _); rotate_left; (first | omega | (simp <;> omega)))))))⟩
      case measure => have := HLT.out; simp [intOf]; omega
    · obtain rfl : k = n := by omega
      clear hlt hkn
      go_wp2_with fail
      go_ret
      exact ⟨rfl, hb⟩
end Go.Proofs.YtdjhkhadjmndoaaDoor
