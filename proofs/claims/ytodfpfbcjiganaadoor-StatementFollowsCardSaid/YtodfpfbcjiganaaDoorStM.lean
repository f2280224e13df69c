/- R45.Same on equal statements; few, short. -/
import Derived.Test.YtodfpfbcjiganaaDoorStJ
import Derived.Test.YtodfpfbcjiganaaDoorReg
namespace Go.Proofs.YtodfpfbcjiganaaDoor
set_option linter.unusedSimpArgs false
set_option linter.unusedVariables false
open Go.RowKit

def KI (n : Nat) (W : World) (v : Value) (wr : World) : Prop := ∃ k : Nat, k ≤ n ∧ v = .int .i64 k ∧ Below W.heap.size W wr
set_option maxRecDepth 4000 in
set_option maxHeartbeats 2000000 in
theorem same_eq (ac no f t op cl : Int) (A B : Option Addr) (n c c' : Nat) (P : Nat → LPos) (hn : n ≤ 1000000) (w : World) (hA : RowPos w A n P) (hB : RowPos w B n P) :
    Calls Tryd.prog 12 #[.agg #[.int .i64 ac, .int .i64 no, .int .i64 f, .int .i64 t, .int .i64 op, .int .i64 cl, .slice A n c], .agg #[.int .i64 ac, .int .i64 no, .int .i64 f, .int .i64 t, .int .i64 op, .int .i64 cl, .slice B n c']] w fun e w' => e = .returned (.bool true) ∧ Below w.heap.size w w' := by
  have HA := hide hA
  have HB := hide hB
  clear hA hB
  go_enter Tryd.func12, Tryd.ntmps12
  go_wp2_with fail
  go_loopw [5] (fun v wr => KI n ((w.alloc (.cells #[.int .i64 ac, .int .i64 no, .int .i64 f, .int .i64 t, .int .i64 op, .int .i64 cl, .slice A n c] 40)).alloc (.cells #[.int .i64 ac, .int .i64 no, .int .i64 f, .int .i64 t, .int .i64 op, .int .i64 cl, .slice B n c'] 40)) v wr) (fun v _ => n - (intOf v).toNat)
  case atStart => exact ⟨0, by omega, rfl, by (repeat (first | (with_reducible exact Below.refl _ _) | (with_reducible assumption) | ((with_reducible refine Below.alloc ?_ ?_ _); (rotate_left); (first | omega | (simp <;> omega))) | ((with_reducible refine Below.setCell ?_ ?_ _); (rotate_left); (first | omega | (simp <;> omega))) | (with_reducible refine Below.drew ?_) | (with_reducible refine below_drewN ?_ _)))⟩
  case round =>
    obtain ⟨k, hk, rfl, hb⟩ := hrel
    have H0 := hide hb
    have q1B : Below w.heap.size w wr := (by refine Below.trans ?_ (hb.mono (by first | omega | (simp <;> omega))); (repeat (first | (with_reducible exact Below.refl _ _) | (with_reducible assumption) | ((with_reducible refine Below.alloc ?_ ?_ _); (rotate_left); (first | omega | (simp <;> omega))) | ((with_reducible refine Below.setCell ?_ ?_ _); (rotate_left); (first | omega | (simp <;> omega))) | (with_reducible refine Below.drew ?_) | (with_reducible refine below_drewN ?_ _))))
    have q1z := hb.size
    try simp at q1z
    have q1t : w.heap.size ≤ wr.heap.size := (by omega)
    have q1s0 : w.heap.size < wr.heap.size := (by omega)
    have q1n0_0 : ¬ wr.heap.size = w.heap.size := (by omega)
    have q1n0_1 : ¬ wr.heap.size + 1 = w.heap.size := (by omega)
    have q1n0_2 : ¬ wr.heap.size + 2 = w.heap.size := (by omega)
    have q1c0_0 := hb.cell (p := ⟨w.heap.size, 0, none⟩) (by first | omega | (simp <;> omega))
    simp [go_sem, *] at q1c0_0
    have q1c0_1 := hb.cell (p := ⟨w.heap.size, 1, none⟩) (by first | omega | (simp <;> omega))
    simp [go_sem, *] at q1c0_1
    have q1c0_2 := hb.cell (p := ⟨w.heap.size, 2, none⟩) (by first | omega | (simp <;> omega))
    simp [go_sem, *] at q1c0_2
    have q1c0_3 := hb.cell (p := ⟨w.heap.size, 3, none⟩) (by first | omega | (simp <;> omega))
    simp [go_sem, *] at q1c0_3
    have q1c0_4 := hb.cell (p := ⟨w.heap.size, 4, none⟩) (by first | omega | (simp <;> omega))
    simp [go_sem, *] at q1c0_4
    have q1c0_5 := hb.cell (p := ⟨w.heap.size, 5, none⟩) (by first | omega | (simp <;> omega))
    simp [go_sem, *] at q1c0_5
    have q1c0_6 := hb.cell (p := ⟨w.heap.size, 6, none⟩) (by first | omega | (simp <;> omega))
    simp [go_sem, *] at q1c0_6
    have q1f0 := fun o => hb.frozen (p := ⟨w.heap.size, o, none⟩) (by first | omega | (simp <;> omega))
    simp [go_sem, *] at q1f0
    have q1s1 : w.heap.size + 1 < wr.heap.size := (by omega)
    have q1n1_0 : ¬ wr.heap.size = w.heap.size + 1 := (by omega)
    have q1n1_1 : ¬ wr.heap.size + 1 = w.heap.size + 1 := (by omega)
    have q1n1_2 : ¬ wr.heap.size + 2 = w.heap.size + 1 := (by omega)
    have q1c1_0 := hb.cell (p := ⟨w.heap.size + 1, 0, none⟩) (by first | omega | (simp <;> omega))
    simp [go_sem, *] at q1c1_0
    have q1c1_1 := hb.cell (p := ⟨w.heap.size + 1, 1, none⟩) (by first | omega | (simp <;> omega))
    simp [go_sem, *] at q1c1_1
    have q1c1_2 := hb.cell (p := ⟨w.heap.size + 1, 2, none⟩) (by first | omega | (simp <;> omega))
    simp [go_sem, *] at q1c1_2
    have q1c1_3 := hb.cell (p := ⟨w.heap.size + 1, 3, none⟩) (by first | omega | (simp <;> omega))
    simp [go_sem, *] at q1c1_3
    have q1c1_4 := hb.cell (p := ⟨w.heap.size + 1, 4, none⟩) (by first | omega | (simp <;> omega))
    simp [go_sem, *] at q1c1_4
    have q1c1_5 := hb.cell (p := ⟨w.heap.size + 1, 5, none⟩) (by first | omega | (simp <;> omega))
    simp [go_sem, *] at q1c1_5
    have q1c1_6 := hb.cell (p := ⟨w.heap.size + 1, 6, none⟩) (by first | omega | (simp <;> omega))
    simp [go_sem, *] at q1c1_6
    have q1f1 := fun o => hb.frozen (p := ⟨w.heap.size + 1, o, none⟩) (by first | omega | (simp <;> omega))
    simp [go_sem, *] at q1f1
    have q1o : ∀ b o, b < w.heap.size → wr.cell? ⟨b, o, none⟩ = w.cell? ⟨b, o, none⟩ := fun b o h => q1B.cell (p := ⟨b, o, none⟩) h
    clear hb
    by_cases hlt : k < n
    · have hm : (k : Int) < n := by omega
      have HK := hide hlt
      have hk0 : (0 : Int) ≤ k := by omega
      obtain ⟨b, off, rfl, hbl, c0, c1, c2, c3⟩ := (HA.out.below q1B).at hlt
      obtain ⟨b', off', rfl, hbl', d0, d1, d2, d3⟩ := (HB.out.below q1B).at hlt
      clear hlt hk
      go_wp2_with fail
      refine ord_start (SB (wr.heap.size) [] _) 11 #[false, false, false, false, false, false, false, false, false, false, false] (by kernel_rfl) (by kernel_rfl) (by kernel_rfl) SB.refl.drew (fun hHeld => ?_)
      refine ord_take (i := 0) #[true, false, false, false, false, false, false, false, false, false, false] ?_ rfl (by kernel_rfl) (by kernel_rfl) (by kernel_rfl) (by kernel_rfl) (fun _ _ _ h => h) hHeld (by rfl) (fun wx hSx => ?_) ?_
      rotate_left
      · (unfold SB at hSx; go_simp; (try with_reducible rfl))
      (try simp only [Act.put, List.setIfInBounds_toArray, List.set_cons_zero, List.set_cons_succ])
      refine ord_take (i := 1) #[true, true, false, false, false, false, false, false, false, false, false] ?_ rfl (by kernel_rfl) (by kernel_rfl) (by kernel_rfl) (by kernel_rfl) (fun _ _ _ h => h) hHeld (by rfl) (fun wx hSx => ?_) ?_
      rotate_left
      · (unfold SB at hSx; go_simp; (try with_reducible rfl))
      (try simp only [Act.put, List.setIfInBounds_toArray, List.set_cons_zero, List.set_cons_succ])
      refine ord_take (i := 2) #[true, true, true, false, false, false, false, false, false, false, false] ?_ rfl (by kernel_rfl) (by kernel_rfl) (by kernel_rfl) (by kernel_rfl) (fun _ _ _ h => h) hHeld (by rfl) (fun wx hSx => ?_) ?_
      rotate_left
      · (unfold SB at hSx; go_simp; (try with_reducible rfl))
      (try simp only [Act.put, List.setIfInBounds_toArray, List.set_cons_zero, List.set_cons_succ])
      refine ord_take (i := 3) #[true, true, true, true, false, false, false, false, false, false, false] ?_ rfl (by kernel_rfl) (by kernel_rfl) (by kernel_rfl) (by kernel_rfl) (fun _ _ _ h => h) hHeld (by rfl) (fun wx hSx => ?_) ?_
      rotate_left
      · (unfold SB at hSx; go_simp; (try with_reducible rfl))
      (try simp only [Act.put, List.setIfInBounds_toArray, List.set_cons_zero, List.set_cons_succ])
      refine ord_take (i := 4) #[true, true, true, true, true, false, false, false, false, false, false] ?_ rfl (by kernel_rfl) (by kernel_rfl) (by kernel_rfl) (by kernel_rfl) (fun _ _ _ h => h) hHeld (by rfl) (fun wx hSx => ?_) ?_
      rotate_left
      · (unfold SB at hSx; go_simp; (try with_reducible rfl))
      (try simp only [Act.put, List.setIfInBounds_toArray, List.set_cons_zero, List.set_cons_succ])
      refine ord_take (i := 5) #[true, true, true, true, true, true, false, false, false, false, false] ?_ rfl (by kernel_rfl) (by kernel_rfl) (by kernel_rfl) (by kernel_rfl) (fun _ _ _ h => h) hHeld (by rfl) (fun wx hSx => ?_) ?_
      rotate_left
      · (unfold SB at hSx; go_simp; (try with_reducible rfl))
      (try simp only [Act.put, List.setIfInBounds_toArray, List.set_cons_zero, List.set_cons_succ])
      refine ord_take (i := 6) #[true, true, true, true, true, true, true, false, false, false, false] ?_ rfl (by kernel_rfl) (by kernel_rfl) (by kernel_rfl) (by kernel_rfl) (fun _ _ _ h => h) hHeld (by rfl) (fun wx hSx => ?_) ?_
      rotate_left
      · (unfold SB at hSx; go_simp; (try with_reducible rfl))
      (try simp only [Act.put, List.setIfInBounds_toArray, List.set_cons_zero, List.set_cons_succ])
      refine ord_take (i := 7) #[true, true, true, true, true, true, true, true, false, false, false] ?_ rfl (by kernel_rfl) (by kernel_rfl) (by kernel_rfl) (by kernel_rfl) (fun _ _ _ h => h) hHeld (by rfl) (fun wx hSx => ?_) ?_
      rotate_left
      · (unfold SB at hSx; go_simp; (try with_reducible rfl))
      (try simp only [Act.put, List.setIfInBounds_toArray, List.set_cons_zero, List.set_cons_succ])
      refine ord_take (i := 8) #[true, true, true, true, true, true, true, true, true, false, false] ?_ rfl (by kernel_rfl) (by kernel_rfl) (by kernel_rfl) (by kernel_rfl) (fun _ _ _ h => h) hHeld (by rfl) (fun wx hSx => ?_) ?_
      rotate_left
      · (unfold SB at hSx; go_simp; (try with_reducible rfl))
      (try simp only [Act.put, List.setIfInBounds_toArray, List.set_cons_zero, List.set_cons_succ])
      refine ord_take (i := 9) #[true, true, true, true, true, true, true, true, true, true, false] ?_ rfl (by kernel_rfl) (by kernel_rfl) (by kernel_rfl) (by kernel_rfl) (fun _ _ _ h => h) hHeld (by rfl) (fun wx hSx => ?_) ?_
      rotate_left
      · (unfold SB at hSx; go_simp; (try with_reducible rfl))
      (try simp only [Act.put, List.setIfInBounds_toArray, List.set_cons_zero, List.set_cons_succ])
      refine ord_take (i := 10) #[true, true, true, true, true, true, true, true, true, true, true] ?_ rfl (by kernel_rfl) (by kernel_rfl) (by kernel_rfl) (by kernel_rfl) (fun _ _ _ h => h) hHeld (by rfl) (fun wx hSx => ?_) ?_
      rotate_left
      · (unfold SB at hSx; go_simp; (try with_reducible rfl))
      (try simp only [Act.put, List.setIfInBounds_toArray, List.set_cons_zero, List.set_cons_succ])
      refine wpAnyH_done (by kernel_rfl) ?_ _
      go_wp2_with fail
      go_roundw
      case rel => exact ⟨k + 1, HK.out, by go_num, H0.out.drew⟩
      case measure => have := HK.out; simp [intOf]; omega
    · obtain rfl : k = n := by omega
      clear hlt hk
      go_wp2_with fail
      refine bodyPost_ret (by simp [results, Tryd.results12, go_sem, *] <;> rfl) rfl ⟨?_, ?_⟩
      · rfl
      · exact q1B
/-- Books are few. -/
def fewP (an jn : Nat) (E : Nat → LEnt) : Prop := an ≤ 20 ∧ jn ≤ 60 ∧ ∀ k, k < jn → (E k).ln ≤ 20 ∧ (E k).tx.size ≤ 200
open Classical in
noncomputable def fewB (an jn : Nat) (E : Nat → LEnt) : Bool := decide (fewP an jn E)
theorem fewB_no {an jn : Nat} {E : Nat → LEnt} (h : ¬ fewP an jn E) : fewB an jn E = false := by unfold fewB; simpa using h
theorem fewB_yes {an jn : Nat} {E : Nat → LEnt} (h : fewP an jn E) : fewB an jn E = true := by unfold fewB; simpa using h
theorem fewB_iff {an jn : Nat} {E : Nat → LEnt} : fewB an jn E = true ↔ fewP an jn E := by unfold fewB; simp
def FewI (jn : Nat) (E : Nat → LEnt) (W : World) (v : Value) (wr : World) : Prop := ∃ k : Nat, k ≤ jn ∧ v = .int .i64 k ∧ (∀ i, i < k → (E i).ln ≤ 20 ∧ (E i).tx.size ≤ 200) ∧ Below W.heap.size W wr
set_option maxRecDepth 4000 in
set_option maxHeartbeats 2000000 in
theorem few_any (C : Array Value) (aA : Option Addr) (an ac : Nat) (jA : Option Addr) (jn jc : Nat) (hC : Bks C aA an ac jA jn jc) (E : Nat → LEnt) (w : World) (hr : RowEnt w jA jn E) :
    Calls Tryd.prog 8 #[.agg C] w fun e w' => e = .returned (.bool (fewB an jn E)) ∧ Below w.heap.size w w' := by
  have HR := hide hr
  have h18 := hC.acc
  have h19 := hC.jou
  clear hr hC
  by_cases a1 : an > 20
  · have HD := hide (fewB_no (an := an) (jn := jn) (E := E) (fun h => by have := h.1; omega))
    have a2 : (20 : Int) < an := by omega
    go_enter Tryd.func8, Tryd.ntmps8
    go_wp2_with fail
    refine bodyPost_ret (by simp [results, Tryd.results8, go_sem, *] <;> rfl) rfl ⟨?_, ?_⟩
    · rw [HD.out]
    · (repeat (first | (with_reducible exact Below.refl _ _) | (with_reducible assumption) | ((with_reducible refine Below.alloc ?_ ?_ _); (rotate_left); (first | omega | (simp <;> omega))) | ((with_reducible refine Below.setCell ?_ ?_ _); (rotate_left); (first | omega | (simp <;> omega))) | (with_reducible refine Below.drew ?_) | (with_reducible refine below_drewN ?_ _)))
  · have a2 : (an : Int) ≤ 20 := by omega
    have A2 := hide a1
    clear a1
    by_cases b1 : jn > 60
    · have HD := hide (fewB_no (an := an) (jn := jn) (E := E) (fun h => by have := h.2.1; omega))
      have b2 : (60 : Int) < jn := by omega
      go_enter Tryd.func8, Tryd.ntmps8
      go_wp2_with fail
      refine bodyPost_ret (by simp [results, Tryd.results8, go_sem, *] <;> rfl) rfl ⟨?_, ?_⟩
      · rw [HD.out]
      · (repeat (first | (with_reducible exact Below.refl _ _) | (with_reducible assumption) | ((with_reducible refine Below.alloc ?_ ?_ _); (rotate_left); (first | omega | (simp <;> omega))) | ((with_reducible refine Below.setCell ?_ ?_ _); (rotate_left); (first | omega | (simp <;> omega))) | (with_reducible refine Below.drew ?_) | (with_reducible refine below_drewN ?_ _)))
    · have b2 : (jn : Int) ≤ 60 := by omega
      have B2 := hide b1
      clear b1
      go_enter Tryd.func8, Tryd.ntmps8
      go_wp2_with fail
      go_loopw [3] (fun v wr => FewI jn E (w.alloc (.cells C 33)) v wr) (fun v _ => jn - (intOf v).toNat)
      case atStart => exact ⟨0, by omega, rfl, fun i hi => by omega, Below.refl _ _⟩
      case round =>
        obtain ⟨k, hk, rfl, hall, hb⟩ := hrel
        have H0 := hide hb
        have HA := hide hall
        clear hall
        have q1B : Below w.heap.size w wr := (by refine Below.trans ?_ (hb.mono (by first | omega | (simp <;> omega))); (repeat (first | (with_reducible exact Below.refl _ _) | (with_reducible assumption) | ((with_reducible refine Below.alloc ?_ ?_ _); (rotate_left); (first | omega | (simp <;> omega))) | ((with_reducible refine Below.setCell ?_ ?_ _); (rotate_left); (first | omega | (simp <;> omega))) | (with_reducible refine Below.drew ?_) | (with_reducible refine below_drewN ?_ _))))
        have q1z := hb.size
        try simp at q1z
        have q1t : w.heap.size ≤ wr.heap.size := (by omega)
        have q1s0 : w.heap.size < wr.heap.size := (by omega)
        have q1n0_0 : ¬ wr.heap.size = w.heap.size := (by omega)
        have q1n0_1 : ¬ wr.heap.size + 1 = w.heap.size := (by omega)
        have q1n0_2 : ¬ wr.heap.size + 2 = w.heap.size := (by omega)
        have q1c0_19 := hb.cell (p := ⟨w.heap.size, 19, none⟩) (by first | omega | (simp <;> omega))
        simp [go_sem, *] at q1c0_19
        have q1f0 := fun o => hb.frozen (p := ⟨w.heap.size, o, none⟩) (by first | omega | (simp <;> omega))
        simp [go_sem, *] at q1f0
        have q1o : ∀ b o, b < w.heap.size → wr.cell? ⟨b, o, none⟩ = w.cell? ⟨b, o, none⟩ := fun b o h => q1B.cell (p := ⟨b, o, none⟩) h
        clear hb
        clear h19
        by_cases hlt : k < jn
        · have hm : (k : Int) < jn := by omega
          have HK := hide hlt
          have hk0 : (0 : Int) ≤ k := by omega
          obtain ⟨b, off, rfl, hbl, c0, c1, c2, c3, c4, c5, c6, c7, c8, d9⟩ := (HR.out.below q1B).at hlt
          clear hlt hk
          by_cases g1 : (E k).ln > 20
          · have HD := hide (fewB_no (an := an) (jn := jn) (E := E) (fun h => by have := (h.2.2 k HK.out).1; omega))
            have g2 : (20 : Int) < (E k).ln := by omega
            go_wp2_with fail
            refine bodyPost_ret (by simp [results, Tryd.results8, go_sem, *] <;> rfl) rfl ⟨?_, ?_⟩
            · rw [HD.out]
            · exact q1B
          · have g2 : ((E k).ln : Int) ≤ 20 := by omega
            by_cases g3 : (E k).tx.size > 200
            · have HD := hide (fewB_no (an := an) (jn := jn) (E := E) (fun h => by have := (h.2.2 k HK.out).2; omega))
              have g4 : (200 : Int) < (E k).tx.size := by omega
              clear g1
              go_wp2_with fail
              refine bodyPost_ret (by simp [results, Tryd.results8, go_sem, *] <;> rfl) rfl ⟨?_, ?_⟩
              · rw [HD.out]
              · exact q1B
            · have g4 : ((E k).tx.size : Int) ≤ 200 := by omega
              have HA2 := hide (show ∀ i, i < k + 1 → (E i).ln ≤ 20 ∧ (E i).tx.size ≤ 200 from fun i hi => by
                rcases Nat.lt_or_ge i k with h1 | h1
                · exact HA.out i h1
                · obtain rfl : i = k := by omega
                  exact ⟨by omega, by omega⟩)
              clear g1 g3
              go_wp2_with fail
              go_roundw
              case rel => exact ⟨k + 1, HK.out, by go_num, HA2.out, H0.out⟩
              case measure => have := HK.out; simp [intOf]; omega
        · obtain rfl : k = jn := by omega
          have HD := hide (fewB_yes (an := an) (jn := k) (E := E) ⟨by have := A2.out; omega, by have := B2.out; omega, HA.out⟩)
          clear hlt hk
          go_wp2_with fail
          refine bodyPost_ret (by simp [results, Tryd.results8, go_sem, *] <;> rfl) rfl ⟨?_, ?_⟩
          · rw [HD.out]
          · exact q1B
/-- A statement is short. -/
def shP (n : Nat) (P : Nat → LPos) : Prop := n ≤ 80 ∧ ∀ k, k < n → (P k).tx.size ≤ 200
open Classical in
noncomputable def shB (n : Nat) (P : Nat → LPos) : Bool := decide (shP n P)
theorem shB_no {n : Nat} {P : Nat → LPos} (h : ¬ shP n P) : shB n P = false := by unfold shB; simpa using h
theorem shB_yes {n : Nat} {P : Nat → LPos} (h : shP n P) : shB n P = true := by unfold shB; simpa using h
theorem shB_iff {n : Nat} {P : Nat → LPos} : shB n P = true ↔ shP n P := by unfold shB; simp
def ShI (n : Nat) (P : Nat → LPos) (W : World) (v : Value) (wr : World) : Prop := ∃ k : Nat, k ≤ n ∧ v = .int .i64 k ∧ (∀ i, i < k → (P i).tx.size ≤ 200) ∧ Below W.heap.size W wr
set_option maxRecDepth 4000 in
set_option maxHeartbeats 2000000 in
theorem short_any (ac no f t op cl : Int) (lA : Option Addr) (ln lc : Nat) (P : Nat → LPos) (w : World) (hr : RowPos w lA ln P) :
    Calls Tryd.prog 13 #[.agg #[.int .i64 ac, .int .i64 no, .int .i64 f, .int .i64 t, .int .i64 op, .int .i64 cl, .slice lA ln lc]] w fun e w' => e = .returned (.bool (shB ln P)) ∧ Below w.heap.size w w' := by
  have HR := hide hr
  clear hr
  by_cases a1 : ln > 80
  · have HD := hide (shB_no (n := ln) (P := P) (fun h => by have := h.1; omega))
    have a2 : (80 : Int) < ln := by omega
    go_enter Tryd.func13, Tryd.ntmps13
    go_wp2_with fail
    refine bodyPost_ret (by simp [results, Tryd.results13, go_sem, *] <;> rfl) rfl ⟨?_, ?_⟩
    · rw [HD.out]
    · (repeat (first | (with_reducible exact Below.refl _ _) | (with_reducible assumption) | ((with_reducible refine Below.alloc ?_ ?_ _); (rotate_left); (first | omega | (simp <;> omega))) | ((with_reducible refine Below.setCell ?_ ?_ _); (rotate_left); (first | omega | (simp <;> omega))) | (with_reducible refine Below.drew ?_) | (with_reducible refine below_drewN ?_ _)))
  · have a2 : (ln : Int) ≤ 80 := by omega
    have A2 := hide a1
    clear a1
    go_enter Tryd.func13, Tryd.ntmps13
    go_wp2_with fail
    go_loopw [3] (fun v wr => ShI ln P (w.alloc (.cells #[.int .i64 ac, .int .i64 no, .int .i64 f, .int .i64 t, .int .i64 op, .int .i64 cl, .slice lA ln lc] 40)) v wr) (fun v _ => ln - (intOf v).toNat)
    case atStart => exact ⟨0, by omega, rfl, fun i hi => by omega, Below.refl _ _⟩
    case round =>
      obtain ⟨k, hk, rfl, hall, hb⟩ := hrel
      have H0 := hide hb
      have HA := hide hall
      clear hall
      have q1B : Below w.heap.size w wr := (by refine Below.trans ?_ (hb.mono (by first | omega | (simp <;> omega))); (repeat (first | (with_reducible exact Below.refl _ _) | (with_reducible assumption) | ((with_reducible refine Below.alloc ?_ ?_ _); (rotate_left); (first | omega | (simp <;> omega))) | ((with_reducible refine Below.setCell ?_ ?_ _); (rotate_left); (first | omega | (simp <;> omega))) | (with_reducible refine Below.drew ?_) | (with_reducible refine below_drewN ?_ _))))
      have q1z := hb.size
      try simp at q1z
      have q1t : w.heap.size ≤ wr.heap.size := (by omega)
      have q1s0 : w.heap.size < wr.heap.size := (by omega)
      have q1n0_0 : ¬ wr.heap.size = w.heap.size := (by omega)
      have q1n0_1 : ¬ wr.heap.size + 1 = w.heap.size := (by omega)
      have q1n0_2 : ¬ wr.heap.size + 2 = w.heap.size := (by omega)
      have q1c0_0 := hb.cell (p := ⟨w.heap.size, 0, none⟩) (by first | omega | (simp <;> omega))
      simp [go_sem, *] at q1c0_0
      have q1c0_1 := hb.cell (p := ⟨w.heap.size, 1, none⟩) (by first | omega | (simp <;> omega))
      simp [go_sem, *] at q1c0_1
      have q1c0_2 := hb.cell (p := ⟨w.heap.size, 2, none⟩) (by first | omega | (simp <;> omega))
      simp [go_sem, *] at q1c0_2
      have q1c0_3 := hb.cell (p := ⟨w.heap.size, 3, none⟩) (by first | omega | (simp <;> omega))
      simp [go_sem, *] at q1c0_3
      have q1c0_4 := hb.cell (p := ⟨w.heap.size, 4, none⟩) (by first | omega | (simp <;> omega))
      simp [go_sem, *] at q1c0_4
      have q1c0_5 := hb.cell (p := ⟨w.heap.size, 5, none⟩) (by first | omega | (simp <;> omega))
      simp [go_sem, *] at q1c0_5
      have q1c0_6 := hb.cell (p := ⟨w.heap.size, 6, none⟩) (by first | omega | (simp <;> omega))
      simp [go_sem, *] at q1c0_6
      have q1f0 := fun o => hb.frozen (p := ⟨w.heap.size, o, none⟩) (by first | omega | (simp <;> omega))
      simp [go_sem, *] at q1f0
      have q1o : ∀ b o, b < w.heap.size → wr.cell? ⟨b, o, none⟩ = w.cell? ⟨b, o, none⟩ := fun b o h => q1B.cell (p := ⟨b, o, none⟩) h
      clear hb
      by_cases hlt : k < ln
      · have hm : (k : Int) < ln := by omega
        have HK := hide hlt
        have hk0 : (0 : Int) ≤ k := by omega
        obtain ⟨b, off, rfl, hbl, c0, c1, c2, c3⟩ := (HR.out.below q1B).at hlt
        clear hlt hk
        by_cases g3 : (P k).tx.size > 200
        · have HD := hide (shB_no (n := ln) (P := P) (fun h => by have := h.2 k HK.out; omega))
          have g4 : (200 : Int) < (P k).tx.size := by omega
          go_wp2_with fail
          refine bodyPost_ret (by simp [results, Tryd.results13, go_sem, *] <;> rfl) rfl ⟨?_, ?_⟩
          · rw [HD.out]
          · exact q1B
        · have g4 : ((P k).tx.size : Int) ≤ 200 := by omega
          have HA2 := hide (show ∀ i, i < k + 1 → (P i).tx.size ≤ 200 from fun i hi => by
            rcases Nat.lt_or_ge i k with h1 | h1
            · exact HA.out i h1
            · obtain rfl : i = k := by omega
              omega)
          clear g3
          go_wp2_with fail
          go_roundw
          case rel => exact ⟨k + 1, HK.out, by go_num, HA2.out, H0.out⟩
          case measure => have := HK.out; simp [intOf]; omega
      · obtain rfl : k = ln := by omega
        have HD := hide (shB_yes (n := k) (P := P) ⟨by have := A2.out; omega, HA.out⟩)
        clear hlt hk
        go_wp2_with fail
        refine bodyPost_ret (by simp [results, Tryd.results13, go_sem, *] <;> rfl) rfl ⟨?_, ?_⟩
        · rw [HD.out]
        · exact q1B
end Go.Proofs.YtodfpfbcjiganaaDoor
