/- Texts laid together: Ahb. -/
import Derived.Test.YtdjhkhadjmndoaaDoorQAgW
namespace Go.Proofs.YtdjhkhadjmndoaaDoor
set_option maxRecDepth 4000
set_option linter.unusedSimpArgs false
set_option linter.unusedVariables false
open Go.RowKit
def fewP (ck : Nat → Tr) : Prop := (ck 18).n ≤ 80 ∧ (ck 17).n ≤ 30 ∧ (ck 19).n ≤ 60 ∧ (ck 20).n ≤ 70 ∧ (ck 21).n ≤ 70 ∧ ∀ k, k < (ck 19).n → ((ck 19).c k 8).n ≤ 20
open Classical in
noncomputable def fewB (ck : Nat → Tr) : Bool := decide (fewP ck)
theorem fewB_no {ck : Nat → Tr} (h : ¬ fewP ck) : fewB ck = false := by unfold fewB; simpa using h
theorem fewB_yes {ck : Nat → Tr} (h : fewP ck) : fewB ck = true := by unfold fewB; simpa using h
theorem fewB_iff {ck : Nat → Tr} : fewB ck = true ↔ fewP ck := by unfold fewB; simp
/-- Small books are books that the walks take. -/
theorem few_sml {ck : Nat → Tr} (h : fewB ck = true) : Sml ck := by
  obtain ⟨h1, h2, h3, h4, _, h6⟩ := fewB_iff.1 h
  exact ⟨by omega, by omega, by omega, by omega, fun k hk => by have := h6 k hk; omega⟩
def FwE (c : Nat → Nat → Tr) (n : Nat) (W : World) (v : Value) (wr : World) : Prop := ∃ k : Nat, k ≤ n ∧ v = .int .i64 k ∧ (∀ i, i < k → (c i 8).n ≤ 20) ∧ Below W.heap.size W wr
set_option maxRecDepth 8000 in
set_option maxHeartbeats 4000000 in
theorem few_any {ck : Nat → Tr} (hw : KnOK 15 ck) {X : Array Value} (w : World) (hX : ElT (Old w) w 15 ck X) : Calls Tryd.prog 13 #[.agg X] w fun e w' => e = .returned (.bool (fewB ck)) ∧ Below w.heap.size w w' := by
  have hXs : X.size = 22 := hX.size
  obtain ⟨n17, c17, q17, hk17, A17, cap17, C17, e17, _, hr17⟩ := rd_row (e := 8) (hX.rd 17 (by decide)) (hw 17 (by decide))
  have h17 := at_eq hXs (by decide) e17
  obtain ⟨n18, c18, q18, hk18, A18, cap18, C18, e18, _, hr18⟩ := rd_row (e := 9) (hX.rd 18 (by decide)) (hw 18 (by decide))
  have h18 := at_eq hXs (by decide) e18
  obtain ⟨n19, c19, q19, hk19, A19, cap19, C19, e19, _, hr19⟩ := rd_row (e := 11) (hX.rd 19 (by decide)) (hw 19 (by decide))
  have h19 := at_eq hXs (by decide) e19
  obtain ⟨n20, c20, q20, hk20, A20, cap20, C20, e20, _, hr20⟩ := rd_row (e := 12) (hX.rd 20 (by decide)) (hw 20 (by decide))
  have h20 := at_eq hXs (by decide) e20
  obtain ⟨n21, c21, q21, hk21, A21, cap21, C21, e21, _, hr21⟩ := rd_row (e := 13) (hX.rd 21 (by decide)) (hw 21 (by decide))
  have h21 := at_eq hXs (by decide) e21
  have HE := hide (ent_of hr19 hk19)
  have HF := hide (show fewP ck ↔ (n18 ≤ 80 ∧ n17 ≤ 30 ∧ n19 ≤ 60 ∧ n20 ≤ 70 ∧ n21 ≤ 70 ∧ ∀ k, k < n19 → (c19 k 8).n ≤ 20) from by unfold fewP; rw [q17, q18, q19, q20, q21]; rfl)
  clear hX hw hXs q17 q18 q19 q20 q21 hk17 hk18 hk19 hk20 hk21 e17 e18 e19 e20 e21 hr17 hr18 hr19 hr20 hr21
  by_cases a0 : n18 ≤ 80
  rotate_left
  · have HD := hide (fewB_no (fun h => a0 ((HF.out.1 h).1)))
    have d0 : decide ((80 : Int) < n18) = true := decide_eq_true (by omega)
    have b0 : (80 : Int) < n18 := by omega
    clear a0
    go_enter Tryd.func13, Tryd.ntmps13
    go_wp2_with fail
    go_ret
    exact ⟨by rw [HD.out]; rfl, by (repeat (first | (with_reducible first | exact Below.refl _ _ | assumption | refine Below.drew ?_) | ((with_reducible first | refine Below.alloc ?_ ?_ _ | refine Below.setCell ?_ ?_ _); rotate_left; (first | omega | (simp <;> omega)))))⟩
  have HA0 := hide a0
  have d0 : decide ((80 : Int) < n18) = false := decide_eq_false (by omega)
  have b0 : (n18 : Int) ≤ 80 := by omega
  clear a0
  by_cases a1 : n17 ≤ 30
  rotate_left
  · have HD := hide (fewB_no (fun h => a1 ((HF.out.1 h).2.1)))
    have d1 : decide ((30 : Int) < n17) = true := decide_eq_true (by omega)
    have b1 : (30 : Int) < n17 := by omega
    clear a1
    go_enter Tryd.func13, Tryd.ntmps13
    go_wp2_with fail
    go_ret
    exact ⟨by rw [HD.out]; rfl, by (repeat (first | (with_reducible first | exact Below.refl _ _ | assumption | refine Below.drew ?_) | ((with_reducible first | refine Below.alloc ?_ ?_ _ | refine Below.setCell ?_ ?_ _); rotate_left; (first | omega | (simp <;> omega)))))⟩
  have HA1 := hide a1
  have d1 : decide ((30 : Int) < n17) = false := decide_eq_false (by omega)
  have b1 : (n17 : Int) ≤ 30 := by omega
  clear a1
  by_cases a2 : n19 ≤ 60
  rotate_left
  · have HD := hide (fewB_no (fun h => a2 ((HF.out.1 h).2.2.1)))
    have d2 : decide ((60 : Int) < n19) = true := decide_eq_true (by omega)
    have b2 : (60 : Int) < n19 := by omega
    clear a2
    go_enter Tryd.func13, Tryd.ntmps13
    go_wp2_with fail
    go_ret
    exact ⟨by rw [HD.out]; rfl, by (repeat (first | (with_reducible first | exact Below.refl _ _ | assumption | refine Below.drew ?_) | ((with_reducible first | refine Below.alloc ?_ ?_ _ | refine Below.setCell ?_ ?_ _); rotate_left; (first | omega | (simp <;> omega)))))⟩
  have HA2 := hide a2
  have d2 : decide ((60 : Int) < n19) = false := decide_eq_false (by omega)
  have b2 : (n19 : Int) ≤ 60 := by omega
  clear a2
  by_cases a3 : n20 ≤ 70
  rotate_left
  · have HD := hide (fewB_no (fun h => a3 ((HF.out.1 h).2.2.2.1)))
    have d3 : decide ((70 : Int) < n20) = true := decide_eq_true (by omega)
    have b3 : (70 : Int) < n20 := by omega
    clear a3
    go_enter Tryd.func13, Tryd.ntmps13
    go_wp2_with fail
    go_ret
    exact ⟨by rw [HD.out]; rfl, by (repeat (first | (with_reducible first | exact Below.refl _ _ | assumption | refine Below.drew ?_) | ((with_reducible first | refine Below.alloc ?_ ?_ _ | refine Below.setCell ?_ ?_ _); rotate_left; (first | omega | (simp <;> omega)))))⟩
  have HA3 := hide a3
  have d3 : decide ((70 : Int) < n20) = false := decide_eq_false (by omega)
  have b3 : (n20 : Int) ≤ 70 := by omega
  clear a3
  by_cases a4 : n21 ≤ 70
  rotate_left
  · have HD := hide (fewB_no (fun h => a4 ((HF.out.1 h).2.2.2.2.1)))
    have d4 : decide ((70 : Int) < n21) = true := decide_eq_true (by omega)
    have b4 : (70 : Int) < n21 := by omega
    clear a4
    go_enter Tryd.func13, Tryd.ntmps13
    go_wp2_with fail
    go_ret
    exact ⟨by rw [HD.out]; rfl, by (repeat (first | (with_reducible first | exact Below.refl _ _ | assumption | refine Below.drew ?_) | ((with_reducible first | refine Below.alloc ?_ ?_ _ | refine Below.setCell ?_ ?_ _); rotate_left; (first | omega | (simp <;> omega)))))⟩
  have HA4 := hide a4
  have d4 : decide ((70 : Int) < n21) = false := decide_eq_false (by omega)
  have b4 : (n21 : Int) ≤ 70 := by omega
  clear a4
  go_enter Tryd.func13, Tryd.ntmps13
  go_wp2_with fail
  go_loopw [3] (fun v wr => FwE c19 n19 (w.alloc (.cells X 41)) v wr) (fun v _ => n19 - (intOf v).toNat)
  case atStart => exact ⟨0, by omega, rfl, fun i hi => by omega, Below.refl _ _⟩
  case round =>
    obtain ⟨k, hk, rfl, hl, hb⟩ := hrel
    have HL := hide hl
    have H0 := hide hb
    clear hl
    have q1B : Below w.heap.size w wr := (by refine Below.trans ?_ (hb.mono (by first | omega | (simp <;> omega))); (repeat (first | (with_reducible first | exact Below.refl _ _ | assumption | refine Below.drew ?_) | ((with_reducible first | refine Below.alloc ?_ ?_ _ | refine Below.setCell ?_ ?_ _); rotate_left; (first | omega | (simp <;> omega))))))
    have q1z := hb.size
    try simp at q1z
    have q1t : w.heap.size ≤ wr.heap.size := (by omega)
    have q1s0 : w.heap.size < wr.heap.size := (by omega)
    have q1n0_0 : ¬ wr.heap.size = w.heap.size := (by omega)
    have q1n0_1 : ¬ wr.heap.size + 1 = w.heap.size := (by omega)
    have q1n0_2 : ¬ wr.heap.size + 2 = w.heap.size := (by omega)
    have q1c0_19 := hb.cell (p := ⟨w.heap.size, 19, none⟩) (by first | omega | (simp <;> omega))
    simp [go_sem, *] at q1c0_19
    have q1f0 := fun o => hb.frozen (p := ⟨w.heap.size, o, none⟩) (by first | omega | (simp <;> omega))
    simp [go_sem, *] at q1f0
    have q1o : ∀ b o, b < w.heap.size → wr.cell? ⟨b, o, none⟩ = w.cell? ⟨b, o, none⟩ := fun b o h => q1B.cell (p := ⟨b, o, none⟩) h
    clear hb
    clear h17 h18 h19 h20 h21
    by_cases hlt : k < n19
    · have hm : (k : Int) < n19 := by omega
      have hk0 : (0 : Int) ≤ k := by omega
      have HK := hide hlt
      obtain ⟨b, off, rfl, hbl, _, _, _, _, _, _, _, _, c9, _⟩ := (HE.out.below q1B).at hlt
      have c8 : wr.cell? ⟨b, off + k * 10 + 8, none⟩ = some (.slice (addrOf (C19 k 8)) (c19 k 8).n (capOf (C19 k 8))) := c9
      clear c9
      obtain ⟨m, hmm⟩ : ∃ m, m = (c19 k 8).n := ⟨_, rfl⟩
      rw [← hmm] at c8
      by_cases hg : m ≤ 20
      · have d9 : decide ((20 : Int) < m) = false := decide_eq_false (by omega)
        have b9 : (m : Int) ≤ 20 := by omega
        have HG := hide (show (c19 k 8).n ≤ 20 from by omega)
        clear hlt hk hmm hg
        go_wp2_with fail
        go_roundw
        case rel => exact ⟨k + 1, HK.out, by go_num, fun i hi => by rcases Nat.lt_succ_iff_lt_or_eq.1 hi with h | rfl; exact HL.out i h; exact HG.out, H0.out⟩
        case measure => have := HK.out; simp [intOf]; omega
      · have d9 : decide ((20 : Int) < m) = true := decide_eq_true (by omega)
        have b9 : (20 : Int) < m := by omega
        have HD := hide (fewB_no (fun h => by have := (HF.out.1 h).2.2.2.2.2 k HK.out; omega))
        clear hlt hk hmm hg
        go_wp2_with fail
        go_ret
        exact ⟨by rw [HD.out]; rfl, q1B⟩
    · obtain rfl : k = n19 := by omega
      have HD := hide (fewB_yes (HF.out.2 ⟨HA0.out, HA1.out, HA2.out, HA3.out, HA4.out, HL.out⟩))
      clear hlt hk
      go_wp2_with fail
      go_ret
      exact ⟨by rw [HD.out]; rfl, q1B⟩
end Go.Proofs.YtdjhkhadjmndoaaDoor
