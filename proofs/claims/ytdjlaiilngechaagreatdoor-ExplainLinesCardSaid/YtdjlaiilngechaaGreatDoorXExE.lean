/- Texts laid together: ExE. -/
import Derived.Test.YtdjlaiilngechaaGreatDoorXTf
namespace Go.Proofs.YtdjlaiilngechaaGreatDoor
set_option maxRecDepth 4000
set_option linter.unusedSimpArgs false
set_option linter.unusedVariables false
open Go.RowKit
def same2 (n m : Nat) (f g f' g' : Nat → Int) : Prop := n = m ∧ ∀ k, k < n → f k = f' k ∧ g k = g' k
instance (n m : Nat) (f g f' g' : Nat → Int) : Decidable (same2 n m f g f' g') := by unfold same2; exact inferInstance
def SameInv (f g f' g' : Nat → Int) (n : Nat) (w : World) (v : Value) (wr : World) : Prop :=
 ∃ k : Nat, k ≤ n ∧ v = .int .i64 k ∧ (∀ j, j < k → f j = f' j ∧ g j = g' j) ∧ Below w.heap.size w wr
set_option maxHeartbeats 1000000 in
theorem rsames_any (A B : Option Addr) (n m c d : Nat) (f g f' g' : Nat → Int) (hl : n ≤ 140737488355328) (w : World) (hr : Row2 w A n f g) (hs : Row2 w B m f' g') :
  Calls Tryz.prog 20 #[.slice A n c, .slice B m d] w fun e w' => e = .returned (.bool (decide (same2 n m f g f' g'))) ∧ Below w.heap.size w w' := by
 by_cases hnm : n = m
 ·subst hnm
  go_enter Tryz.func20, Tryz.ntmps20
  go_wp2_with fail
  go_loopw [5] (fun v wr => SameInv f g f' g' n w v wr) (fun v _ => n - (intOf v).toNat)
  case atStart => exact ⟨0, by omega, rfl, fun j hj => by omega, by (repeat (first | (with_reducible first | exact Below.refl _ _ | assumption | refine Below.drew ?_) | ((with_reducible first | refine Below.alloc ?_ ?_ _ | refine Below.setCell ?_ ?_ _); rotate_left; (first | omega | (simp <;> omega)))))⟩
  case round =>
   obtain ⟨k, hk, rfl, ha, hB⟩ := hrel
   have HA := hide ha
   clear ha
   have hzB := hB.size
   by_cases hlt : k < n
   ·obtain ⟨b1, o1, rfl, hb1, hc1⟩ := (hr.below hB) (by omega)
    obtain ⟨c0, c1⟩ := hc1 k hlt
    obtain ⟨b2, o2, rfl, hb2, hc2⟩ := (hs.below hB) (by omega)
    obtain ⟨d0, d1⟩ := hc2 k hlt
    clear hc1 hc2
    have hm1 : (k : Int) < n := by omega
    have hm3 : (0 : Int) ≤ (k : Int) := by omega
    by_cases he : f k = f' k ∧ g k = g' k
    ·have HD : Hid (∀ j, j < k + 1 → f j = f' j ∧ g j = g' j) := fun j hj => by
      rcases Nat.lt_or_ge j k with h1 | h1
      ·exact HA.out j h1
      ·obtain rfl : j = k := by omega
       exact he
     obtain ⟨e1, e2⟩ := he
     go_upto_region 6 with fail
     refine ord_start (SB (wr.heap.size) [] _) 9 (preB 0 9) (by kernel_rfl) (by kernel_rfl) (by kernel_rfl) SB.refl.drew (fun hHeld => ?_)
     refine oS (i := 0) (preB 1 8) rfl hHeld ?_
     (try simp only [Act.put, putS])
     refine oS (i := 1) (preB 2 7) rfl hHeld ?_
     (try simp only [Act.put, putS])
     refine oS (i := 2) (preB 3 6) rfl hHeld ?_
     (try simp only [Act.put, putS])
     refine oS (i := 3) (preB 4 5) rfl hHeld ?_
     (try simp only [Act.put, putS])
     refine oS (i := 4) (preB 5 4) rfl hHeld ?_
     (try simp only [Act.put, putS])
     refine oS (i := 5) (preB 6 3) rfl hHeld ?_
     (try simp only [Act.put, putS])
     refine oS (i := 6) (preB 7 2) rfl hHeld ?_
     (try simp only [Act.put, putS])
     refine oS (i := 7) (preB 8 1) rfl hHeld ?_
     (try simp only [Act.put, putS])
     refine oS (i := 8) (preB 9 0) rfl hHeld ?_
     (try simp only [Act.put, putS])
     refine wpAnyH_done (by kernel_rfl) ?_ _
     go_wp2_with fail
     go_roundw
     case rel => exact ⟨k + 1, by omega, by go_num, HD.out, by (repeat (first | (with_reducible first | exact Below.refl _ _ | assumption | refine Below.drew ?_) | ((with_reducible first | refine Below.alloc ?_ ?_ _ | refine Below.setCell ?_ ?_ _); rotate_left; (first | omega | (simp <;> omega)))))⟩
     case measure => simp [intOf]; omega
    ·have HD := hide (show decide (same2 n n f g f' g') = false from decide_eq_false (fun h => he (h.2 k hlt)))
     go_upto_region 6 with fail
     refine ord_start (SB (wr.heap.size) [] _) 9 (preB 0 9) (by kernel_rfl) (by kernel_rfl) (by kernel_rfl) SB.refl.drew (fun hHeld => ?_)
     refine oS (i := 0) (preB 1 8) rfl hHeld ?_
     (try simp only [Act.put, putS])
     refine oS (i := 1) (preB 2 7) rfl hHeld ?_
     (try simp only [Act.put, putS])
     refine oS (i := 2) (preB 3 6) rfl hHeld ?_
     (try simp only [Act.put, putS])
     refine oS (i := 3) (preB 4 5) rfl hHeld ?_
     (try simp only [Act.put, putS])
     refine oS (i := 4) (preB 5 4) rfl hHeld ?_
     (try simp only [Act.put, putS])
     refine oS (i := 5) (preB 6 3) rfl hHeld ?_
     (try simp only [Act.put, putS])
     refine oS (i := 6) (preB 7 2) rfl hHeld ?_
     (try simp only [Act.put, putS])
     refine oS (i := 7) (preB 8 1) rfl hHeld ?_
     (try simp only [Act.put, putS])
     refine oT (i := 8) (preB 9 0) (.bool true) rfl hHeld (fun wx hSx => ?_) ?_
     ·(unfold SB at hSx; go_simp; (rcases Decidable.em (f k = f' k) with q1 | q1); (rcases Decidable.em (g k = g' k) with q2 | q2); (exact absurd ⟨q1, q2⟩ he); (simp [q1, q2]); (simp [q1]))
     (try simp only [Act.put, putS])
     refine wpAnyH_done (by kernel_rfl) ?_ _
     go_wp2_with fail
     go_ret
     exact ⟨by rw [HD.out]; rfl, by (repeat (first | (with_reducible first | exact Below.refl _ _ | assumption | refine Below.drew ?_) | ((with_reducible first | refine Below.alloc ?_ ?_ _ | refine Below.setCell ?_ ?_ _); rotate_left; (first | omega | (simp <;> omega)))))⟩
   ·have hkn : k = n := by omega
    subst hkn
    have HD := hide (show decide (same2 k k f g f' g') = true from decide_eq_true ⟨rfl, HA.out⟩)
    go_wp2_with fail
    go_ret
    exact ⟨by rw [HD.out]; rfl, by (repeat (first | (with_reducible first | exact Below.refl _ _ | assumption | refine Below.drew ?_) | ((with_reducible first | refine Below.alloc ?_ ?_ _ | refine Below.setCell ?_ ?_ _); rotate_left; (first | omega | (simp <;> omega)))))⟩
 ·have HD := hide (show decide (same2 n m f g f' g') = false from decide_eq_false (fun h => hnm h.1))
  have hnm2 : ¬ (n : Int) = (m : Int) := by omega
  go_enter Tryz.func20, Tryz.ntmps20
  go_wp2_with fail
  go_ret
  exact ⟨by rw [HD.out]; rfl, by (repeat (first | (with_reducible first | exact Below.refl _ _ | assumption | refine Below.drew ?_) | ((with_reducible first | refine Below.alloc ?_ ?_ _ | refine Below.setCell ?_ ?_ _); rotate_left; (first | omega | (simp <;> omega)))))⟩
set_option maxHeartbeats 1000000 in
theorem eqs_any (A B : Option Addr) (n m c d : Nat) (f g f' g' : Nat → Int) (hl : n ≤ 140737488355328) (w : World) (hr : Row2 w A n f g) (hs : Row2 w B m f' g') :
  Calls Tryz.prog 49 #[.slice A n c, .slice B m d] w fun e w' => e = .returned (.bool (decide (same2 n m f g f' g'))) ∧ Below w.heap.size w w' := by
 by_cases hnm : n = m
 ·subst hnm
  go_enter Tryz.func49, Tryz.ntmps49
  go_wp2_with fail
  go_loopw [13] (fun v wr => SameInv f g f' g' n w v wr) (fun v _ => n - (intOf v).toNat)
  case atStart => exact ⟨0, by omega, rfl, fun j hj => by omega, by (repeat (first | (with_reducible first | exact Below.refl _ _ | assumption | refine Below.drew ?_) | ((with_reducible first | refine Below.alloc ?_ ?_ _ | refine Below.setCell ?_ ?_ _); rotate_left; (first | omega | (simp <;> omega)))))⟩
  case round =>
   obtain ⟨k, hk, rfl, ha, hB⟩ := hrel
   have HA := hide ha
   clear ha
   have hzB := hB.size
   by_cases hlt : k < n
   ·obtain ⟨b1, o1, rfl, hb1, hc1⟩ := (hr.below hB) (by omega)
    obtain ⟨c0, c1⟩ := hc1 k hlt
    obtain ⟨b2, o2, rfl, hb2, hc2⟩ := (hs.below hB) (by omega)
    obtain ⟨d0, d1⟩ := hc2 k hlt
    clear hc1 hc2
    have hm1 : (k : Int) < n := by omega
    have hm3 : (0 : Int) ≤ (k : Int) := by omega
    by_cases he : f k = f' k ∧ g k = g' k
    ·have HD : Hid (∀ j, j < k + 1 → f j = f' j ∧ g j = g' j) := fun j hj => by
      rcases Nat.lt_or_ge j k with h1 | h1
      ·exact HA.out j h1
      ·obtain rfl : j = k := by omega
       exact he
     obtain ⟨e1, e2⟩ := he
     go_upto_region 6 with fail
     refine ord_start (SB (wr.heap.size) [] _) 9 (preB 0 9) (by kernel_rfl) (by kernel_rfl) (by kernel_rfl) SB.refl.drew (fun hHeld => ?_)
     refine oS (i := 0) (preB 1 8) rfl hHeld ?_
     (try simp only [Act.put, putS])
     refine oS (i := 1) (preB 2 7) rfl hHeld ?_
     (try simp only [Act.put, putS])
     refine oS (i := 2) (preB 3 6) rfl hHeld ?_
     (try simp only [Act.put, putS])
     refine oS (i := 3) (preB 4 5) rfl hHeld ?_
     (try simp only [Act.put, putS])
     refine oS (i := 4) (preB 5 4) rfl hHeld ?_
     (try simp only [Act.put, putS])
     refine oS (i := 5) (preB 6 3) rfl hHeld ?_
     (try simp only [Act.put, putS])
     refine oS (i := 6) (preB 7 2) rfl hHeld ?_
     (try simp only [Act.put, putS])
     refine oS (i := 7) (preB 8 1) rfl hHeld ?_
     (try simp only [Act.put, putS])
     refine oS (i := 8) (preB 9 0) rfl hHeld ?_
     (try simp only [Act.put, putS])
     refine wpAnyH_done (by kernel_rfl) ?_ _
     go_wp2_with fail
     go_roundw
     case rel => exact ⟨k + 1, by omega, by go_num, HD.out, by (repeat (first | (with_reducible first | exact Below.refl _ _ | assumption | refine Below.drew ?_) | ((with_reducible first | refine Below.alloc ?_ ?_ _ | refine Below.setCell ?_ ?_ _); rotate_left; (first | omega | (simp <;> omega)))))⟩
     case measure => simp [intOf]; omega
    ·have HD := hide (show decide (same2 n n f g f' g') = false from decide_eq_false (fun h => he (h.2 k hlt)))
     go_upto_region 6 with fail
     refine ord_start (SB (wr.heap.size) [] _) 9 (preB 0 9) (by kernel_rfl) (by kernel_rfl) (by kernel_rfl) SB.refl.drew (fun hHeld => ?_)
     refine oS (i := 0) (preB 1 8) rfl hHeld ?_
     (try simp only [Act.put, putS])
     refine oS (i := 1) (preB 2 7) rfl hHeld ?_
     (try simp only [Act.put, putS])
     refine oS (i := 2) (preB 3 6) rfl hHeld ?_
     (try simp only [Act.put, putS])
     refine oS (i := 3) (preB 4 5) rfl hHeld ?_
     (try simp only [Act.put, putS])
     refine oS (i := 4) (preB 5 4) rfl hHeld ?_
     (try simp only [Act.put, putS])
     refine oS (i := 5) (preB 6 3) rfl hHeld ?_
     (try simp only [Act.put, putS])
     refine oS (i := 6) (preB 7 2) rfl hHeld ?_
     (try simp only [Act.put, putS])
     refine oS (i := 7) (preB 8 1) rfl hHeld ?_
     (try simp only [Act.put, putS])
     refine oT (i := 8) (preB 9 0) (.bool true) rfl hHeld (fun wx hSx => ?_) ?_
     ·(unfold SB at hSx; go_simp; (rcases Decidable.em (f k = f' k) with q1 | q1); (rcases Decidable.em (g k = g' k) with q2 | q2); (exact absurd ⟨q1, q2⟩ he); (simp [q1, q2]); (simp [q1]))
     (try simp only [Act.put, putS])
     refine wpAnyH_done (by kernel_rfl) ?_ _
     go_wp2_with fail
     go_ret
     exact ⟨by rw [HD.out]; rfl, by (repeat (first | (with_reducible first | exact Below.refl _ _ | assumption | refine Below.drew ?_) | ((with_reducible first | refine Below.alloc ?_ ?_ _ | refine Below.setCell ?_ ?_ _); rotate_left; (first | omega | (simp <;> omega)))))⟩
   ·have hkn : k = n := by omega
    subst hkn
    have HD := hide (show decide (same2 k k f g f' g') = true from decide_eq_true ⟨rfl, HA.out⟩)
    go_wp2_with fail
    go_ret
    exact ⟨by rw [HD.out]; rfl, by (repeat (first | (with_reducible first | exact Below.refl _ _ | assumption | refine Below.drew ?_) | ((with_reducible first | refine Below.alloc ?_ ?_ _ | refine Below.setCell ?_ ?_ _); rotate_left; (first | omega | (simp <;> omega)))))⟩
 ·have HD := hide (show decide (same2 n m f g f' g') = false from decide_eq_false (fun h => hnm h.1))
  have hnm2 : ¬ (n : Int) = (m : Int) := by omega
  go_enter Tryz.func49, Tryz.ntmps49
  go_wp2_with fail
  go_ret
  exact ⟨by rw [HD.out]; rfl, by (repeat (first | (with_reducible first | exact Below.refl _ _ | assumption | refine Below.drew ?_) | ((with_reducible first | refine Below.alloc ?_ ?_ _ | refine Below.setCell ?_ ?_ _); rotate_left; (first | omega | (simp <;> omega)))))⟩
theorem same2_lists {l m : List (Int × Int)} : same2 l.length m.length (fsts l) (snds l) (fsts m) (snds m) ↔ l = m := by
 constructor
 ·intro h
  apply List.ext_getElem h.1
  intro k h1 h2
  have := h.2 k h1
  simp only [fsts, snds, List.getD, List.getElem?_eq_getElem h1, List.getElem?_eq_getElem h2] at this
  exact Prod.ext this.1 this.2
 ·rintro rfl
  exact ⟨rfl, fun _ _ => ⟨rfl, rfl⟩⟩
/-- Two lists of slices, read as lists. -/
theorem rsamel_any (A B : Option Addr) (l m : List (Int × Int)) (c d : Nat) (hl : l.length ≤ 140737488355328) (w : World) (hr : Row2 w A l.length (fsts l) (snds l)) (hs : Row2 w B m.length (fsts m) (snds m)) :
  Calls Tryz.prog 20 #[.slice A l.length c, .slice B m.length d] w fun e w' => e = .returned (.bool (l == m)) ∧ Below w.heap.size w w' := by
 refine (rsames_any A B l.length m.length c d _ _ _ _ hl w hr hs).mono ?_
 rintro e w' ⟨rfl, hb⟩
 refine ⟨?_, hb⟩
 by_cases h : l = m
 ·rw [decide_eq_true (same2_lists.2 h), beq_iff_eq.2 h]
 ·rw [decide_eq_false (fun hh => h (same2_lists.1 hh)), beq_eq_false_iff_ne.2 h]
theorem eql_any (A B : Option Addr) (l m : List (Int × Int)) (c d : Nat) (hl : l.length ≤ 140737488355328) (w : World) (hr : Row2 w A l.length (fsts l) (snds l)) (hs : Row2 w B m.length (fsts m) (snds m)) :
  Calls Tryz.prog 49 #[.slice A l.length c, .slice B m.length d] w fun e w' => e = .returned (.bool (l == m)) ∧ Below w.heap.size w w' := by
 refine (eqs_any A B l.length m.length c d _ _ _ _ hl w hr hs).mono ?_
 rintro e w' ⟨rfl, hb⟩
 refine ⟨?_, hb⟩
 by_cases h : l = m
 ·rw [decide_eq_true (same2_lists.2 h), beq_iff_eq.2 h]
 ·rw [decide_eq_false (fun hh => h (same2_lists.1 hh)), beq_eq_false_iff_ne.2 h]
end Go.Proofs.YtdjlaiilngechaaGreatDoor
