/- Texts laid together: ExU ExV. -/
import Derived.Test.YtdjlaiilngechaaGreatDoorXExG
import Derived.Test.YtdjlaiilngechaaGreatDoorXK0
namespace Go.Proofs.YtdjlaiilngechaaGreatDoor
set_option maxRecDepth 4000
set_option linter.unusedSimpArgs false
set_option linter.unusedVariables false
open Go.RowKit
def eqLn (a b : Lin) : Bool := (a.fr == b.fr) && (a.tt == b.tt) && (a.bl == b.bl) && (a.we == b.we) && (hiW a.gr == hiW b.gr) && (loW a.gr == loW b.gr) && (a.sl == b.sl)
theorem eqLn_iff {a b : Lin} : eqLn a b = true ↔ a.fr = b.fr ∧ a.tt = b.tt ∧ a.bl = b.bl ∧ a.we = b.we ∧ a.gr = b.gr ∧ a.sl = b.sl := by
 unfold eqLn
 simp only [Bool.and_eq_true, beq_iff_eq]
 constructor
 ·rintro ⟨⟨⟨⟨⟨⟨h1, h2⟩, h3⟩, h4⟩, h5⟩, h6⟩, h7⟩
  exact ⟨h1, h2, h3, h4, hi_inj h5 h6, h7⟩
 ·rintro ⟨h1, h2, h3, h4, h5, h6⟩
  exact ⟨⟨⟨⟨⟨⟨h1, h2⟩, h3⟩, h4⟩, by rw [h5]⟩, by rw [h5]⟩, h6⟩
theorem eqLn_eq {a b : Lin} : eqLn a b = true ↔ a = b := by
 rw [eqLn_iff]
 cases a; cases b
 simp only [Lin.mk.injEq]
 constructor
 ·rintro ⟨h1, h2, h3, h4, h5, h6⟩; exact ⟨h1, h2, h3, h4, h6, h5⟩
 ·rintro ⟨h1, h2, h3, h4, h5, h6⟩; exact ⟨h1, h2, h3, h4, h6, h5⟩
set_option maxHeartbeats 4000000 in
theorem same_any (a b : Lin) (A B : Option Addr) (c d : Nat) (hl : a.sl.length ≤ 140737488355328) (w : World) (hr : Row2 w A a.sl.length (fsts a.sl) (snds a.sl)) (hs : Row2 w B b.sl.length (fsts b.sl) (snds b.sl)) :
  Calls Tryz.prog 40 #[LinV a A c, LinV b B d] w fun e w' => e = .returned (.bool (eqLn a b)) ∧ Below w.heap.size w w' := by
 have HE := hide (show eqLn a b = ((a.fr == b.fr) && (a.tt == b.tt) && (a.bl == b.bl) && (a.we == b.we) && (hiW a.gr == hiW b.gr) && (loW a.gr == loW b.gr) && (a.sl == b.sl)) from rfl)
 have HR := hide (And.intro hr hs)
 clear hr hs
 cases h0 : (a.fr == b.fr) with
 | false =>
  have HV := hide (show eqLn a b = false from by rw [HE.out]; simp only [h0]; simp)
  go_enter Tryz.func40, Tryz.ntmps40
  go_wp2_with fail
  refine bodyPost_ret (by simp [results, Tryz.results40, go_sem, *] <;> rfl) rfl ⟨?_, ?_⟩
  ·rw [HV.out]
  (repeat (first | (with_reducible first | exact Below.refl _ _ | assumption | refine Below.drew ?_) | ((with_reducible first | refine Below.alloc ?_ ?_ _ | refine Below.setCell ?_ ?_ _); rotate_left; (first | omega | (simp <;> omega)))))
 | true =>
  cases h1 : (a.tt == b.tt) with
  | false =>
   have HV := hide (show eqLn a b = false from by rw [HE.out]; simp only [h0, h1]; simp)
   go_enter Tryz.func40, Tryz.ntmps40
   go_wp2_with fail
   refine bodyPost_ret (by simp [results, Tryz.results40, go_sem, *] <;> rfl) rfl ⟨?_, ?_⟩
   ·rw [HV.out]
   (repeat (first | (with_reducible first | exact Below.refl _ _ | assumption | refine Below.drew ?_) | ((with_reducible first | refine Below.alloc ?_ ?_ _ | refine Below.setCell ?_ ?_ _); rotate_left; (first | omega | (simp <;> omega)))))
  | true =>
   cases h2 : (a.bl == b.bl) with
   | false =>
    have HV := hide (show eqLn a b = false from by rw [HE.out]; simp only [h0, h1, h2]; simp)
    go_enter Tryz.func40, Tryz.ntmps40
    go_wp2_with fail
    refine bodyPost_ret (by simp [results, Tryz.results40, go_sem, *] <;> rfl) rfl ⟨?_, ?_⟩
    ·rw [HV.out]
    (repeat (first | (with_reducible first | exact Below.refl _ _ | assumption | refine Below.drew ?_) | ((with_reducible first | refine Below.alloc ?_ ?_ _ | refine Below.setCell ?_ ?_ _); rotate_left; (first | omega | (simp <;> omega)))))
   | true =>
    cases h3 : (a.we == b.we) with
    | false =>
     have HV := hide (show eqLn a b = false from by rw [HE.out]; simp only [h0, h1, h2, h3]; simp)
     go_enter Tryz.func40, Tryz.ntmps40
     go_wp2_with fail
     refine bodyPost_ret (by simp [results, Tryz.results40, go_sem, *] <;> rfl) rfl ⟨?_, ?_⟩
     ·rw [HV.out]
     (repeat (first | (with_reducible first | exact Below.refl _ _ | assumption | refine Below.drew ?_) | ((with_reducible first | refine Below.alloc ?_ ?_ _ | refine Below.setCell ?_ ?_ _); rotate_left; (first | omega | (simp <;> omega)))))
    | true =>
     cases h4 : (hiW a.gr == hiW b.gr) with
     | false =>
      have HV := hide (show eqLn a b = false from by rw [HE.out]; simp only [h0, h1, h2, h3, h4]; simp)
      have g4 : hiW a.gr = hiW b.gr → ¬ loW a.gr = loW b.gr := fun e => absurd e (beq_eq_false_iff_ne.1 h4)
      go_enter Tryz.func40, Tryz.ntmps40
      go_wp2_with fail
      refine bodyPost_ret (by simp [results, Tryz.results40, go_sem, *] <;> rfl) rfl ⟨?_, ?_⟩
      ·rw [HV.out]
      (repeat (first | (with_reducible first | exact Below.refl _ _ | assumption | refine Below.drew ?_) | ((with_reducible first | refine Below.alloc ?_ ?_ _ | refine Below.setCell ?_ ?_ _); rotate_left; (first | omega | (simp <;> omega)))))
     | true =>
      cases h5 : (loW a.gr == loW b.gr) with
      | false =>
       have HV := hide (show eqLn a b = false from by rw [HE.out]; simp only [h0, h1, h2, h3, h4, h5]; simp)
       have g5 : hiW a.gr = hiW b.gr → ¬ loW a.gr = loW b.gr := fun _ => beq_eq_false_iff_ne.1 h5
       go_enter Tryz.func40, Tryz.ntmps40
       go_wp2_with fail
       refine bodyPost_ret (by simp [results, Tryz.results40, go_sem, *] <;> rfl) rfl ⟨?_, ?_⟩
       ·rw [HV.out]
       (repeat (first | (with_reducible first | exact Below.refl _ _ | assumption | refine Below.drew ?_) | ((with_reducible first | refine Below.alloc ?_ ?_ _ | refine Below.setCell ?_ ?_ _); rotate_left; (first | omega | (simp <;> omega)))))
      | true =>
       have HV := hide (show eqLn a b = (a.sl == b.sl) from by rw [HE.out]; simp only [h0, h1, h2, h3, h4, h5]; simp)
       go_enter Tryz.func40, Tryz.ntmps40
       go_wp2_with fail
       refine (eql_any A B a.sl b.sl c d hl _ (HR.out.1.below belT) (HR.out.2.below belT)).mono ?_
       rintro e w1 ⟨rfl, hb⟩
       have q1B : Below w.heap.size w w1 := qB hb
       have q1z := hb.size
       try simp at q1z
       have q1t : w.heap.size ≤ w1.heap.size := (by omega)
       have q1o := belO q1B
       clear hb
       go_wp2_with fail
       refine bodyPost_ret (by simp [results, Tryz.results40, go_sem, *] <;> rfl) rfl ⟨?_, ?_⟩
       ·rw [HV.out]
       (repeat (first | (with_reducible first | exact Below.refl _ _ | assumption | refine Below.drew ?_) | ((with_reducible first | refine Below.alloc ?_ ?_ _ | refine Below.setCell ?_ ?_ _); rotate_left; (first | omega | (simp <;> omega)))))
set_option maxHeartbeats 4000000 in
theorem requal_any (a b : Lin) (A B : Option Addr) (c d : Nat) (hl : a.sl.length ≤ 140737488355328) (w : World) (hr : Row2 w A a.sl.length (fsts a.sl) (snds a.sl)) (hs : Row2 w B b.sl.length (fsts b.sl) (snds b.sl)) :
  Calls Tryz.prog 32 #[LinV a A c, LinV b B d] w fun e w' => e = .returned (.bool (eqLn a b)) ∧ Below w.heap.size w w' := by
 have HE := hide (show eqLn a b = ((a.fr == b.fr) && (a.tt == b.tt) && (a.bl == b.bl) && (a.we == b.we) && (hiW a.gr == hiW b.gr) && (loW a.gr == loW b.gr) && (a.sl == b.sl)) from rfl)
 have HR := hide (And.intro hr hs)
 clear hr hs
 cases h0 : (a.fr == b.fr) with
 | false =>
  have HV := hide (show eqLn a b = false from by rw [HE.out]; simp only [h0]; simp)
  go_enter Tryz.func32, Tryz.ntmps32
  go_wp2_with fail
  refine bodyPost_ret (by simp [results, Tryz.results32, go_sem, *] <;> rfl) rfl ⟨?_, ?_⟩
  ·rw [HV.out]
  (repeat (first | (with_reducible first | exact Below.refl _ _ | assumption | refine Below.drew ?_) | ((with_reducible first | refine Below.alloc ?_ ?_ _ | refine Below.setCell ?_ ?_ _); rotate_left; (first | omega | (simp <;> omega)))))
 | true =>
  cases h1 : (a.tt == b.tt) with
  | false =>
   have HV := hide (show eqLn a b = false from by rw [HE.out]; simp only [h0, h1]; simp)
   go_enter Tryz.func32, Tryz.ntmps32
   go_wp2_with fail
   refine bodyPost_ret (by simp [results, Tryz.results32, go_sem, *] <;> rfl) rfl ⟨?_, ?_⟩
   ·rw [HV.out]
   (repeat (first | (with_reducible first | exact Below.refl _ _ | assumption | refine Below.drew ?_) | ((with_reducible first | refine Below.alloc ?_ ?_ _ | refine Below.setCell ?_ ?_ _); rotate_left; (first | omega | (simp <;> omega)))))
  | true =>
   cases h2 : (a.bl == b.bl) with
   | false =>
    have HV := hide (show eqLn a b = false from by rw [HE.out]; simp only [h0, h1, h2]; simp)
    go_enter Tryz.func32, Tryz.ntmps32
    go_wp2_with fail
    refine bodyPost_ret (by simp [results, Tryz.results32, go_sem, *] <;> rfl) rfl ⟨?_, ?_⟩
    ·rw [HV.out]
    (repeat (first | (with_reducible first | exact Below.refl _ _ | assumption | refine Below.drew ?_) | ((with_reducible first | refine Below.alloc ?_ ?_ _ | refine Below.setCell ?_ ?_ _); rotate_left; (first | omega | (simp <;> omega)))))
   | true =>
    cases h3 : (a.we == b.we) with
    | false =>
     have HV := hide (show eqLn a b = false from by rw [HE.out]; simp only [h0, h1, h2, h3]; simp)
     go_enter Tryz.func32, Tryz.ntmps32
     go_wp2_with fail
     refine bodyPost_ret (by simp [results, Tryz.results32, go_sem, *] <;> rfl) rfl ⟨?_, ?_⟩
     ·rw [HV.out]
     (repeat (first | (with_reducible first | exact Below.refl _ _ | assumption | refine Below.drew ?_) | ((with_reducible first | refine Below.alloc ?_ ?_ _ | refine Below.setCell ?_ ?_ _); rotate_left; (first | omega | (simp <;> omega)))))
    | true =>
     cases h4 : (hiW a.gr == hiW b.gr) with
     | false =>
      have HV := hide (show eqLn a b = false from by rw [HE.out]; simp only [h0, h1, h2, h3, h4]; simp)
      have g4 : hiW a.gr = hiW b.gr → ¬ loW a.gr = loW b.gr := fun e => absurd e (beq_eq_false_iff_ne.1 h4)
      go_enter Tryz.func32, Tryz.ntmps32
      go_wp2_with fail
      refine bodyPost_ret (by simp [results, Tryz.results32, go_sem, *] <;> rfl) rfl ⟨?_, ?_⟩
      ·rw [HV.out]
      (repeat (first | (with_reducible first | exact Below.refl _ _ | assumption | refine Below.drew ?_) | ((with_reducible first | refine Below.alloc ?_ ?_ _ | refine Below.setCell ?_ ?_ _); rotate_left; (first | omega | (simp <;> omega)))))
     | true =>
      cases h5 : (loW a.gr == loW b.gr) with
      | false =>
       have HV := hide (show eqLn a b = false from by rw [HE.out]; simp only [h0, h1, h2, h3, h4, h5]; simp)
       have g5 : hiW a.gr = hiW b.gr → ¬ loW a.gr = loW b.gr := fun _ => beq_eq_false_iff_ne.1 h5
       go_enter Tryz.func32, Tryz.ntmps32
       go_wp2_with fail
       refine bodyPost_ret (by simp [results, Tryz.results32, go_sem, *] <;> rfl) rfl ⟨?_, ?_⟩
       ·rw [HV.out]
       (repeat (first | (with_reducible first | exact Below.refl _ _ | assumption | refine Below.drew ?_) | ((with_reducible first | refine Below.alloc ?_ ?_ _ | refine Below.setCell ?_ ?_ _); rotate_left; (first | omega | (simp <;> omega)))))
      | true =>
       have HV := hide (show eqLn a b = (a.sl == b.sl) from by rw [HE.out]; simp only [h0, h1, h2, h3, h4, h5]; simp)
       go_enter Tryz.func32, Tryz.ntmps32
       go_wp2_with fail
       refine (rsamel_any A B a.sl b.sl c d hl _ (HR.out.1.below belT) (HR.out.2.below belT)).mono ?_
       rintro e w1 ⟨rfl, hb⟩
       have q1B : Below w.heap.size w w1 := qB hb
       have q1z := hb.size
       try simp at q1z
       have q1t : w.heap.size ≤ w1.heap.size := (by omega)
       have q1o := belO q1B
       clear hb
       go_wp2_with fail
       refine bodyPost_ret (by simp [results, Tryz.results32, go_sem, *] <;> rfl) rfl ⟨?_, ?_⟩
       ·rw [HV.out]
       (repeat (first | (with_reducible first | exact Below.refl _ _ | assumption | refine Below.drew ?_) | ((with_reducible first | refine Below.alloc ?_ ?_ _ | refine Below.setCell ?_ ?_ _); rotate_left; (first | omega | (simp <;> omega)))))
end Go.Proofs.YtdjlaiilngechaaGreatDoor
namespace Go.Proofs.YtdjlaiilngechaaGreatDoor
set_option maxRecDepth 4000
set_option linter.unusedSimpArgs false
set_option linter.unusedVariables false
open Go.RowKit
def sameX (n m : Nat) (x y : Nat → LnR) : Prop := n = m ∧ ∀ k, k < n → eqLn (x k).1 (y k).1 = true
instance (n m : Nat) (x y : Nat → LnR) : Decidable (sameX n m x y) := by unfold sameX; exact inferInstance
def SameXI (x y : Nat → LnR) (n : Nat) (w : World) (v : Value) (wr : World) : Prop :=
 ∃ k : Nat, k ≤ n ∧ v = .int .i64 k ∧ (∀ j, j < k → eqLn (x j).1 (y j).1 = true) ∧ Below w.heap.size w wr
theorem same_any' {A B : Option Addr} {n m k : Nat} {x y : Nat → LnR} {w : World} (hx : ∀ k, k < n → (x k).1.sl.length ≤ 140737488355328) (hr : RowLn w A n x) (hs : RowLn w B m y) (hk : k < n) (hk2 : k < m) (W : World) (hw : Below w.heap.size w W) :
  Calls Tryz.prog 32 #[LinV (x k).1 (x k).2.1 (x k).2.2, LinV (y k).1 (y k).2.1 (y k).2.2] W fun e w' => e = .returned (.bool (eqLn (x k).1 (y k).1)) ∧ Below W.heap.size W w' :=
 requal_any _ _ _ _ _ _ (hx k hk) W ((hr.sl k hk).below hw) ((hs.sl k hk2).below hw)
set_option maxHeartbeats 4000000 in
theorem rsameX_any (A B : Option Addr) (n m c d : Nat) (x y : Nat → LnR) (hn : n ≤ 1000000) (hx : ∀ k, k < n → (x k).1.sl.length ≤ 140737488355328) (w : World) (hr : RowLn w A n x) (hs : RowLn w B m y) :
  Calls Tryz.prog 10 #[.slice A n c, .slice B m d] w fun e w' => e = .returned (.bool (decide (sameX n m x y))) ∧ Below w.heap.size w w' := by
 by_cases hnm : n = m
 ·subst hnm
  have HR := hide (And.intro hr hs)
  clear hr hs
  go_enter Tryz.func10, Tryz.ntmps10
  go_wp2_with fail
  go_loopw [5] (fun v wr => SameXI x y n w v wr) (fun v _ => n - (intOf v).toNat)
  case atStart => exact ⟨0, by omega, rfl, fun j hj => by omega, by (repeat (first | (with_reducible first | exact Below.refl _ _ | assumption | refine Below.drew ?_) | ((with_reducible first | refine Below.alloc ?_ ?_ _ | refine Below.setCell ?_ ?_ _); rotate_left; (first | omega | (simp <;> omega)))))⟩
  case round =>
   obtain ⟨k, hk, rfl, ha, hB⟩ := hrel
   have HA := hide ha
   clear ha
   have hzB := hB.size
   by_cases hlt : k < n
   ·obtain ⟨b1, o1, rfl, hb1, c0, c1, c2, c3, c4, c5, c6⟩ := (HR.out.1.below hB).at hlt
    obtain ⟨b2, o2, rfl, hb2, d0, d1, d2, d3, d4, d5, d6⟩ := (HR.out.2.below hB).at hlt
    have hm1 : (k : Int) < n := by omega
    have hm3 : (0 : Int) ≤ (k : Int) := by omega
    have HK := hide hlt
    have HCL := hide (fun (W : World) (hw : Below w.heap.size w W) => same_any' hx HR.out.1 HR.out.2 hlt hlt W hw)
    clear hlt hk
    cases he : eqLn (x k).1 (y k).1 with
    | true =>
     have HD : Hid (∀ j, j < k + 1 → eqLn (x j).1 (y j).1 = true) := fun j hj => by
      rcases Nat.lt_or_ge j k with h1 | h1
      ·exact HA.out j h1
      ·obtain rfl : j = k := by omega
       exact he
     have HE := hide he
     clear he
     go_wp2_with fail
     refine wp_region_seq (SB (wr.heap.size) [] _) [true, true, true, true, true, true, true, true, false, true] (by kernel_rfl) (by kernel_rfl) rfl (by kernel_rfl) (fun _ _ d _ _ h => by cases d <;> exact h) SB.refl.drew (fun hHeld => ?_)
     refine seq_take ?_ (by rfl) (fun wx hSx => ?_) ?_
     rotate_left
     ·(unfold SB at hSx; go_simp; (try with_reducible rfl))
     (try simp only [Act.put, putS])
     refine seq_take ?_ (by rfl) (fun wx hSx => ?_) ?_
     rotate_left
     ·(unfold SB at hSx; go_simp; (try with_reducible rfl))
     (try simp only [Act.put, putS])
     refine seq_take ?_ (by rfl) (fun wx hSx => ?_) ?_
     rotate_left
     ·(unfold SB at hSx; go_simp; (try with_reducible rfl))
     (try simp only [Act.put, putS])
     refine seq_take ?_ (by rfl) (fun wx hSx => ?_) ?_
     rotate_left
     ·(unfold SB at hSx; go_simp; (try with_reducible rfl))
     (try simp only [Act.put, putS])
     refine seq_take ?_ (by rfl) (fun wx hSx => ?_) ?_
     rotate_left
     ·(unfold SB at hSx; go_simp; (try with_reducible rfl))
     (try simp only [Act.put, putS])
     refine seq_take ?_ (by rfl) (fun wx hSx => ?_) ?_
     rotate_left
     ·(unfold SB at hSx; go_simp; (try with_reducible rfl))
     (try simp only [Act.put, putS])
     refine seq_take ?_ (by rfl) (fun wx hSx => ?_) ?_
     rotate_left
     ·(unfold SB at hSx; go_simp; (try with_reducible rfl))
     (try simp only [Act.put, putS])
     refine seq_take ?_ (by rfl) (fun wx hSx => ?_) ?_
     rotate_left
     ·(unfold SB at hSx; go_simp; (try with_reducible rfl))
     (try simp only [Act.put, putS])
     refine seq_run (by rfl) (fun K hK => ?_)
     go_simp
     go_wp2_with (go_at_call 32; refine (HCL.out _ (hB.trans belT)).mono ?_; rintro e w1 ⟨rfl, hb⟩; rw [HE.out]; have q1B : Below wr.heap.size wr w1 := qB hb; have q1z := hb.size; (try simp at q1z); have q1t : wr.heap.size ≤ w1.heap.size := (by omega); have q1o := belO q1B; have hbS := hb; have hbS1 := hb; clear hb)
     refine hK.out _ _ ?_ (fun hHeld => ?_)
     ·exact sbT
     clear hK K
     (try simp only [Act.put, putS])
     refine seq_take ?_ (by rfl) (fun wx hSx => ?_) ?_
     rotate_left
     ·(unfold SB at hSx; go_simp; (try with_reducible rfl))
     (try simp only [Act.put, putS])
     refine seq_end ?_
     go_wp2_with fail
     go_roundw
     case rel => exact ⟨k + 1, HK.out, by go_num, HD.out, by refine hB.trans (Below.trans (q1B.mono (by omega)) ?_); (repeat (first | (with_reducible first | exact Below.refl _ _ | assumption | refine Below.drew ?_) | ((with_reducible first | refine Below.alloc ?_ ?_ _ | refine Below.setCell ?_ ?_ _); rotate_left; (first | omega | (simp <;> omega)))))⟩
     case measure => have := HK.out; simp [intOf]; omega
    | false =>
     have HD := hide (show decide (sameX n n x y) = false from decide_eq_false (fun h => by have := h.2 k HK.out; rw [he] at this; cases this))
     have HE := hide he
     clear he
     go_wp2_with fail
     refine wp_region_seq (SB (wr.heap.size) [] _) [true, true, true, true, true, true, true, true, false, true] (by kernel_rfl) (by kernel_rfl) rfl (by kernel_rfl) (fun _ _ d _ _ h => by cases d <;> exact h) SB.refl.drew (fun hHeld => ?_)
     refine seq_take ?_ (by rfl) (fun wx hSx => ?_) ?_
     rotate_left
     ·(unfold SB at hSx; go_simp; (try with_reducible rfl))
     (try simp only [Act.put, putS])
     refine seq_take ?_ (by rfl) (fun wx hSx => ?_) ?_
     rotate_left
     ·(unfold SB at hSx; go_simp; (try with_reducible rfl))
     (try simp only [Act.put, putS])
     refine seq_take ?_ (by rfl) (fun wx hSx => ?_) ?_
     rotate_left
     ·(unfold SB at hSx; go_simp; (try with_reducible rfl))
     (try simp only [Act.put, putS])
     refine seq_take ?_ (by rfl) (fun wx hSx => ?_) ?_
     rotate_left
     ·(unfold SB at hSx; go_simp; (try with_reducible rfl))
     (try simp only [Act.put, putS])
     refine seq_take ?_ (by rfl) (fun wx hSx => ?_) ?_
     rotate_left
     ·(unfold SB at hSx; go_simp; (try with_reducible rfl))
     (try simp only [Act.put, putS])
     refine seq_take ?_ (by rfl) (fun wx hSx => ?_) ?_
     rotate_left
     ·(unfold SB at hSx; go_simp; (try with_reducible rfl))
     (try simp only [Act.put, putS])
     refine seq_take ?_ (by rfl) (fun wx hSx => ?_) ?_
     rotate_left
     ·(unfold SB at hSx; go_simp; (try with_reducible rfl))
     (try simp only [Act.put, putS])
     refine seq_take ?_ (by rfl) (fun wx hSx => ?_) ?_
     rotate_left
     ·(unfold SB at hSx; go_simp; (try with_reducible rfl))
     (try simp only [Act.put, putS])
     refine seq_run (by rfl) (fun K hK => ?_)
     go_simp
     go_wp2_with (go_at_call 32; refine (HCL.out _ (hB.trans belT)).mono ?_; rintro e w1 ⟨rfl, hb⟩; rw [HE.out]; have q1B : Below wr.heap.size wr w1 := qB hb; have q1z := hb.size; (try simp at q1z); have q1t : wr.heap.size ≤ w1.heap.size := (by omega); have q1o := belO q1B; have hbS := hb; have hbS1 := hb; clear hb)
     refine hK.out _ _ ?_ (fun hHeld => ?_)
     ·exact sbT
     clear hK K
     (try simp only [Act.put, putS])
     refine seq_take ?_ (by rfl) (fun wx hSx => ?_) ?_
     rotate_left
     ·(unfold SB at hSx; go_simp; (try with_reducible rfl))
     (try simp only [Act.put, putS])
     refine seq_end ?_
     go_wp2_with fail
     go_ret
     exact ⟨by rw [HD.out]; rfl, by refine hB.trans (Below.trans (q1B.mono (by omega)) ?_); (repeat (first | (with_reducible first | exact Below.refl _ _ | assumption | refine Below.drew ?_) | ((with_reducible first | refine Below.alloc ?_ ?_ _ | refine Below.setCell ?_ ?_ _); rotate_left; (first | omega | (simp <;> omega)))))⟩
   ·have hkn : k = n := by omega
    subst hkn
    have HD := hide (show decide (sameX k k x y) = true from decide_eq_true ⟨rfl, HA.out⟩)
    go_wp2_with fail
    go_ret
    exact ⟨by rw [HD.out]; rfl, by refine hB.trans ?_; (repeat (first | (with_reducible first | exact Below.refl _ _ | assumption | refine Below.drew ?_) | ((with_reducible first | refine Below.alloc ?_ ?_ _ | refine Below.setCell ?_ ?_ _); rotate_left; (first | omega | (simp <;> omega)))))⟩
 ·have HD := hide (show decide (sameX n m x y) = false from decide_eq_false (fun h => hnm h.1))
  have hnm2 : ¬ (n : Int) = (m : Int) := by omega
  go_enter Tryz.func10, Tryz.ntmps10
  go_wp2_with fail
  go_ret
  exact ⟨by rw [HD.out]; rfl, by (repeat (first | (with_reducible first | exact Below.refl _ _ | assumption | refine Below.drew ?_) | ((with_reducible first | refine Below.alloc ?_ ?_ _ | refine Below.setCell ?_ ?_ _); rotate_left; (first | omega | (simp <;> omega)))))⟩
end Go.Proofs.YtdjlaiilngechaaGreatDoor
