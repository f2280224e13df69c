/- Texts laid together: Ahm. -/
import Derived.Test.YtdjhkhadjmndoaaGreatDoorQAgJ
namespace Go.Proofs.YtdjhkhadjmndoaaGreatDoor
set_option maxRecDepth 4000
set_option linter.unusedSimpArgs false
set_option linter.unusedVariables false
open Go.RowKit
def RmInv (legs : Nat → LLeg) (id : Int) (n : Nat) (W : World) (v5 v : Value) (wr : World) : Prop :=
  ∃ k : Nat, k ≤ n ∧ v = .int .i64 k ∧ v5 = .int .i64 (mvs legs id k) ∧ Below W.heap.size W wr
set_option maxHeartbeats 1000000 in
theorem rmoved_any (E : Array Value) (lA : Option Addr) (n c : Nat) (h8 : E[8]? = some (.slice lA n c)) (legs : Nat → LLeg) (id : Int) (hn : n ≤ 1000000) (w : World) (hr : RowLeg w lA n legs) :
    Calls Tryz.prog 64 #[.agg E, .int .i64 id] w fun e w' => e = .returned (.int .i64 (mvs legs id n)) ∧ Below w.heap.size w w' := by
  have HR := hide hr
  clear hr
  go_enter Tryz.func64, Tryz.ntmps64
  go_wp2_with fail
  go_loopw [5, 6] (fun v6 v wr => RmInv legs id n (w.alloc (.cells E 48)) v6 v wr) (fun _ v _ => n - (intOf v).toNat)
  case atStart => exact ⟨0, by omega, rfl, rfl, Below.refl _ _⟩
  case round =>
    obtain ⟨k, hk, rfl, rfl, hb⟩ := hrel
    have H0 := hide hb
    have H8 := hide h8
    have q1B : Below w.heap.size w wr := (by refine Below.trans ?_ (hb.mono (by first | omega | (simp <;> omega))); (repeat (first | (with_reducible first | exact Below.refl _ _ | assumption | refine Below.drew ?_) | ((with_reducible first | refine Below.alloc ?_ ?_ _ | refine Below.setCell ?_ ?_ _); rotate_left; (first | omega | (simp <;> omega))))))
    have q1z := hb.size
    try simp at q1z
    have q1t : w.heap.size ≤ wr.heap.size := (by omega)
    have q1s0 : w.heap.size < wr.heap.size := (by omega)
    have q1n0_0 : ¬ wr.heap.size = w.heap.size := (by omega)
    have q1n0_1 : ¬ wr.heap.size + 1 = w.heap.size := (by omega)
    have q1n0_2 : ¬ wr.heap.size + 2 = w.heap.size := (by omega)
    have q1c0_8 := hb.cell (p := ⟨w.heap.size, 8, none⟩) (by first | omega | (simp <;> omega))
    simp [go_sem, *] at q1c0_8
    have q1f0 := fun o => hb.frozen (p := ⟨w.heap.size, o, none⟩) (by first | omega | (simp <;> omega))
    simp [go_sem, *] at q1f0
    have q1o : ∀ b o, b < w.heap.size → wr.cell? ⟨b, o, none⟩ = w.cell? ⟨b, o, none⟩ := fun b o h => q1B.cell (p := ⟨b, o, none⟩) h
    clear hb
    clear h8
    by_cases hlt : k < n
    · have hm : (k : Int) < n := by omega
      obtain ⟨b, off, rfl, hbl, c0, c1, c2⟩ := (HR.out.below q1B).at hlt
      have HK := hide hlt
      have hk0 : (0 : Int) ≤ k := by omega
      by_cases he : (legs k).ac = id
      · have h1 : ((legs k).ac == id) = true := beq_iff_eq.2 he
        have HD := hide (show mvs legs id (k + 1) = wrap64 (mvs legs id k - (legs k).am) from if_pos he)
        clear he hlt hk
        go_wp2_with fail
        go_roundw
        case rel => exact ⟨k + 1, HK.out, by go_num, by rw [HD.out], H0.out⟩
        case measure => have := HK.out; simp [intOf]; omega
      · have h1 : ((legs k).ac == id) = false := beq_eq_false_iff_ne.2 he
        have HD := hide (show mvs legs id (k + 1) = mvs legs id k from if_neg he)
        clear he hlt hk
        go_wp2_with fail
        go_roundw
        case rel => exact ⟨k + 1, HK.out, by go_num, by rw [HD.out], H0.out⟩
        case measure => have := HK.out; simp [intOf]; omega
    · obtain rfl : k = n := by omega
      clear hlt hk
      go_wp2_with fail
      go_ret
      exact ⟨rfl, q1B⟩
def OfInv (E : Nat → LEnt) (id : Int) (n : Nat) (w : World) (v5 v : Value) (wr : World) : Prop :=
  ∃ k : Nat, k ≤ n ∧ v = .int .i64 k ∧ v5 = .int .i64 (sumE E id (fun _ => true) k) ∧ Below w.heap.size w wr
set_option maxHeartbeats 1000000 in
theorem rof_any (A : Option Addr) (n c : Nat) (E : Nat → LEnt) (id : Int) (hn : n ≤ 1000000) (w : World) (hj : Jrn w A n E) :
    Calls Tryz.prog 33 #[.slice A n c, .int .i64 id] w fun e w' => e = .returned (.int .i64 (sumE E id (fun _ => true) n)) ∧ Below w.heap.size w w' := by
  have HR := hide hj
  clear hj
  go_enter Tryz.func33, Tryz.ntmps33
  go_wp2_with fail
  go_loopw [5, 6] (fun v5 v wr => OfInv E id n w v5 v wr) (fun _ v _ => n - (intOf v).toNat)
  case atStart => exact ⟨0, by omega, rfl, rfl, Below.refl _ _⟩
  case round =>
    obtain ⟨k, hk, rfl, rfl, hb⟩ := hrel
    by_cases hlt : k < n
    · have hm : (k : Int) < n := by omega
      obtain ⟨b, off, rfl, hbl, c0, c1, c2, c3, c4, c5, c6, c7, c8, c9⟩ := (HR.out.below hb).row.at hlt
      have HK := hide hlt
      have hk0 : (0 : Int) ≤ k := by omega
      have HD := hide (show sumE E id (fun _ => true) (k + 1) = wrap64 (sumE E id (fun _ => true) k + mvE (E k) id) from if_pos rfl)
      clear hlt hk
      go_wp2_with fail
      refine (rmoved_any _ (E k).lA (E k).ln (E k).lc rfl (E k).legs id (HR.out.legs k HK.out) _ ((HR.out.below hb).row.2 k HK.out)).mono ?_
      rintro e w1 ⟨rfl, hb1⟩
      go_wp2_with fail
      go_roundw
      case rel => exact ⟨k + 1, HK.out, by go_num, by rw [HD.out]; rfl, hb.trans (hb1.mono hb.size)⟩
      case measure => have := HK.out; simp [intOf]; omega
    · obtain rfl : k = n := by omega
      clear hlt hk
      go_wp2_with fail
      go_ret
      exact ⟨rfl, hb⟩
set_option maxHeartbeats 2000000 in
theorem rtotal_any (A : Option Addr) (n c : Nat) (h : Nat → LHl) (id day : Int) (hn : n ≤ 1000000) (w : World) (hr : RowHld w A n h) :
    Calls Tryz.prog 34 #[.slice A n c, .int .i64 id, .int .i64 day] w fun e w' => e = .returned (.int .i64 (hsm h id day n)) ∧ Below w.heap.size w w' := by
  have HR := hide hr
  clear hr
  go_enter Tryz.func34, Tryz.ntmps34
  go_wp2_with fail
  go_loopw [7, 8] (fun v7 v wr => HsI h id day n w v7 v wr) (fun _ v _ => n - (intOf v).toNat)
  case atStart => exact ⟨0, by omega, rfl, rfl, by (repeat (first | (with_reducible first | exact Below.refl _ _ | assumption | refine Below.drew ?_) | ((with_reducible first | refine Below.alloc ?_ ?_ _ | refine Below.setCell ?_ ?_ _); rotate_left; (first | omega | (simp <;> omega)))))⟩
  case round =>
    obtain ⟨k, hk, rfl, rfl, hb⟩ := hrel
    by_cases hlt : k < n
    · have hm : (k : Int) < n := by omega
      have hk0 : (0 : Int) ≤ k := by omega
      have HK := hide hlt
      have zr := hb.size
      obtain ⟨b, off, rfl, hbl, c0, c1, c2, c3, c4, c5⟩ := (HR.out.below hb).at hlt
      clear hlt hk
      by_cases g1 : (h k).ac = id
      · have d1 : ((h k).ac == id) = true := beq_iff_eq.2 g1
        by_cases g2 : (h k).fr ≤ day
        · have d2 : decide ((h k).fr ≤ day) = true := decide_eq_true g2
          by_cases g3 : day ≤ (h k).to
          · have d3 : decide (day ≤ (h k).to) = true := decide_eq_true g3
            have HD := hide (show hsm h id day (k + 1) = wrap64 (hsm h id day k + (h k).am) from if_pos ⟨g1, g2, g3⟩)
            clear g1
            go_wp2_with fail
            go_roundw
            case rel => exact ⟨k + 1, HK.out, by go_num, by rw [HD.out], hb.trans (by (repeat (first | (with_reducible first | exact Below.refl _ _ | assumption | refine Below.drew ?_) | ((with_reducible first | refine Below.alloc ?_ ?_ _ | refine Below.setCell ?_ ?_ _); rotate_left; (first | omega | (simp <;> omega))))))⟩
            case measure => have := HK.out; simp [intOf]; omega
          · have d3 : decide (day ≤ (h k).to) = false := decide_eq_false g3
            have HD := hide (show hsm h id day (k + 1) = hsm h id day k from if_neg (fun hh => g3 hh.2.2))
            have g4 := Int.not_le.1 g3
            clear g1 g3
            go_wp2_with fail
            go_roundw
            case rel => exact ⟨k + 1, HK.out, by go_num, by rw [HD.out], hb.trans (by (repeat (first | (with_reducible first | exact Below.refl _ _ | assumption | refine Below.drew ?_) | ((with_reducible first | refine Below.alloc ?_ ?_ _ | refine Below.setCell ?_ ?_ _); rotate_left; (first | omega | (simp <;> omega))))))⟩
            case measure => have := HK.out; simp [intOf]; omega
        · have d2 : decide ((h k).fr ≤ day) = false := decide_eq_false g2
          have HD := hide (show hsm h id day (k + 1) = hsm h id day k from if_neg (fun hh => g2 hh.2.1))
          have g4 := Int.not_le.1 g2
          clear g1 g2
          go_wp2_with fail
          go_roundw
          case rel => exact ⟨k + 1, HK.out, by go_num, by rw [HD.out], hb.trans (by (repeat (first | (with_reducible first | exact Below.refl _ _ | assumption | refine Below.drew ?_) | ((with_reducible first | refine Below.alloc ?_ ?_ _ | refine Below.setCell ?_ ?_ _); rotate_left; (first | omega | (simp <;> omega))))))⟩
          case measure => have := HK.out; simp [intOf]; omega
      · have d1 : ((h k).ac == id) = false := beq_eq_false_iff_ne.2 g1
        have HD := hide (show hsm h id day (k + 1) = hsm h id day k from if_neg (fun hh => g1 hh.1))
        clear g1
        go_wp2_with fail
        go_roundw
        case rel => exact ⟨k + 1, HK.out, by go_num, by rw [HD.out], hb.trans (by (repeat (first | (with_reducible first | exact Below.refl _ _ | assumption | refine Below.drew ?_) | ((with_reducible first | refine Below.alloc ?_ ?_ _ | refine Below.setCell ?_ ?_ _); rotate_left; (first | omega | (simp <;> omega))))))⟩
        case measure => have := HK.out; simp [intOf]; omega
    · obtain rfl : k = n := by omega
      clear hlt hk
      go_wp2_with fail
      go_ret
      exact ⟨rfl, hb⟩
end Go.Proofs.YtdjhkhadjmndoaaGreatDoor
