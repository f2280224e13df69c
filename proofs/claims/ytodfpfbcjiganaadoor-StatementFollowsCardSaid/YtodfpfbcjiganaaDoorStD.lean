/- R21.moved, R21.Of, R45.moves, R45.before. -/
import Derived.Test.YtodfpfbcjiganaaDoorStC
import Derived.Test.YtodfpfbcjiganaaDoorLst
namespace Go.Proofs.YtodfpfbcjiganaaDoor
set_option linter.unusedSimpArgs false
set_option linter.unusedVariables false
open Go.RowKit

def RmInv (legs : Nat → LLeg) (id : Int) (n : Nat) (W : World) (v5 v : Value) (wr : World) : Prop :=
  ∃ k : Nat, k ≤ n ∧ v = .int .i64 k ∧ v5 = .int .i64 (mvs legs id k) ∧ Below W.heap.size W wr
set_option maxHeartbeats 1000000 in
theorem rmoved_any (E : Array Value) (lA : Option Addr) (n c : Nat) (h8 : E[8]? = some (.slice lA n c)) (legs : Nat → LLeg) (id : Int) (hn : n ≤ 1000000) (w : World) (hr : RowLeg w lA n legs) :
    Calls Tryd.prog 42 #[.agg E, .int .i64 id] w fun e w' => e = .returned (.int .i64 (mvs legs id n)) ∧ Below w.heap.size w w' := by
  have HR := hide hr
  clear hr
  go_enter Tryd.func42, Tryd.ntmps42
  go_wp2_with fail
  go_loopw [5, 6] (fun v6 v wr => RmInv legs id n (w.alloc (.cells E 54)) v6 v wr) (fun _ v _ => n - (intOf v).toNat)
  case atStart => exact ⟨0, by omega, rfl, rfl, Below.refl _ _⟩
  case round =>
    obtain ⟨k, hk, rfl, rfl, hb⟩ := hrel
    have H0 := hide hb
    have H8 := hide h8
    have q1B : Below w.heap.size w wr := (by refine Below.trans ?_ (hb.mono (by first | omega | (simp <;> omega))); (repeat (first | (with_reducible exact Below.refl _ _) | (with_reducible assumption) | ((with_reducible refine Below.alloc ?_ ?_ _); (rotate_left); (first | omega | (simp <;> omega))) | ((with_reducible refine Below.setCell ?_ ?_ _); (rotate_left); (first | omega | (simp <;> omega))) | (with_reducible refine Below.drew ?_) | (with_reducible refine below_drewN ?_ _))))
    have q1z := hb.size
    try simp at q1z
    have q1t : w.heap.size ≤ wr.heap.size := (by omega)
    have q1s0 : w.heap.size < wr.heap.size := (by omega)
    have q1n0_0 : ¬ wr.heap.size = w.heap.size := (by omega)
    have q1n0_1 : ¬ wr.heap.size + 1 = w.heap.size := (by omega)
    have q1n0_2 : ¬ wr.heap.size + 2 = w.heap.size := (by omega)
    have q1c0_8 := hb.cell (p := ⟨w.heap.size, 8, none⟩) (by first | omega | (simp <;> omega))
    simp [go_sem, *] at q1c0_8
    have q1f0 := fun o => hb.frozen (p := ⟨w.heap.size, o, none⟩) (by first | omega | (simp <;> omega))
    simp [go_sem, *] at q1f0
    have q1o : ∀ b o, b < w.heap.size → wr.cell? ⟨b, o, none⟩ = w.cell? ⟨b, o, none⟩ := fun b o h => q1B.cell (p := ⟨b, o, none⟩) h
    clear hb
    clear h8
    by_cases hlt : k < n
    · have hm : (k : Int) < n := by omega
      obtain ⟨b, off, rfl, hbl, c0, c1, c2⟩ := (HR.out.below q1B).at hlt
      have HK := hide hlt
      have hk0 : (0 : Int) ≤ k := by omega
      by_cases he : (legs k).ac = id
      · have h1 : ((legs k).ac == id) = true := beq_iff_eq.2 he
        have HD := hide (show mvs legs id (k + 1) = wrap64 (mvs legs id k - (legs k).am) from if_pos he)
        clear he hlt hk
        go_wp2_with fail
        go_roundw
        case rel => exact ⟨k + 1, HK.out, by go_num, by rw [HD.out], H0.out⟩
        case measure => have := HK.out; simp [intOf]; omega
      · have h1 : ((legs k).ac == id) = false := beq_eq_false_iff_ne.2 he
        have HD := hide (show mvs legs id (k + 1) = mvs legs id k from if_neg he)
        clear he hlt hk
        go_wp2_with fail
        go_roundw
        case rel => exact ⟨k + 1, HK.out, by go_num, by rw [HD.out], H0.out⟩
        case measure => have := HK.out; simp [intOf]; omega
    · obtain rfl : k = n := by omega
      clear hlt hk
      go_wp2_with fail
      go_ret
      exact ⟨rfl, q1B⟩
def MbInv (legs : Nat → LLeg) (id : Int) (n : Nat) (W : World) (v : Value) (wr : World) : Prop :=
  ∃ k : Nat, k ≤ n ∧ v = .int .i64 k ∧ mvb legs id k = false ∧ Below W.heap.size W wr
theorem mvb_mono {legs : Nat → LLeg} {id : Int} {k n : Nat} (h : k ≤ n) (ht : mvb legs id k = true) : mvb legs id n = true := by
  induction h with
  | refl => exact ht
  | step _ ih => show (mvb legs id _ || _) = true; rw [ih]; rfl
set_option maxHeartbeats 1000000 in
theorem moves_any (E : Array Value) (lA : Option Addr) (n c : Nat) (h8 : E[8]? = some (.slice lA n c)) (legs : Nat → LLeg) (id : Int) (hn : n ≤ 1000000) (w : World) (hr : RowLeg w lA n legs) :
    Calls Tryd.prog 29 #[.agg E, .int .i64 id] w fun e w' => e = .returned (.bool (mvb legs id n)) ∧ Below w.heap.size w w' := by
  have HR := hide hr
  clear hr
  go_enter Tryd.func29, Tryd.ntmps29
  go_wp2_with fail
  go_loopw [5] (fun v wr => MbInv legs id n (w.alloc (.cells E 54)) v wr) (fun v _ => n - (intOf v).toNat)
  case atStart => exact ⟨0, by omega, rfl, rfl, Below.refl _ _⟩
  case round =>
    obtain ⟨k, hk, rfl, hf, hb⟩ := hrel
    have HF := hide hf
    clear hf
    have H0 := hide hb
    have q1B : Below w.heap.size w wr := (by refine Below.trans ?_ (hb.mono (by first | omega | (simp <;> omega))); (repeat (first | (with_reducible exact Below.refl _ _) | (with_reducible assumption) | ((with_reducible refine Below.alloc ?_ ?_ _); (rotate_left); (first | omega | (simp <;> omega))) | ((with_reducible refine Below.setCell ?_ ?_ _); (rotate_left); (first | omega | (simp <;> omega))) | (with_reducible refine Below.drew ?_) | (with_reducible refine below_drewN ?_ _))))
    have q1z := hb.size
    try simp at q1z
    have q1t : w.heap.size ≤ wr.heap.size := (by omega)
    have q1s0 : w.heap.size < wr.heap.size := (by omega)
    have q1n0_0 : ¬ wr.heap.size = w.heap.size := (by omega)
    have q1n0_1 : ¬ wr.heap.size + 1 = w.heap.size := (by omega)
    have q1n0_2 : ¬ wr.heap.size + 2 = w.heap.size := (by omega)
    have q1c0_8 := hb.cell (p := ⟨w.heap.size, 8, none⟩) (by first | omega | (simp <;> omega))
    simp [go_sem, *] at q1c0_8
    have q1f0 := fun o => hb.frozen (p := ⟨w.heap.size, o, none⟩) (by first | omega | (simp <;> omega))
    simp [go_sem, *] at q1f0
    have q1o : ∀ b o, b < w.heap.size → wr.cell? ⟨b, o, none⟩ = w.cell? ⟨b, o, none⟩ := fun b o h => q1B.cell (p := ⟨b, o, none⟩) h
    clear hb
    clear h8
    by_cases hlt : k < n
    · have hm : (k : Int) < n := by omega
      obtain ⟨b, off, rfl, hbl, c0, c1, c2⟩ := (HR.out.below q1B).at hlt
      have HK := hide hlt
      have hk0 : (0 : Int) ≤ k := by omega
      by_cases he : (legs k).ac = id
      · have h1 : ((legs k).ac == id) = true := beq_iff_eq.2 he
        have HB := hide (show mvb legs id n = true from mvb_mono HK.out (show (mvb legs id k || (legs k).ac == id) = true by rw [h1]; simp))
        clear he hlt hk
        go_wp2_with fail
        go_ret
        exact ⟨by rw [HB.out]; rfl, q1B⟩
      · have h1 : ((legs k).ac == id) = false := beq_eq_false_iff_ne.2 he
        have HB := hide (show mvb legs id (k + 1) = false from (show (mvb legs id k || (legs k).ac == id) = false by rw [h1, HF.out]; rfl))
        clear he hlt hk
        go_wp2_with fail
        go_roundw
        case rel => exact ⟨k + 1, HK.out, by go_num, HB.out, H0.out⟩
        case measure => have := HK.out; simp [intOf]; omega
    · obtain rfl : k = n := by omega
      clear hlt hk
      go_wp2_with fail
      go_ret
      exact ⟨by rw [HF.out]; rfl, q1B⟩
/-- The journals that the walks take. -/
structure Jrn (w : World) (A : Option Addr) (n : Nat) (E : Nat → LEnt) : Prop where
  row : RowEnt w A n E
  legs : ∀ k, k < n → (E k).ln ≤ 1000000
theorem Jrn.below {w w' : World} {A : Option Addr} {n : Nat} {E : Nat → LEnt} (h : Jrn w A n E) (hb : Below w.heap.size w w') : Jrn w' A n E := ⟨h.row.below hb, h.legs⟩
def OfInv (E : Nat → LEnt) (id : Int) (n : Nat) (w : World) (v5 v : Value) (wr : World) : Prop :=
  ∃ k : Nat, k ≤ n ∧ v = .int .i64 k ∧ v5 = .int .i64 (sumE E id (fun _ => true) k) ∧ Below w.heap.size w wr
set_option maxHeartbeats 1000000 in
theorem rof_any (A : Option Addr) (n c : Nat) (E : Nat → LEnt) (id : Int) (hn : n ≤ 1000000) (w : World) (hj : Jrn w A n E) :
    Calls Tryd.prog 27 #[.slice A n c, .int .i64 id] w fun e w' => e = .returned (.int .i64 (sumE E id (fun _ => true) n)) ∧ Below w.heap.size w w' := by
  have HR := hide hj
  clear hj
  go_enter Tryd.func27, Tryd.ntmps27
  go_wp2_with fail
  go_loopw [5, 6] (fun v5 v wr => OfInv E id n w v5 v wr) (fun _ v _ => n - (intOf v).toNat)
  case atStart => exact ⟨0, by omega, rfl, rfl, Below.refl _ _⟩
  case round =>
    obtain ⟨k, hk, rfl, rfl, hb⟩ := hrel
    by_cases hlt : k < n
    · have hm : (k : Int) < n := by omega
      obtain ⟨b, off, rfl, hbl, c0, c1, c2, c3, c4, c5, c6, c7, c8, c9⟩ := (HR.out.below hb).row.at hlt
      have HK := hide hlt
      have hk0 : (0 : Int) ≤ k := by omega
      have HD := hide (show sumE E id (fun _ => true) (k + 1) = wrap64 (sumE E id (fun _ => true) k + mvE (E k) id) from if_pos rfl)
      clear hlt hk
      go_wp2_with fail
      refine (rmoved_any _ (E k).lA (E k).ln (E k).lc rfl (E k).legs id (HR.out.legs k HK.out) _ ((HR.out.below hb).row.2 k HK.out)).mono ?_
      rintro e w1 ⟨rfl, hb1⟩
      go_wp2_with fail
      go_roundw
      case rel => exact ⟨k + 1, HK.out, by go_num, by rw [HD.out]; rfl, hb.trans (hb1.mono hb.size)⟩
      case measure => have := HK.out; simp [intOf]; omega
    · obtain rfl : k = n := by omega
      clear hlt hk
      go_wp2_with fail
      go_ret
      exact ⟨rfl, hb⟩
end Go.Proofs.YtodfpfbcjiganaaDoor
