/- R24.Find; statement.moved and R21.moved. -/
import Derived.Test.YtodfpfbcjiganaaDoorStB
namespace Go.Proofs.YtodfpfbcjiganaaDoor
set_option linter.unusedSimpArgs false
set_option linter.unusedVariables false
open Go.RowKit

def RFdInv (a : Nat → LAcc) (id : Int) (n : Nat) (W : World) (v : Value) (wr : World) : Prop := ∃ k : Nat, k ≤ n ∧ v = .int .i64 k ∧ (∀ j, j < k → (a j).id ≠ id) ∧ Below W.heap.size W wr
set_option maxHeartbeats 1000000 in
theorem rfind_any (C : Array Value) (aA : Option Addr) (an ac : Nat) (jA : Option Addr) (jn jc : Nat) (hC : Bks C aA an ac jA jn jc) (a : Nat → LAcc) (id : Int) (hn : an ≤ 1000000) (w : World) (hr : RowAcc w aA an a) :
    Calls Tryd.prog 21 #[.agg C, .int .i64 id] w fun e w' => e = .returned (.tuple #[.agg #[.int .i64 (getA a id an).id, .int .i64 (getA a id an).op, .int .i64 (getA a id an).cl, .int .i64 (getA a id an).ex, .string (getA a id an).ow, .string (getA a id an).pr, .string (getA a id an).nu], .bool (hasA a id an)]) ∧ Below w.heap.size w w' := by
  have HR := hide hr
  have h18 := hC.acc
  clear hr hC
  go_enter Tryd.func21, Tryd.ntmps21
  go_wp2_with fail
  go_loopw [6] (fun v wr => RFdInv a id an ((w.alloc (.cells C 33)).alloc (.cells #[.int .i64 0, .int .i64 0, .int .i64 0, .int .i64 0, .string ⟨#[]⟩, .string ⟨#[]⟩, .string ⟨#[]⟩] 57)) v wr) (fun v _ => an - (intOf v).toNat)
  case atStart => exact ⟨0, by omega, rfl, fun j hj => by omega, Below.refl _ _⟩
  case round =>
    obtain ⟨k, hk, rfl, hl, hb⟩ := hrel
    have HL := hide hl
    clear hl
    have H0 := hide hb
    have q1B : Below w.heap.size w wr := (by refine Below.trans ?_ (hb.mono (by first | omega | (simp <;> omega))); (repeat (first | (with_reducible exact Below.refl _ _) | (with_reducible assumption) | ((with_reducible refine Below.alloc ?_ ?_ _); (rotate_left); (first | omega | (simp <;> omega))) | ((with_reducible refine Below.setCell ?_ ?_ _); (rotate_left); (first | omega | (simp <;> omega))) | (with_reducible refine Below.drew ?_) | (with_reducible refine below_drewN ?_ _))))
    have q1z := hb.size
    try simp at q1z
    have q1t : w.heap.size ≤ wr.heap.size := (by omega)
    have q1s0 : w.heap.size < wr.heap.size := (by omega)
    have q1n0_0 : ¬ wr.heap.size = w.heap.size := (by omega)
    have q1n0_1 : ¬ wr.heap.size + 1 = w.heap.size := (by omega)
    have q1n0_2 : ¬ wr.heap.size + 2 = w.heap.size := (by omega)
    have q1c0_18 := hb.cell (p := ⟨w.heap.size, 18, none⟩) (by first | omega | (simp <;> omega))
    simp [go_sem, *] at q1c0_18
    have q1f0 := fun o => hb.frozen (p := ⟨w.heap.size, o, none⟩) (by first | omega | (simp <;> omega))
    simp [go_sem, *] at q1f0
    have q1s1 : w.heap.size + 1 < wr.heap.size := (by omega)
    have q1n1_0 : ¬ wr.heap.size = w.heap.size + 1 := (by omega)
    have q1n1_1 : ¬ wr.heap.size + 1 = w.heap.size + 1 := (by omega)
    have q1n1_2 : ¬ wr.heap.size + 2 = w.heap.size + 1 := (by omega)
    have q1c1_0 := hb.cell (p := ⟨w.heap.size + 1, 0, none⟩) (by first | omega | (simp <;> omega))
    simp [go_sem, *] at q1c1_0
    have q1c1_1 := hb.cell (p := ⟨w.heap.size + 1, 1, none⟩) (by first | omega | (simp <;> omega))
    simp [go_sem, *] at q1c1_1
    have q1c1_2 := hb.cell (p := ⟨w.heap.size + 1, 2, none⟩) (by first | omega | (simp <;> omega))
    simp [go_sem, *] at q1c1_2
    have q1c1_3 := hb.cell (p := ⟨w.heap.size + 1, 3, none⟩) (by first | omega | (simp <;> omega))
    simp [go_sem, *] at q1c1_3
    have q1c1_4 := hb.cell (p := ⟨w.heap.size + 1, 4, none⟩) (by first | omega | (simp <;> omega))
    simp [go_sem, *] at q1c1_4
    have q1c1_5 := hb.cell (p := ⟨w.heap.size + 1, 5, none⟩) (by first | omega | (simp <;> omega))
    simp [go_sem, *] at q1c1_5
    have q1c1_6 := hb.cell (p := ⟨w.heap.size + 1, 6, none⟩) (by first | omega | (simp <;> omega))
    simp [go_sem, *] at q1c1_6
    have q1f1 := fun o => hb.frozen (p := ⟨w.heap.size + 1, o, none⟩) (by first | omega | (simp <;> omega))
    simp [go_sem, *] at q1f1
    have q1o : ∀ b o, b < w.heap.size → wr.cell? ⟨b, o, none⟩ = w.cell? ⟨b, o, none⟩ := fun b o h => q1B.cell (p := ⟨b, o, none⟩) h
    clear hb
    clear h18
    by_cases hlt : k < an
    · have hm : (k : Int) < an := by omega
      obtain ⟨b, off, rfl, hbl, c0, c1, c2, c3, c4, c5, c6⟩ := (HR.out.below q1B).at hlt
      by_cases he : (a k).id = id
      · have h1 : ((a k).id == id) = true := beq_iff_eq.2 he
        have HE := hide (getA_yes (fndA_first hlt he HL.out))
        clear he
        have hk0 : (0 : Int) ≤ k := by omega
        clear hlt hk
        go_wp2_with fail
        refine bodyPost_ret (by simp [results, Tryd.results21, go_sem, *] <;> rfl) rfl ⟨?_, ?_⟩
        · rw [HE.out.1, HE.out.2.1]
        (repeat (first | (with_reducible exact Below.refl _ _) | (with_reducible assumption) | ((with_reducible refine Below.alloc ?_ ?_ _); (rotate_left); (first | omega | (simp <;> omega))) | ((with_reducible refine Below.setCell ?_ ?_ _); (rotate_left); (first | omega | (simp <;> omega))) | (with_reducible refine Below.drew ?_) | (with_reducible refine below_drewN ?_ _)))
      · have h1 : ((a k).id == id) = false := beq_eq_false_iff_ne.2 he
        have HE := hide he
        clear he
        have hk0 : (0 : Int) ≤ k := by omega
        have HK := hide hlt
        clear hlt hk
        go_wp2_with fail
        go_roundw
        case rel => exact ⟨k + 1, HK.out, by go_num, fun j hj => by rcases Nat.lt_succ_iff_lt_or_eq.1 hj with h | rfl; exact HL.out j h; exact HE.out, H0.out⟩
        case measure => have := HK.out; simp [intOf]; omega
    · obtain rfl : k = an := by omega
      have HE := hide (getA_no (fndA_no HL.out))
      clear hlt hk
      go_wp2_with fail
      refine bodyPost_ret (by simp [results, Tryd.results21, go_sem, *] <;> rfl) rfl ⟨?_, ?_⟩
      · rw [HE.out.1, HE.out.2.1]; rfl
      (repeat (first | (with_reducible exact Below.refl _ _) | (with_reducible assumption) | ((with_reducible refine Below.alloc ?_ ?_ _); (rotate_left); (first | omega | (simp <;> omega))) | ((with_reducible refine Below.setCell ?_ ?_ _); (rotate_left); (first | omega | (simp <;> omega))) | (with_reducible refine Below.drew ?_) | (with_reducible refine below_drewN ?_ _)))
def MvInv (legs : Nat → LLeg) (id : Int) (n : Nat) (W : World) (v6 v7 v : Value) (wr : World) : Prop :=
  ∃ k : Nat, k ≤ n ∧ v = .int .i64 k ∧ v6 = .int .i64 (mvs legs id k) ∧ v7 = .bool (mvb legs id k) ∧ Below W.heap.size W wr
set_option maxHeartbeats 1000000 in
theorem moved_any (E : Array Value) (lA : Option Addr) (n c : Nat) (h8 : E[8]? = some (.slice lA n c)) (legs : Nat → LLeg) (id : Int) (hn : n ≤ 1000000) (w : World) (hr : RowLeg w lA n legs) :
    Calls Tryd.prog 25 #[.agg E, .int .i64 id] w fun e w' => e = .returned (.tuple #[.int .i64 (mvs legs id n), .bool (mvb legs id n)]) ∧ Below w.heap.size w w' := by
  have HR := hide hr
  clear hr
  go_enter Tryd.func25, Tryd.ntmps25
  go_wp2_with fail
  go_loopw [6, 7, 13] (fun v6 v7 v wr => MvInv legs id n (w.alloc (.cells E 54)) v6 v7 v wr) (fun _ _ v _ => n - (intOf v).toNat)
  case atStart => exact ⟨0, by omega, rfl, rfl, rfl, Below.refl _ _⟩
  case round =>
    obtain ⟨k, hk, rfl, rfl, rfl, hb⟩ := hrel
    have q1B : Below w.heap.size w wr := by refine Below.trans ?_ (hb.mono (by simp)); (repeat (first | (with_reducible exact Below.refl _ _) | (with_reducible assumption) | ((with_reducible refine Below.alloc ?_ ?_ _); (rotate_left); (first | omega | (simp <;> omega))) | ((with_reducible refine Below.setCell ?_ ?_ _); (rotate_left); (first | omega | (simp <;> omega))) | (with_reducible refine Below.drew ?_) | (with_reducible refine below_drewN ?_ _)))
    have hz := hb.size
    simp at hz
    by_cases hlt : k < n
    · have hm : (k : Int) < n := by omega
      obtain ⟨b, off, rfl, hbl, c0, c1, c2⟩ := (HR.out.below q1B).at hlt
      have HK := hide hlt
      have hk0 : (0 : Int) ≤ k := by omega
      by_cases he : (legs k).ac = id
      · have h1 : ((legs k).ac == id) = true := beq_iff_eq.2 he
        have HD := hide (show mvs legs id (k + 1) = wrap64 (mvs legs id k - (legs k).am) from if_pos he)
        have HB := hide (show mvb legs id (k + 1) = true from by show (mvb legs id k || (legs k).ac == id) = _; rw [h1]; simp)
        clear he hlt hk
        go_wp2_with fail
        go_roundw
        case rel => exact ⟨k + 1, HK.out, by go_num, by rw [HD.out], by rw [HB.out], by refine hb.trans ?_; (repeat (first | (with_reducible exact Below.refl _ _) | (with_reducible assumption) | ((with_reducible refine Below.alloc ?_ ?_ _); (rotate_left); (first | omega | (simp <;> omega))) | ((with_reducible refine Below.setCell ?_ ?_ _); (rotate_left); (first | omega | (simp <;> omega))) | (with_reducible refine Below.drew ?_) | (with_reducible refine below_drewN ?_ _)))⟩
        case measure => have := HK.out; simp [intOf]; omega
      · have h1 : ((legs k).ac == id) = false := beq_eq_false_iff_ne.2 he
        have HD := hide (show mvs legs id (k + 1) = mvs legs id k from if_neg he)
        have HB := hide (show mvb legs id (k + 1) = mvb legs id k from by show (mvb legs id k || (legs k).ac == id) = _; rw [h1]; simp)
        clear he hlt hk
        go_wp2_with fail
        go_roundw
        case rel => exact ⟨k + 1, HK.out, by go_num, by rw [HD.out], by rw [HB.out], by refine hb.trans ?_; (repeat (first | (with_reducible exact Below.refl _ _) | (with_reducible assumption) | ((with_reducible refine Below.alloc ?_ ?_ _); (rotate_left); (first | omega | (simp <;> omega))) | ((with_reducible refine Below.setCell ?_ ?_ _); (rotate_left); (first | omega | (simp <;> omega))) | (with_reducible refine Below.drew ?_) | (with_reducible refine below_drewN ?_ _)))⟩
        case measure => have := HK.out; simp [intOf]; omega
    · obtain rfl : k = n := by omega
      clear hlt hk
      go_wp2_with fail
      refine bodyPost_ret (by simp [results, Tryd.results25, go_sem, *] <;> rfl) rfl ⟨?_, ?_⟩
      · rfl
      exact q1B
end Go.Proofs.YtodfpfbcjiganaaDoor
