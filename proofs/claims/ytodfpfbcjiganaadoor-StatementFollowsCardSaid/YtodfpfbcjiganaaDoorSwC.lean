/- The walk of the law StatementOthers. -/
import Derived.Test.YtodfpfbcjiganaaDoorSwB
import Derived.Test.YtodfpfbcjiganaaDoorSwL
import Derived.Test.YtodfpfbcjiganaaDoorApR
import Derived.Deep.Cut
namespace Go.Proofs.YtodfpfbcjiganaaDoor
set_option linter.unusedSimpArgs false
set_option linter.unusedVariables false
open Go.RowKit

theorem mvb_no {legs : Nat → LLeg} {id : Int} : ∀ n, (∀ k, k < n → (legs k).ac ≠ id) → mvb legs id n = false
  | 0, _ => rfl
  | n + 1, h => by
    unfold mvb
    rw [mvb_no n (fun k hk => h k (by omega)), beq_eq_false_iff_ne.2 (h n (by omega))]
    rfl
def OtI (legs : Nat → LLeg) (id : Int) (n : Nat) (W : World) (v : Value) (wr : World) : Prop := ∃ k : Nat, k ≤ n ∧ v = .int .i64 k ∧ (∀ i, i < k → (legs i).ac ≠ id) ∧ Below W.heap.size W wr
theorem bks_set {C : Array Value} {aA : Option Addr} {an ac : Nat} {jA : Option Addr} {jn jc : Nat} (h : Bks C aA an ac jA jn jc) (A : Option Addr) (n c : Nat) : Bks (C.setIfInBounds 19 (.slice A n c)) aA an ac A n c :=
  ⟨by rw [Array.size_setIfInBounds]; exact h.size, by rw [Array.getElem?_setIfInBounds_ne (by decide)]; exact h.acc, by rw [Array.getElem?_setIfInBounds_self_of_lt (by have := h.size; omega)]⟩
theorem cons_jrn {w : World} {base : Nat} {t : TypeId} {A : Option Addr} {c n : Nat} {e : LEnt} {E : Nat → LEnt} {xs : List Value} (hx : xs = entL e) (h : w.ownsRow base t 10 (.slice A (1 + n) c) (1 + n) (xs ++ cellsOfE E n))
    (he : RowLeg w e.lA e.ln e.legs) (hl : e.ln ≤ 1000000) (hE : ∀ k, k < n → RowLeg w (E k).lA (E k).ln (E k).legs ∧ (E k).ln ≤ 1000000) : Jrn w A (1 + n) (consE e E) := by
  have hlen : ([e] ++ (List.range n).map E).length = 1 + n := by simp; omega
  have hc : ([e] ++ (List.range n).map E).flatMap entL = xs ++ cellsOfE E n := by rw [hx]; simp [cellsOfE]
  rw [← hc, ← hlen] at h
  have hk : ∀ k, k < 1 + n → RowLeg w (consE e E k).lA (consE e E k).ln (consE e E k).legs ∧ (consE e E k).ln ≤ 1000000 := by
    intro k hk
    cases k with
    | zero => exact ⟨he, hl⟩
    | succ j => exact hE j (by omega)
  obtain ⟨A', c', hv, hrow⟩ := own_rowEnt h (fun k hkl => by rw [atE_cons e E n k (by omega)]; exact (hk k (by omega)).1)
  injection hv with e1 _ _
  subst e1
  rw [hlen] at hrow
  have hrow := hrow.congr (fun k hk => atE_cons e E n k hk)
  exact ⟨hrow, fun k hk2 => (hk k hk2).2⟩
set_option maxRecDepth 4000 in
set_option maxHeartbeats 4000000 in
theorem walk_others (C : Array Value) (aA : Option Addr) (an ac : Nat) (jA : Option Addr) (jn jc : Nat) (hC : Bks C aA an ac jA jn jc) (hO : C.all (·.oneCell') = true) (a : Nat → LAcc) (E : Nat → LEnt) (x0 x1 x2 x3 : Int)
    (i0 i1 i2 i3 i4 i5 : Int) (key tx : ByteArray) (lA : Option Addr) (ln lc : Nat) (ch : Int) (legs : Nat → LLeg) (w : World) (hr : RowAcc w aA an a) (he : RowEnt w jA jn E) (hl : RowLeg w lA ln legs) (ht : Tab w) :
    Calls Tryd.prog 7 #[.agg C, .agg #[.int .i64 x0, .int .i64 x1, .int .i64 x2, .int .i64 x3], .agg #[.int .i64 i0, .int .i64 i1, .int .i64 i2, .int .i64 i3, .int .i64 i4, .int .i64 i5, .string key, .string tx, .slice lA ln lc, .int .u64 ch]] w fun e w' => e = .returned (.bool true) ∧ Below w.heap.size w w' := by
  have HW := hide (show (Tryd.prog.info? 33).map (·.size) = some C.size by rw [hC.size]; kernel_rfl)
  have HC := hide hC
  have HO := hide hO
  have HR := hide hr
  have HE := hide he
  have HL := hide hl
  have HT := hide ht
  have h19 := hC.jou
  clear hC hO hr he hl ht
  cases hf : fewB an jn E with
  | false =>
    have HF := hide hf
    clear hf h19
    go_enter Tryd.func7, Tryd.ntmps7
    go_wp2_with (with_reducible refine wpList_load_row rfl 33 (.tmp 3) rfl w.heap.size rfl 33 C (0, 0) _ (blk_under (two_boxes _ _ _)) Tryd.underlying33 rfl HW.out ?_)
    refine (few_any C aA an ac jA jn jc HC.out E _ (HE.out.below (by (repeat (first | (with_reducible exact Below.refl _ _) | (with_reducible assumption) | ((with_reducible refine Below.alloc ?_ ?_ _); (rotate_left); (first | omega | (simp <;> omega))) | ((with_reducible refine Below.setCell ?_ ?_ _); (rotate_left); (first | omega | (simp <;> omega))) | (with_reducible refine Below.drew ?_) | (with_reducible refine below_drewN ?_ _)))))).mono ?_
    rintro e w1 ⟨rfl, hb⟩
    rw [HF.out]
    have q1B : Below w.heap.size w w1 := (by refine Below.trans ?_ (hb.mono (by first | omega | (simp <;> omega))); (repeat (first | (with_reducible exact Below.refl _ _) | (with_reducible assumption) | ((with_reducible refine Below.alloc ?_ ?_ _); (rotate_left); (first | omega | (simp <;> omega))) | ((with_reducible refine Below.setCell ?_ ?_ _); (rotate_left); (first | omega | (simp <;> omega))) | (with_reducible refine Below.drew ?_) | (with_reducible refine below_drewN ?_ _))))
    have q1z := hb.size
    try simp at q1z
    have q1t : w.heap.size ≤ w1.heap.size := (by omega)
    have q1o : ∀ b o, b < w.heap.size → w1.cell? ⟨b, o, none⟩ = w.cell? ⟨b, o, none⟩ := fun b o h => q1B.cell (p := ⟨b, o, none⟩) h
    clear hb
    go_wp2_with fail
    refine (lives_any _ (HT.out.below q1B)).mono ?_
    rintro e w2 ⟨rfl, hb⟩
    go_wp2_with fail
    go_ret
    exact ⟨rfl, q1B.trans (hb.mono q1t)⟩
  | true =>
    obtain ⟨hn, hjn, _⟩ := few_jrn hf HE.out
    have HJ := hide (few_jrn hf HE.out).2.2
    have HF := hide hf
    clear hf
    by_cases hln : ln > 20
    · have hln2 : (20 : Int) < ln := by omega
      clear h19
      go_enter Tryd.func7, Tryd.ntmps7
      go_wp2_with (with_reducible refine wpList_load_row rfl 33 (.tmp 3) rfl w.heap.size rfl 33 C (0, 0) _ (blk_under (two_boxes _ _ _)) Tryd.underlying33 rfl HW.out ?_)
      refine (few_any C aA an ac jA jn jc HC.out E _ (HE.out.below (by (repeat (first | (with_reducible exact Below.refl _ _) | (with_reducible assumption) | ((with_reducible refine Below.alloc ?_ ?_ _); (rotate_left); (first | omega | (simp <;> omega))) | ((with_reducible refine Below.setCell ?_ ?_ _); (rotate_left); (first | omega | (simp <;> omega))) | (with_reducible refine Below.drew ?_) | (with_reducible refine below_drewN ?_ _)))))).mono ?_
      rintro e w1 ⟨rfl, hb⟩
      rw [HF.out]
      have q1B : Below w.heap.size w w1 := (by refine Below.trans ?_ (hb.mono (by first | omega | (simp <;> omega))); (repeat (first | (with_reducible exact Below.refl _ _) | (with_reducible assumption) | ((with_reducible refine Below.alloc ?_ ?_ _); (rotate_left); (first | omega | (simp <;> omega))) | ((with_reducible refine Below.setCell ?_ ?_ _); (rotate_left); (first | omega | (simp <;> omega))) | (with_reducible refine Below.drew ?_) | (with_reducible refine below_drewN ?_ _))))
      have q1z := hb.size
      try simp at q1z
      have q1t : w.heap.size ≤ w1.heap.size := (by omega)
      have q1s0 : w.heap.size + 1 + 1 < w1.heap.size := (by omega)
      have q1n0_0 : ¬ w1.heap.size = w.heap.size + 1 + 1 := (by omega)
      have q1n0_1 : ¬ w1.heap.size + 1 = w.heap.size + 1 + 1 := (by omega)
      have q1n0_2 : ¬ w1.heap.size + 2 = w.heap.size + 1 + 1 := (by omega)
      have q1c0_0 := hb.cell (p := ⟨w.heap.size + 1 + 1, 0, none⟩) (by first | omega | (simp <;> omega))
      simp [go_sem, *] at q1c0_0
      have q1c0_1 := hb.cell (p := ⟨w.heap.size + 1 + 1, 1, none⟩) (by first | omega | (simp <;> omega))
      simp [go_sem, *] at q1c0_1
      have q1c0_2 := hb.cell (p := ⟨w.heap.size + 1 + 1, 2, none⟩) (by first | omega | (simp <;> omega))
      simp [go_sem, *] at q1c0_2
      have q1c0_3 := hb.cell (p := ⟨w.heap.size + 1 + 1, 3, none⟩) (by first | omega | (simp <;> omega))
      simp [go_sem, *] at q1c0_3
      have q1c0_4 := hb.cell (p := ⟨w.heap.size + 1 + 1, 4, none⟩) (by first | omega | (simp <;> omega))
      simp [go_sem, *] at q1c0_4
      have q1c0_5 := hb.cell (p := ⟨w.heap.size + 1 + 1, 5, none⟩) (by first | omega | (simp <;> omega))
      simp [go_sem, *] at q1c0_5
      have q1c0_6 := hb.cell (p := ⟨w.heap.size + 1 + 1, 6, none⟩) (by first | omega | (simp <;> omega))
      simp [go_sem, *] at q1c0_6
      have q1c0_7 := hb.cell (p := ⟨w.heap.size + 1 + 1, 7, none⟩) (by first | omega | (simp <;> omega))
      simp [go_sem, *] at q1c0_7
      have q1c0_8 := hb.cell (p := ⟨w.heap.size + 1 + 1, 8, none⟩) (by first | omega | (simp <;> omega))
      simp [go_sem, *] at q1c0_8
      have q1c0_9 := hb.cell (p := ⟨w.heap.size + 1 + 1, 9, none⟩) (by first | omega | (simp <;> omega))
      simp [go_sem, *] at q1c0_9
      have q1f0 := fun o => hb.frozen (p := ⟨w.heap.size + 1 + 1, o, none⟩) (by first | omega | (simp <;> omega))
      simp [go_sem, *] at q1f0
      have q1o : ∀ b o, b < w.heap.size → w1.cell? ⟨b, o, none⟩ = w.cell? ⟨b, o, none⟩ := fun b o h => q1B.cell (p := ⟨b, o, none⟩) h
      clear hb
      have B1 := hide q1B
      go_wp2_with fail
      refine (lives_any _ (HT.out.below B1.out)).mono ?_
      rintro e w2 ⟨rfl, hb⟩
      go_wp2_with fail
      go_ret
      exact ⟨rfl, B1.out.trans (hb.mono q1t)⟩
    · have hln2 : (ln : Int) ≤ 20 := by omega
      clear hln
      obtain ⟨z0, Z, hz0, hz1, hz2⟩ := sm_zero
      obtain ⟨i0', hi0, hi1, hi2, hi3⟩ := info3 ent_info
      have I0 := hide hi0
      have I1 := hide hi1
      have I2 := hide hi2
      have I3 := hide hi3
      clear hi0 hi1 hi2 hi3
      have HZ := hide (And.intro hz0 hz1)
      have HZ2 := hide (show Z.size = C.size by rw [hz2, HC.out.size])
      clear hz0 hz1 hz2
      go_enter Tryd.func7, Tryd.ntmps7
      go_wp2_with (with_reducible refine wpList_load_row rfl 33 (.tmp 3) rfl w.heap.size rfl 33 C (0, 0) _ (blk_under (two_boxes _ _ _)) Tryd.underlying33 rfl HW.out ?_)
      refine (few_any C aA an ac jA jn jc HC.out E _ (HE.out.below (by (repeat (first | (with_reducible exact Below.refl _ _) | (with_reducible assumption) | ((with_reducible refine Below.alloc ?_ ?_ _); (rotate_left); (first | omega | (simp <;> omega))) | ((with_reducible refine Below.setCell ?_ ?_ _); (rotate_left); (first | omega | (simp <;> omega))) | (with_reducible refine Below.drew ?_) | (with_reducible refine below_drewN ?_ _)))))).mono ?_
      rintro e w1 ⟨rfl, hb⟩
      rw [HF.out]
      have X1 := hide ((hb.block w.heap.size (by simp; omega)).trans (blk_under (two_boxes _ _ _)))
      have q1B : Below w.heap.size w w1 := (by refine Below.trans ?_ (hb.mono (by first | omega | (simp <;> omega))); (repeat (first | (with_reducible exact Below.refl _ _) | (with_reducible assumption) | ((with_reducible refine Below.alloc ?_ ?_ _); (rotate_left); (first | omega | (simp <;> omega))) | ((with_reducible refine Below.setCell ?_ ?_ _); (rotate_left); (first | omega | (simp <;> omega))) | (with_reducible refine Below.drew ?_) | (with_reducible refine below_drewN ?_ _))))
      have q1z := hb.size
      try simp at q1z
      have q1t : w.heap.size ≤ w1.heap.size := (by omega)
      have q1s0 : w.heap.size < w1.heap.size := (by omega)
      have q1n0_0 : ¬ w1.heap.size = w.heap.size := (by omega)
      have q1n0_1 : ¬ w1.heap.size + 1 = w.heap.size := (by omega)
      have q1n0_2 : ¬ w1.heap.size + 2 = w.heap.size := (by omega)
      have q1c0_19 := hb.cell (p := ⟨w.heap.size, 19, none⟩) (by first | omega | (simp <;> omega))
      simp [go_sem, *] at q1c0_19
      have q1f0 := fun o => hb.frozen (p := ⟨w.heap.size, o, none⟩) (by first | omega | (simp <;> omega))
      simp [go_sem, *] at q1f0
      have q1s1 : w.heap.size + 1 < w1.heap.size := (by omega)
      have q1n1_0 : ¬ w1.heap.size = w.heap.size + 1 := (by omega)
      have q1n1_1 : ¬ w1.heap.size + 1 = w.heap.size + 1 := (by omega)
      have q1n1_2 : ¬ w1.heap.size + 2 = w.heap.size + 1 := (by omega)
      have q1c1_0 := hb.cell (p := ⟨w.heap.size + 1, 0, none⟩) (by first | omega | (simp <;> omega))
      simp [go_sem, *] at q1c1_0
      have q1c1_1 := hb.cell (p := ⟨w.heap.size + 1, 1, none⟩) (by first | omega | (simp <;> omega))
      simp [go_sem, *] at q1c1_1
      have q1c1_2 := hb.cell (p := ⟨w.heap.size + 1, 2, none⟩) (by first | omega | (simp <;> omega))
      simp [go_sem, *] at q1c1_2
      have q1c1_3 := hb.cell (p := ⟨w.heap.size + 1, 3, none⟩) (by first | omega | (simp <;> omega))
      simp [go_sem, *] at q1c1_3
      have q1f1 := fun o => hb.frozen (p := ⟨w.heap.size + 1, o, none⟩) (by first | omega | (simp <;> omega))
      simp [go_sem, *] at q1f1
      have q1s2 : w.heap.size + 1 + 1 < w1.heap.size := (by omega)
      have q1n2_0 : ¬ w1.heap.size = w.heap.size + 1 + 1 := (by omega)
      have q1n2_1 : ¬ w1.heap.size + 1 = w.heap.size + 1 + 1 := (by omega)
      have q1n2_2 : ¬ w1.heap.size + 2 = w.heap.size + 1 + 1 := (by omega)
      have q1c2_0 := hb.cell (p := ⟨w.heap.size + 1 + 1, 0, none⟩) (by first | omega | (simp <;> omega))
      simp [go_sem, *] at q1c2_0
      have q1c2_1 := hb.cell (p := ⟨w.heap.size + 1 + 1, 1, none⟩) (by first | omega | (simp <;> omega))
      simp [go_sem, *] at q1c2_1
      have q1c2_2 := hb.cell (p := ⟨w.heap.size + 1 + 1, 2, none⟩) (by first | omega | (simp <;> omega))
      simp [go_sem, *] at q1c2_2
      have q1c2_3 := hb.cell (p := ⟨w.heap.size + 1 + 1, 3, none⟩) (by first | omega | (simp <;> omega))
      simp [go_sem, *] at q1c2_3
      have q1c2_4 := hb.cell (p := ⟨w.heap.size + 1 + 1, 4, none⟩) (by first | omega | (simp <;> omega))
      simp [go_sem, *] at q1c2_4
      have q1c2_5 := hb.cell (p := ⟨w.heap.size + 1 + 1, 5, none⟩) (by first | omega | (simp <;> omega))
      simp [go_sem, *] at q1c2_5
      have q1c2_6 := hb.cell (p := ⟨w.heap.size + 1 + 1, 6, none⟩) (by first | omega | (simp <;> omega))
      simp [go_sem, *] at q1c2_6
      have q1c2_7 := hb.cell (p := ⟨w.heap.size + 1 + 1, 7, none⟩) (by first | omega | (simp <;> omega))
      simp [go_sem, *] at q1c2_7
      have q1c2_8 := hb.cell (p := ⟨w.heap.size + 1 + 1, 8, none⟩) (by first | omega | (simp <;> omega))
      simp [go_sem, *] at q1c2_8
      have q1c2_9 := hb.cell (p := ⟨w.heap.size + 1 + 1, 9, none⟩) (by first | omega | (simp <;> omega))
      simp [go_sem, *] at q1c2_9
      have q1f2 := fun o => hb.frozen (p := ⟨w.heap.size + 1 + 1, o, none⟩) (by first | omega | (simp <;> omega))
      simp [go_sem, *] at q1f2
      have q1o : ∀ b o, b < w.heap.size → w1.cell? ⟨b, o, none⟩ = w.cell? ⟨b, o, none⟩ := fun b o h => q1B.cell (p := ⟨b, o, none⟩) h
      clear hb
      have B1 := hide q1B
      clear h19
      go_wp2_with fail
      go_loopw [7] (fun v wr => OtI legs x0 ln w1 v wr) (fun v _ => ln - (intOf v).toNat)
      case atStart => exact ⟨0, by omega, rfl, fun i hi => by omega, Below.refl _ _⟩
      case round =>
        obtain ⟨k, hk, rfl, hall, hb⟩ := hrel
        have H0 := hide hb
        have HA := hide hall
        have X2 := hide (blk_below hb (by omega) X1.out)
        clear hall
        have q2B : Below w1.heap.size w1 wr := (by refine Below.trans ?_ (hb.mono (by first | omega | (simp <;> omega))); (repeat (first | (with_reducible exact Below.refl _ _) | (with_reducible assumption) | ((with_reducible refine Below.alloc ?_ ?_ _); (rotate_left); (first | omega | (simp <;> omega))) | ((with_reducible refine Below.setCell ?_ ?_ _); (rotate_left); (first | omega | (simp <;> omega))) | (with_reducible refine Below.drew ?_) | (with_reducible refine below_drewN ?_ _))))
        have q2z := hb.size
        try simp at q2z
        have q2t : w1.heap.size ≤ wr.heap.size := (by omega)
        have q2s0 : w.heap.size < wr.heap.size := (by omega)
        have q2n0_0 : ¬ wr.heap.size = w.heap.size := (by omega)
        have q2n0_1 : ¬ wr.heap.size + 1 = w.heap.size := (by omega)
        have q2n0_2 : ¬ wr.heap.size + 2 = w.heap.size := (by omega)
        have q2c0_19 := hb.cell (p := ⟨w.heap.size, 19, none⟩) (by first | omega | (simp <;> omega))
        simp [go_sem, *] at q2c0_19
        have q2f0 := fun o => hb.frozen (p := ⟨w.heap.size, o, none⟩) (by first | omega | (simp <;> omega))
        simp [go_sem, *] at q2f0
        have q2s1 : w.heap.size + 1 < wr.heap.size := (by omega)
        have q2n1_0 : ¬ wr.heap.size = w.heap.size + 1 := (by omega)
        have q2n1_1 : ¬ wr.heap.size + 1 = w.heap.size + 1 := (by omega)
        have q2n1_2 : ¬ wr.heap.size + 2 = w.heap.size + 1 := (by omega)
        have q2c1_0 := hb.cell (p := ⟨w.heap.size + 1, 0, none⟩) (by first | omega | (simp <;> omega))
        simp [go_sem, *] at q2c1_0
        have q2c1_1 := hb.cell (p := ⟨w.heap.size + 1, 1, none⟩) (by first | omega | (simp <;> omega))
        simp [go_sem, *] at q2c1_1
        have q2c1_2 := hb.cell (p := ⟨w.heap.size + 1, 2, none⟩) (by first | omega | (simp <;> omega))
        simp [go_sem, *] at q2c1_2
        have q2c1_3 := hb.cell (p := ⟨w.heap.size + 1, 3, none⟩) (by first | omega | (simp <;> omega))
        simp [go_sem, *] at q2c1_3
        have q2f1 := fun o => hb.frozen (p := ⟨w.heap.size + 1, o, none⟩) (by first | omega | (simp <;> omega))
        simp [go_sem, *] at q2f1
        have q2s2 : w.heap.size + 1 + 1 < wr.heap.size := (by omega)
        have q2n2_0 : ¬ wr.heap.size = w.heap.size + 1 + 1 := (by omega)
        have q2n2_1 : ¬ wr.heap.size + 1 = w.heap.size + 1 + 1 := (by omega)
        have q2n2_2 : ¬ wr.heap.size + 2 = w.heap.size + 1 + 1 := (by omega)
        have q2c2_0 := hb.cell (p := ⟨w.heap.size + 1 + 1, 0, none⟩) (by first | omega | (simp <;> omega))
        simp [go_sem, *] at q2c2_0
        have q2c2_1 := hb.cell (p := ⟨w.heap.size + 1 + 1, 1, none⟩) (by first | omega | (simp <;> omega))
        simp [go_sem, *] at q2c2_1
        have q2c2_2 := hb.cell (p := ⟨w.heap.size + 1 + 1, 2, none⟩) (by first | omega | (simp <;> omega))
        simp [go_sem, *] at q2c2_2
        have q2c2_3 := hb.cell (p := ⟨w.heap.size + 1 + 1, 3, none⟩) (by first | omega | (simp <;> omega))
        simp [go_sem, *] at q2c2_3
        have q2c2_4 := hb.cell (p := ⟨w.heap.size + 1 + 1, 4, none⟩) (by first | omega | (simp <;> omega))
        simp [go_sem, *] at q2c2_4
        have q2c2_5 := hb.cell (p := ⟨w.heap.size + 1 + 1, 5, none⟩) (by first | omega | (simp <;> omega))
        simp [go_sem, *] at q2c2_5
        have q2c2_6 := hb.cell (p := ⟨w.heap.size + 1 + 1, 6, none⟩) (by first | omega | (simp <;> omega))
        simp [go_sem, *] at q2c2_6
        have q2c2_7 := hb.cell (p := ⟨w.heap.size + 1 + 1, 7, none⟩) (by first | omega | (simp <;> omega))
        simp [go_sem, *] at q2c2_7
        have q2c2_8 := hb.cell (p := ⟨w.heap.size + 1 + 1, 8, none⟩) (by first | omega | (simp <;> omega))
        simp [go_sem, *] at q2c2_8
        have q2c2_9 := hb.cell (p := ⟨w.heap.size + 1 + 1, 9, none⟩) (by first | omega | (simp <;> omega))
        simp [go_sem, *] at q2c2_9
        have q2f2 := fun o => hb.frozen (p := ⟨w.heap.size + 1 + 1, o, none⟩) (by first | omega | (simp <;> omega))
        simp [go_sem, *] at q2f2
        have q2o : ∀ b o, b < w1.heap.size → wr.cell? ⟨b, o, none⟩ = w1.cell? ⟨b, o, none⟩ := fun b o h => q2B.cell (p := ⟨b, o, none⟩) h
        clear hb q1o q1f2 q1c2_9 q1c2_8 q1c2_7 q1c2_6 q1c2_5 q1c2_4 q1c2_3 q1c2_2 q1c2_1 q1c2_0 q1s2 q1f1 q1c1_3 q1c1_2 q1c1_1 q1c1_0 q1s1 q1f0 q1c0_19 q1s0 q1z q1B
        have B2 := hide (B1.out.trans (q2B.mono q1t))
        by_cases hlt : k < ln
        · have hm : (k : Int) < ln := by omega
          have HK := hide hlt
          have hk0 : (0 : Int) ≤ k := by omega
          obtain ⟨b, off, rfl, hbl, c0, c1, c2⟩ := (HL.out.below B2.out).at hlt
          clear hlt hk
          by_cases hac : (legs k).ac = x0
          · have e1 : ((legs k).ac == x0) = true := beq_iff_eq.2 hac
            clear hac
            go_wp2_with fail
            refine ord_start (SB (wr.heap.size) [] _) 9 #[false, false, false, false, false, false, false, false, false] (by kernel_rfl) (by kernel_rfl) (by kernel_rfl) SB.refl.drew (fun hHeld => ?_)
            refine ord_take (i := 0) #[true, false, false, false, false, false, false, false, false] ?_ rfl (by kernel_rfl) (by kernel_rfl) (by kernel_rfl) (by kernel_rfl) (fun _ _ _ h => h) hHeld (by rfl) (fun wx hSx => ?_) ?_
            rotate_left
            · (unfold SB at hSx; go_simp; (try with_reducible rfl))
            (try simp only [Act.put, List.setIfInBounds_toArray, List.set_cons_zero, List.set_cons_succ])
            refine ord_take (i := 1) #[true, true, false, false, false, false, false, false, false] ?_ rfl (by kernel_rfl) (by kernel_rfl) (by kernel_rfl) (by kernel_rfl) (fun _ _ _ h => h) hHeld (by rfl) (fun wx hSx => ?_) ?_
            rotate_left
            · (unfold SB at hSx; go_simp; (try with_reducible rfl))
            (try simp only [Act.put, List.setIfInBounds_toArray, List.set_cons_zero, List.set_cons_succ])
            refine ord_take (i := 2) #[true, true, true, false, false, false, false, false, false] ?_ rfl (by kernel_rfl) (by kernel_rfl) (by kernel_rfl) (by kernel_rfl) (fun _ _ _ h => h) hHeld (by rfl) (fun wx hSx => ?_) ?_
            rotate_left
            · (unfold SB at hSx; go_simp; (try with_reducible rfl))
            (try simp only [Act.put, List.setIfInBounds_toArray, List.set_cons_zero, List.set_cons_succ])
            refine ord_take (i := 3) #[true, true, true, true, false, false, false, false, false] ?_ rfl (by kernel_rfl) (by kernel_rfl) (by kernel_rfl) (by kernel_rfl) (fun _ _ _ h => h) hHeld (by rfl) (fun wx hSx => ?_) ?_
            rotate_left
            · (unfold SB at hSx; go_simp; (try with_reducible rfl))
            (try simp only [Act.put, List.setIfInBounds_toArray, List.set_cons_zero, List.set_cons_succ])
            refine ord_take (i := 4) #[true, true, true, true, true, false, false, false, false] ?_ rfl (by kernel_rfl) (by kernel_rfl) (by kernel_rfl) (by kernel_rfl) (fun _ _ _ h => h) hHeld (by rfl) (fun wx hSx => ?_) ?_
            rotate_left
            · (unfold SB at hSx; go_simp; (try with_reducible rfl))
            (try simp only [Act.put, List.setIfInBounds_toArray, List.set_cons_zero, List.set_cons_succ])
            refine ord_take (i := 5) #[true, true, true, true, true, true, false, false, false] ?_ rfl (by kernel_rfl) (by kernel_rfl) (by kernel_rfl) (by kernel_rfl) (fun _ _ _ h => h) hHeld (by rfl) (fun wx hSx => ?_) ?_
            rotate_left
            · (unfold SB at hSx; go_simp; (try with_reducible rfl))
            (try simp only [Act.put, List.setIfInBounds_toArray, List.set_cons_zero, List.set_cons_succ])
            refine ord_take (i := 6) #[true, true, true, true, true, true, true, false, false] ?_ rfl (by kernel_rfl) (by kernel_rfl) (by kernel_rfl) (by kernel_rfl) (fun _ _ _ h => h) hHeld (by rfl) (fun wx hSx => ?_) ?_
            rotate_left
            · (unfold SB at hSx; go_simp; (try with_reducible rfl))
            (try simp only [Act.put, List.setIfInBounds_toArray, List.set_cons_zero, List.set_cons_succ])
            refine ord_take (i := 7) #[true, true, true, true, true, true, true, true, false] ?_ rfl (by kernel_rfl) (by kernel_rfl) (by kernel_rfl) (by kernel_rfl) (fun _ _ _ h => h) hHeld (by rfl) (fun wx hSx => ?_) ?_
            rotate_left
            · (unfold SB at hSx; go_simp; (try with_reducible rfl))
            (try simp only [Act.put, List.setIfInBounds_toArray, List.set_cons_zero, List.set_cons_succ])
            refine ord_take (i := 8) #[true, true, true, true, true, true, true, true, true] ?_ rfl (by kernel_rfl) (by kernel_rfl) (by kernel_rfl) (by kernel_rfl) (fun _ _ _ h => h) hHeld (by rfl) (fun wx hSx => ?_) ?_
            rotate_left
            · (unfold SB at hSx; go_simp; (try with_reducible rfl))
            (try simp only [Act.put, List.setIfInBounds_toArray, List.set_cons_zero, List.set_cons_succ])
            refine wpAnyH_done (by kernel_rfl) ?_ _
            go_wp2_with fail
            refine (lives_any _ (HT.out.below (B2.out.trans (by (repeat (first | (with_reducible exact Below.refl _ _) | (with_reducible assumption) | ((with_reducible refine Below.alloc ?_ ?_ _); (rotate_left); (first | omega | (simp <;> omega))) | ((with_reducible refine Below.setCell ?_ ?_ _); (rotate_left); (first | omega | (simp <;> omega))) | (with_reducible refine Below.drew ?_) | (with_reducible refine below_drewN ?_ _))))))).mono ?_
            rintro e w3 ⟨rfl, hb⟩
            have B3 : Below wr.heap.size wr w3 := Below.trans (by (repeat (first | (with_reducible exact Below.refl _ _) | (with_reducible assumption) | ((with_reducible refine Below.alloc ?_ ?_ _); (rotate_left); (first | omega | (simp <;> omega))) | ((with_reducible refine Below.setCell ?_ ?_ _); (rotate_left); (first | omega | (simp <;> omega))) | (with_reducible refine Below.drew ?_) | (with_reducible refine below_drewN ?_ _)))) hb
            clear hb
            go_wp2_with fail
            go_ret
            exact ⟨rfl, B2.out.trans (B3.mono (by omega))⟩
          · have e1 : ((legs k).ac == x0) = false := beq_eq_false_iff_ne.2 hac
            have HAC := hide hac
            clear hac
            go_wp2_with fail
            refine ord_start (SB (wr.heap.size) [] _) 9 #[false, false, false, false, false, false, false, false, false] (by kernel_rfl) (by kernel_rfl) (by kernel_rfl) SB.refl.drew (fun hHeld => ?_)
            refine ord_take (i := 0) #[true, false, false, false, false, false, false, false, false] ?_ rfl (by kernel_rfl) (by kernel_rfl) (by kernel_rfl) (by kernel_rfl) (fun _ _ _ h => h) hHeld (by rfl) (fun wx hSx => ?_) ?_
            rotate_left
            · (unfold SB at hSx; go_simp; (try with_reducible rfl))
            (try simp only [Act.put, List.setIfInBounds_toArray, List.set_cons_zero, List.set_cons_succ])
            refine ord_take (i := 1) #[true, true, false, false, false, false, false, false, false] ?_ rfl (by kernel_rfl) (by kernel_rfl) (by kernel_rfl) (by kernel_rfl) (fun _ _ _ h => h) hHeld (by rfl) (fun wx hSx => ?_) ?_
            rotate_left
            · (unfold SB at hSx; go_simp; (try with_reducible rfl))
            (try simp only [Act.put, List.setIfInBounds_toArray, List.set_cons_zero, List.set_cons_succ])
            refine ord_take (i := 2) #[true, true, true, false, false, false, false, false, false] ?_ rfl (by kernel_rfl) (by kernel_rfl) (by kernel_rfl) (by kernel_rfl) (fun _ _ _ h => h) hHeld (by rfl) (fun wx hSx => ?_) ?_
            rotate_left
            · (unfold SB at hSx; go_simp; (try with_reducible rfl))
            (try simp only [Act.put, List.setIfInBounds_toArray, List.set_cons_zero, List.set_cons_succ])
            refine ord_take (i := 3) #[true, true, true, true, false, false, false, false, false] ?_ rfl (by kernel_rfl) (by kernel_rfl) (by kernel_rfl) (by kernel_rfl) (fun _ _ _ h => h) hHeld (by rfl) (fun wx hSx => ?_) ?_
            rotate_left
            · (unfold SB at hSx; go_simp; (try with_reducible rfl))
            (try simp only [Act.put, List.setIfInBounds_toArray, List.set_cons_zero, List.set_cons_succ])
            refine ord_take (i := 4) #[true, true, true, true, true, false, false, false, false] ?_ rfl (by kernel_rfl) (by kernel_rfl) (by kernel_rfl) (by kernel_rfl) (fun _ _ _ h => h) hHeld (by rfl) (fun wx hSx => ?_) ?_
            rotate_left
            · (unfold SB at hSx; go_simp; (try with_reducible rfl))
            (try simp only [Act.put, List.setIfInBounds_toArray, List.set_cons_zero, List.set_cons_succ])
            refine ord_take (i := 5) #[true, true, true, true, true, true, false, false, false] ?_ rfl (by kernel_rfl) (by kernel_rfl) (by kernel_rfl) (by kernel_rfl) (fun _ _ _ h => h) hHeld (by rfl) (fun wx hSx => ?_) ?_
            rotate_left
            · (unfold SB at hSx; go_simp; (try with_reducible rfl))
            (try simp only [Act.put, List.setIfInBounds_toArray, List.set_cons_zero, List.set_cons_succ])
            refine ord_take (i := 6) #[true, true, true, true, true, true, true, false, false] ?_ rfl (by kernel_rfl) (by kernel_rfl) (by kernel_rfl) (by kernel_rfl) (fun _ _ _ h => h) hHeld (by rfl) (fun wx hSx => ?_) ?_
            rotate_left
            · (unfold SB at hSx; go_simp; (try with_reducible rfl))
            (try simp only [Act.put, List.setIfInBounds_toArray, List.set_cons_zero, List.set_cons_succ])
            refine ord_take (i := 7) #[true, true, true, true, true, true, true, true, false] ?_ rfl (by kernel_rfl) (by kernel_rfl) (by kernel_rfl) (by kernel_rfl) (fun _ _ _ h => h) hHeld (by rfl) (fun wx hSx => ?_) ?_
            rotate_left
            · (unfold SB at hSx; go_simp; (try with_reducible rfl))
            (try simp only [Act.put, List.setIfInBounds_toArray, List.set_cons_zero, List.set_cons_succ])
            refine ord_take (i := 8) #[true, true, true, true, true, true, true, true, true] ?_ rfl (by kernel_rfl) (by kernel_rfl) (by kernel_rfl) (by kernel_rfl) (fun _ _ _ h => h) hHeld (by rfl) (fun wx hSx => ?_) ?_
            rotate_left
            · (unfold SB at hSx; go_simp; (try with_reducible rfl))
            (try simp only [Act.put, List.setIfInBounds_toArray, List.set_cons_zero, List.set_cons_succ])
            refine wpAnyH_done (by kernel_rfl) ?_ _
            go_wp2_with fail
            go_roundw
            case rel => exact ⟨k + 1, HK.out, by go_num, fun i hi => by
              rcases Nat.lt_or_ge i k with h1 | h1
              · exact HA.out i h1
              · obtain rfl : i = k := by omega
                exact HAC.out, H0.out.drew⟩
            case measure => have := HK.out; simp [intOf]; omega
        · obtain rfl : k = ln := by omega
          have HN := hide (show tchE ⟨i0, i1, i2, i3, i4, i5, key, tx, lA, k, lc, ch, legs⟩ x0 = false from mvb_no k HA.out)
          clear hlt hk
          go_upto_region 9 with (first
            | (with_reducible refine wpList_load_row rfl 33 (.tmp 3) rfl w.heap.size rfl 33 C (0, 0) _ X2.out Tryd.underlying33 rfl HW.out ?_)
            | (with_reducible refine wpList_alloc_row rfl 33 rfl (some 8) rfl z0 HZ.out.1 Z HZ.out.2 wr.heap.size rfl ?_)
            | ((with_reducible refine wpList_store_newrow rfl 33 (.tmp 8) (.tmp 40) rfl rfl wr.heap.size C rfl rfl 33 Z (blk_new rfl) HW.out HZ2.out HO.out ?_); intro w3 hb hz3 hx3))
          have X3 := hide (blk_below hb (by omega) (blk_under X2.out))
          have D3 := hide hx3
          clear hx3
          have q3B : Below wr.heap.size wr w3 := (by refine Below.trans ?_ (hb.mono (by first | omega | (simp <;> omega))); (repeat (first | (with_reducible exact Below.refl _ _) | (with_reducible assumption) | ((with_reducible refine Below.alloc ?_ ?_ _); (rotate_left); (first | omega | (simp <;> omega))) | ((with_reducible refine Below.setCell ?_ ?_ _); (rotate_left); (first | omega | (simp <;> omega))) | (with_reducible refine Below.drew ?_) | (with_reducible refine below_drewN ?_ _))))
          have q3z := hb.size
          try simp at q3z
          have q3t : wr.heap.size ≤ w3.heap.size := (by omega)
          have q3s0 : w.heap.size < w3.heap.size := (by omega)
          have q3n0_0 : ¬ w3.heap.size = w.heap.size := (by omega)
          have q3n0_1 : ¬ w3.heap.size + 1 = w.heap.size := (by omega)
          have q3n0_2 : ¬ w3.heap.size + 2 = w.heap.size := (by omega)
          have q3c0_19 := hb.cell (p := ⟨w.heap.size, 19, none⟩) (by first | omega | (simp <;> omega))
          simp [go_sem, *] at q3c0_19
          have q3f0 := fun o => hb.frozen (p := ⟨w.heap.size, o, none⟩) (by first | omega | (simp <;> omega))
          simp [go_sem, *] at q3f0
          have q3s1 : w.heap.size + 1 < w3.heap.size := (by omega)
          have q3n1_0 : ¬ w3.heap.size = w.heap.size + 1 := (by omega)
          have q3n1_1 : ¬ w3.heap.size + 1 = w.heap.size + 1 := (by omega)
          have q3n1_2 : ¬ w3.heap.size + 2 = w.heap.size + 1 := (by omega)
          have q3c1_0 := hb.cell (p := ⟨w.heap.size + 1, 0, none⟩) (by first | omega | (simp <;> omega))
          simp [go_sem, *] at q3c1_0
          have q3c1_1 := hb.cell (p := ⟨w.heap.size + 1, 1, none⟩) (by first | omega | (simp <;> omega))
          simp [go_sem, *] at q3c1_1
          have q3c1_2 := hb.cell (p := ⟨w.heap.size + 1, 2, none⟩) (by first | omega | (simp <;> omega))
          simp [go_sem, *] at q3c1_2
          have q3c1_3 := hb.cell (p := ⟨w.heap.size + 1, 3, none⟩) (by first | omega | (simp <;> omega))
          simp [go_sem, *] at q3c1_3
          have q3f1 := fun o => hb.frozen (p := ⟨w.heap.size + 1, o, none⟩) (by first | omega | (simp <;> omega))
          simp [go_sem, *] at q3f1
          have q3s2 : w.heap.size + 1 + 1 < w3.heap.size := (by omega)
          have q3n2_0 : ¬ w3.heap.size = w.heap.size + 1 + 1 := (by omega)
          have q3n2_1 : ¬ w3.heap.size + 1 = w.heap.size + 1 + 1 := (by omega)
          have q3n2_2 : ¬ w3.heap.size + 2 = w.heap.size + 1 + 1 := (by omega)
          have q3c2_0 := hb.cell (p := ⟨w.heap.size + 1 + 1, 0, none⟩) (by first | omega | (simp <;> omega))
          simp [go_sem, *] at q3c2_0
          have q3c2_1 := hb.cell (p := ⟨w.heap.size + 1 + 1, 1, none⟩) (by first | omega | (simp <;> omega))
          simp [go_sem, *] at q3c2_1
          have q3c2_2 := hb.cell (p := ⟨w.heap.size + 1 + 1, 2, none⟩) (by first | omega | (simp <;> omega))
          simp [go_sem, *] at q3c2_2
          have q3c2_3 := hb.cell (p := ⟨w.heap.size + 1 + 1, 3, none⟩) (by first | omega | (simp <;> omega))
          simp [go_sem, *] at q3c2_3
          have q3c2_4 := hb.cell (p := ⟨w.heap.size + 1 + 1, 4, none⟩) (by first | omega | (simp <;> omega))
          simp [go_sem, *] at q3c2_4
          have q3c2_5 := hb.cell (p := ⟨w.heap.size + 1 + 1, 5, none⟩) (by first | omega | (simp <;> omega))
          simp [go_sem, *] at q3c2_5
          have q3c2_6 := hb.cell (p := ⟨w.heap.size + 1 + 1, 6, none⟩) (by first | omega | (simp <;> omega))
          simp [go_sem, *] at q3c2_6
          have q3c2_7 := hb.cell (p := ⟨w.heap.size + 1 + 1, 7, none⟩) (by first | omega | (simp <;> omega))
          simp [go_sem, *] at q3c2_7
          have q3c2_8 := hb.cell (p := ⟨w.heap.size + 1 + 1, 8, none⟩) (by first | omega | (simp <;> omega))
          simp [go_sem, *] at q3c2_8
          have q3c2_9 := hb.cell (p := ⟨w.heap.size + 1 + 1, 9, none⟩) (by first | omega | (simp <;> omega))
          simp [go_sem, *] at q3c2_9
          have q3f2 := fun o => hb.frozen (p := ⟨w.heap.size + 1 + 1, o, none⟩) (by first | omega | (simp <;> omega))
          simp [go_sem, *] at q3f2
          have q3o : ∀ b o, b < wr.heap.size → w3.cell? ⟨b, o, none⟩ = wr.cell? ⟨b, o, none⟩ := fun b o h => q3B.cell (p := ⟨b, o, none⟩) h
          clear hb q2o q2f2 q2c2_9 q2c2_8 q2c2_7 q2c2_6 q2c2_5 q2c2_4 q2c2_3 q2c2_2 q2c2_1 q2c2_0 q2s2 q2f1 q2c1_3 q2c1_2 q2c1_1 q2c1_0 q2s1 q2f0 q2c0_19 q2s0 q2z q2B
          have B3 := hide (B2.out.trans (q3B.mono (by omega)))
          have BR3 := hide q3B
          have hz4 : wr.heap.size + 1 = w3.heap.size := by rw [hz3]; simp
          have HZ4 := hide hz4
          have hz5 : wr.heap.size < w3.heap.size := by omega
          have hjn2 : 1 + jn ≤ 1000001 := by omega
          clear hz3 hz4
          go_upto_region 10 with (at_builtin; go_loud (refine wpList_append_rowS _ rfl (.tmp 42) (.tmp 44) 29 rfl w3.heap.size 54 i0' (.agg #[.int .i64 0, .int .i64 0, .int .i64 0, .int .i64 0, .int .i64 0, .int .i64 0, .string ⟨#[]⟩, .string ⟨#[]⟩, .slice none 0 0, .int .u64 0]) 10 112 Tryd.underlying29 I0.out I1.out I2.out I3.out rfl (by decide) _ 1 _ rfl (World.ownsRow_lit (base := w3.heap.size) w3 _ 1 (Nat.le_refl _) (by decide) rfl) jA jn jc rfl (fun k => entC (E k)) (HE.out.below (B3.out.trans (by (repeat (first | (with_reducible exact Below.refl _ _) | (with_reducible assumption) | ((with_reducible refine Below.alloc ?_ ?_ _); (rotate_left); (first | omega | (simp <;> omega))) | ((with_reducible refine Below.setCell ?_ ?_ _); (rotate_left); (first | omega | (simp <;> omega))) | (with_reducible refine Below.drew ?_) | (with_reducible refine below_drewN ?_ _)))))).1 (cellsOfE E jn) (cellsOfE_len E jn) (cellsOfE_at E jn) (cellsOfE_ones E jn) (by simp only [maxLen]; omega) (by omega) (by simp) ?_); intro A1 c1 w6 ho hg hv; have hb6 := below_grown (B := w3.heap.size) hg (by simp) (fun k hk => Nat.le_of_eq (Option.some.inj hk)); have d19 := (cell_of_cells (blk_below hb6 hz5 (blk_under D3.out)) 19).trans HC.out.jou; have f19 := free_of_cells (blk_below hb6 hz5 (blk_under D3.out)) 19)
          have HD := hide (blk_setCell (i := 19) (v := .slice A1 (1 + jn) c1) (blk_below hb6 hz5 (blk_under D3.out)))
          have X6 := hide (blk_setOther (p := ⟨wr.heap.size, 19, none⟩) (v := .slice A1 (1 + jn) c1) (show w.heap.size ≠ wr.heap.size by omega) (blk_below hb6 (by omega) (blk_under X3.out)))
          have BW : Below wr.heap.size wr w6 := BR3.out.trans (Below.trans (by (repeat (first | (with_reducible exact Below.refl _ _) | (with_reducible assumption) | ((with_reducible refine Below.alloc ?_ ?_ _); (rotate_left); (first | omega | (simp <;> omega))) | ((with_reducible refine Below.setCell ?_ ?_ _); (rotate_left); (first | omega | (simp <;> omega))) | (with_reducible refine Below.drew ?_) | (with_reducible refine below_drewN ?_ _)))) (hb6.mono (by omega)))
          have hz6 := hb6.size
          simp at hz6
          have BD : Below wr.heap.size wr (w6.setCell ⟨wr.heap.size, 19, none⟩ (.slice A1 (1 + jn) c1)) := by (repeat (first | (with_reducible exact Below.refl _ _) | (with_reducible assumption) | ((with_reducible refine Below.alloc ?_ ?_ _); (rotate_left); (first | omega | (simp <;> omega))) | ((with_reducible refine Below.setCell ?_ ?_ _); (rotate_left); (first | omega | (simp <;> omega))) | (with_reducible refine Below.drew ?_) | (with_reducible refine below_drewN ?_ _)))
          have BDH := hide BD
          have B6 := hide (B2.out.trans (BD.mono (by omega)))
          have HJ6 := hide (cons_jrn (e := ⟨i0, i1, i2, i3, i4, i5, key, tx, lA, k, lc, ch, legs⟩) (E := E) rfl (owns_else ho (p := ⟨wr.heap.size, 19, none⟩) hz5 (.slice A1 (1 + jn) c1)) (HL.out.below B6.out) (by show k ≤ 1000000; omega) (fun j hj => ⟨(HJ.out.row.2 j hj).below B6.out, HJ.out.legs j hj⟩))
          obtain ⟨S, hS⟩ : ∃ S, S = mkS E jn (hasA a x0 an) x0 x1 x2 x3 := ⟨_, rfl⟩
          obtain ⟨R, hR⟩ : ∃ R, R = mkE (hasA a x0 an) x1 x2 x3 := ⟨_, rfl⟩
          have hl : S.ls.length ≤ 1000000 := Nat.le_trans (by rw [hS]; exact mkS_len ..) hjn
          have HM := hide (fun w1 h1 h2 => by have h := make_any C aA an ac jA jn jc HC.out a E x0 x1 x2 x3 hn hjn w1 h1 h2; rw [← hS, ← hR] at h; exact h)
          have hSc : mkS (consE ⟨i0, i1, i2, i3, i4, i5, key, tx, lA, k, lc, ch, legs⟩ E) (1 + jn) (hasA a x0 an) x0 x1 x2 x3 = S := by rw [Nat.add_comm, mkS_cons HN.out, hS]
          have HN2 := hide (fun w1 h1 h2 => by
            have h := make_any _ aA an ac A1 (1 + jn) c1 (bks_set HC.out A1 (1 + jn) c1) a (consE ⟨i0, i1, i2, i3, i4, i5, key, tx, lA, k, lc, ch, legs⟩ E) x0 x1 x2 x3 hn (by have := (fewB_iff.1 HF.out).2.1; omega) w1 h1 h2
            rw [hSc, ← hR] at h
            exact h)
          have HWD := hide (show (Tryd.prog.info? 33).map (·.size) = some (C.setIfInBounds 19 (.slice A1 (1 + jn) c1)).size by rw [Array.size_setIfInBounds]; exact HW.out)
          have s0 : ¬ wr.heap.size = w.heap.size := by omega
          have s1 : ¬ wr.heap.size = w.heap.size + 1 := by omega
          have s2 : ¬ wr.heap.size = w.heap.size + 1 + 1 := by omega
          have y0 := (hb6.cell (p := ⟨w.heap.size + 1, 0, none⟩) (by show w.heap.size + 1 < _; omega))
          have y1 := (hb6.cell (p := ⟨w.heap.size + 1, 1, none⟩) (by show w.heap.size + 1 < _; omega))
          have y2 := (hb6.cell (p := ⟨w.heap.size + 1, 2, none⟩) (by show w.heap.size + 1 < _; omega))
          have y3 := (hb6.cell (p := ⟨w.heap.size + 1, 3, none⟩) (by show w.heap.size + 1 < _; omega))
          simp [go_sem, *] at y0 y1 y2 y3
          clear hSc hS hR ho hg hv hb6 d19 f19 BW BD
          go_wp2_with (with_reducible refine wpList_load_row rfl 33 (.tmp 3) rfl w.heap.size rfl 33 C (0, 0) _ X6.out Tryd.underlying33 rfl HW.out ?_)
          refine (HM.out _ (HR.out.below B6.out) (HJ.out.below B6.out)).mono ?_
          rintro e w7 ⟨A, c, rfl, hrow, hb⟩
          have HA := hide hrow
          have D7 := hide (blk_below hb (by simp; omega) HD.out)
          have HJ7 := hide (HJ6.out.below hb)
          have BD := BDH.out
          clear hrow
          have q4B : Below wr.heap.size wr w7 := (by refine Below.trans ?_ (hb.mono (by first | omega | (simp <;> omega))); (repeat (first | (with_reducible exact Below.refl _ _) | (with_reducible assumption) | ((with_reducible refine Below.alloc ?_ ?_ _); (rotate_left); (first | omega | (simp <;> omega))) | ((with_reducible refine Below.setCell ?_ ?_ _); (rotate_left); (first | omega | (simp <;> omega))) | (with_reducible refine Below.drew ?_) | (with_reducible refine below_drewN ?_ _))))
          have q4z := hb.size
          try simp at q4z
          have q4t : wr.heap.size ≤ w7.heap.size := (by omega)
          have q4s0 : w.heap.size + 1 < w7.heap.size := (by omega)
          have q4n0_0 : ¬ w7.heap.size = w.heap.size + 1 := (by omega)
          have q4n0_1 : ¬ w7.heap.size + 1 = w.heap.size + 1 := (by omega)
          have q4n0_2 : ¬ w7.heap.size + 2 = w.heap.size + 1 := (by omega)
          have q4c0_0 := hb.cell (p := ⟨w.heap.size + 1, 0, none⟩) (by first | omega | (simp <;> omega))
          simp [go_sem, *] at q4c0_0
          have q4c0_1 := hb.cell (p := ⟨w.heap.size + 1, 1, none⟩) (by first | omega | (simp <;> omega))
          simp [go_sem, *] at q4c0_1
          have q4c0_2 := hb.cell (p := ⟨w.heap.size + 1, 2, none⟩) (by first | omega | (simp <;> omega))
          simp [go_sem, *] at q4c0_2
          have q4c0_3 := hb.cell (p := ⟨w.heap.size + 1, 3, none⟩) (by first | omega | (simp <;> omega))
          simp [go_sem, *] at q4c0_3
          have q4f0 := fun o => hb.frozen (p := ⟨w.heap.size + 1, o, none⟩) (by first | omega | (simp <;> omega))
          simp [go_sem, *] at q4f0
          have q4o : ∀ b o, b < wr.heap.size → w7.cell? ⟨b, o, none⟩ = wr.cell? ⟨b, o, none⟩ := fun b o h => q4B.cell (p := ⟨b, o, none⟩) h
          clear hb q3o q3f2 q3c2_9 q3c2_8 q3c2_7 q3c2_6 q3c2_5 q3c2_4 q3c2_3 q3c2_2 q3c2_1 q3c2_0 q3s2 q3f1 q3c1_3 q3c1_2 q3c1_1 q3c1_0 q3s1 q3f0 q3c0_19 q3s0 q3z q3B
          clear BD
          have B7 := hide (B2.out.trans (q4B.mono (by omega)))
          go_wp2_with (with_reducible refine wpList_load_row rfl 33 (.tmp 8) rfl wr.heap.size rfl 33 _ (0, 0) _ (blk_under D7.out) Tryd.underlying33 rfl HWD.out ?_)
          refine (HN2.out _ (HR.out.below (B7.out.trans (by (repeat (first | (with_reducible exact Below.refl _ _) | (with_reducible assumption) | ((with_reducible refine Below.alloc ?_ ?_ _); (rotate_left); (first | omega | (simp <;> omega))) | ((with_reducible refine Below.setCell ?_ ?_ _); (rotate_left); (first | omega | (simp <;> omega))) | (with_reducible refine Below.drew ?_) | (with_reducible refine below_drewN ?_ _)))))) (HJ7.out.below (by (repeat (first | (with_reducible exact Below.refl _ _) | (with_reducible assumption) | ((with_reducible refine Below.alloc ?_ ?_ _); (rotate_left); (first | omega | (simp <;> omega))) | ((with_reducible refine Below.setCell ?_ ?_ _); (rotate_left); (first | omega | (simp <;> omega))) | (with_reducible refine Below.drew ?_) | (with_reducible refine below_drewN ?_ _)))))).mono ?_
          rintro e w8 ⟨A', c', rfl, hrow, hb⟩
          have HA' := hide hrow
          clear hrow
          have q5B : Below w7.heap.size w7 w8 := (by refine Below.trans ?_ (hb.mono (by first | omega | (simp <;> omega))); (repeat (first | (with_reducible exact Below.refl _ _) | (with_reducible assumption) | ((with_reducible refine Below.alloc ?_ ?_ _); (rotate_left); (first | omega | (simp <;> omega))) | ((with_reducible refine Below.setCell ?_ ?_ _); (rotate_left); (first | omega | (simp <;> omega))) | (with_reducible refine Below.drew ?_) | (with_reducible refine below_drewN ?_ _))))
          have q5z := hb.size
          try simp at q5z
          have q5t : w7.heap.size ≤ w8.heap.size := (by omega)
          have q5s0 : w7.heap.size < w8.heap.size := (by omega)
          have q5n0_0 : ¬ w8.heap.size = w7.heap.size := (by omega)
          have q5n0_1 : ¬ w8.heap.size + 1 = w7.heap.size := (by omega)
          have q5n0_2 : ¬ w8.heap.size + 2 = w7.heap.size := (by omega)
          have q5c0_0 := hb.cell (p := ⟨w7.heap.size, 0, none⟩) (by first | omega | (simp <;> omega))
          simp [go_sem, *] at q5c0_0
          have q5c0_1 := hb.cell (p := ⟨w7.heap.size, 1, none⟩) (by first | omega | (simp <;> omega))
          simp [go_sem, *] at q5c0_1
          have q5c0_2 := hb.cell (p := ⟨w7.heap.size, 2, none⟩) (by first | omega | (simp <;> omega))
          simp [go_sem, *] at q5c0_2
          have q5c0_3 := hb.cell (p := ⟨w7.heap.size, 3, none⟩) (by first | omega | (simp <;> omega))
          simp [go_sem, *] at q5c0_3
          have q5c0_4 := hb.cell (p := ⟨w7.heap.size, 4, none⟩) (by first | omega | (simp <;> omega))
          simp [go_sem, *] at q5c0_4
          have q5c0_5 := hb.cell (p := ⟨w7.heap.size, 5, none⟩) (by first | omega | (simp <;> omega))
          simp [go_sem, *] at q5c0_5
          have q5c0_6 := hb.cell (p := ⟨w7.heap.size, 6, none⟩) (by first | omega | (simp <;> omega))
          simp [go_sem, *] at q5c0_6
          have q5f0 := fun o => hb.frozen (p := ⟨w7.heap.size, o, none⟩) (by first | omega | (simp <;> omega))
          simp [go_sem, *] at q5f0
          have q5o : ∀ b o, b < w7.heap.size → w8.cell? ⟨b, o, none⟩ = w7.cell? ⟨b, o, none⟩ := fun b o h => q5B.cell (p := ⟨b, o, none⟩) h
          clear hb q4o q4f0 q4c0_3 q4c0_2 q4c0_1 q4c0_0 q4s0 q4z q4B
          have B8 := hide q5B
          go_wp2_with fail
          refine (same_eq S.ac S.no S.f S.t S.op S.cl A A' S.ls.length c c' (atP S.ls) hl _ (HA.out.below (B8.out.trans (by (repeat (first | (with_reducible exact Below.refl _ _) | (with_reducible assumption) | ((with_reducible refine Below.alloc ?_ ?_ _); (rotate_left); (first | omega | (simp <;> omega))) | ((with_reducible refine Below.setCell ?_ ?_ _); (rotate_left); (first | omega | (simp <;> omega))) | (with_reducible refine Below.drew ?_) | (with_reducible refine below_drewN ?_ _)))))) (HA'.out.below (by (repeat (first | (with_reducible exact Below.refl _ _) | (with_reducible assumption) | ((with_reducible refine Below.alloc ?_ ?_ _); (rotate_left); (first | omega | (simp <;> omega))) | ((with_reducible refine Below.setCell ?_ ?_ _); (rotate_left); (first | omega | (simp <;> omega))) | (with_reducible refine Below.drew ?_) | (with_reducible refine below_drewN ?_ _)))))).mono ?_
          rintro e w9 ⟨rfl, hb⟩
          have q6B : Below w8.heap.size w8 w9 := (by refine Below.trans ?_ (hb.mono (by first | omega | (simp <;> omega))); (repeat (first | (with_reducible exact Below.refl _ _) | (with_reducible assumption) | ((with_reducible refine Below.alloc ?_ ?_ _); (rotate_left); (first | omega | (simp <;> omega))) | ((with_reducible refine Below.setCell ?_ ?_ _); (rotate_left); (first | omega | (simp <;> omega))) | (with_reducible refine Below.drew ?_) | (with_reducible refine below_drewN ?_ _))))
          have q6z := hb.size
          try simp at q6z
          have q6t : w8.heap.size ≤ w9.heap.size := (by omega)
          have q6s0 : w7.heap.size < w9.heap.size := (by omega)
          have q6n0_0 : ¬ w9.heap.size = w7.heap.size := (by omega)
          have q6n0_1 : ¬ w9.heap.size + 1 = w7.heap.size := (by omega)
          have q6n0_2 : ¬ w9.heap.size + 2 = w7.heap.size := (by omega)
          have q6c0_0 := hb.cell (p := ⟨w7.heap.size, 0, none⟩) (by first | omega | (simp <;> omega))
          simp [go_sem, *] at q6c0_0
          have q6c0_1 := hb.cell (p := ⟨w7.heap.size, 1, none⟩) (by first | omega | (simp <;> omega))
          simp [go_sem, *] at q6c0_1
          have q6c0_2 := hb.cell (p := ⟨w7.heap.size, 2, none⟩) (by first | omega | (simp <;> omega))
          simp [go_sem, *] at q6c0_2
          have q6c0_3 := hb.cell (p := ⟨w7.heap.size, 3, none⟩) (by first | omega | (simp <;> omega))
          simp [go_sem, *] at q6c0_3
          have q6c0_4 := hb.cell (p := ⟨w7.heap.size, 4, none⟩) (by first | omega | (simp <;> omega))
          simp [go_sem, *] at q6c0_4
          have q6c0_5 := hb.cell (p := ⟨w7.heap.size, 5, none⟩) (by first | omega | (simp <;> omega))
          simp [go_sem, *] at q6c0_5
          have q6c0_6 := hb.cell (p := ⟨w7.heap.size, 6, none⟩) (by first | omega | (simp <;> omega))
          simp [go_sem, *] at q6c0_6
          have q6f0 := fun o => hb.frozen (p := ⟨w7.heap.size, o, none⟩) (by first | omega | (simp <;> omega))
          simp [go_sem, *] at q6f0
          have q6o : ∀ b o, b < w8.heap.size → w9.cell? ⟨b, o, none⟩ = w8.cell? ⟨b, o, none⟩ := fun b o h => q6B.cell (p := ⟨b, o, none⟩) h
          clear hb q5o q5f0 q5c0_6 q5c0_5 q5c0_4 q5c0_3 q5c0_2 q5c0_1 q5c0_0 q5s0 q5z q5B
          have B9 := hide (B7.out.trans ((B8.out.mono (by omega)).trans (q6B.mono (by omega))))
          have z9 := B9.out.size
          go_wp2_with fail
          refine (lives_any _ (HT.out.below B9.out)).mono ?_
          rintro e w10 ⟨rfl, hb⟩
          go_wp2_with fail
          go_ret
          exact ⟨rfl, B9.out.trans (hb.mono z9)⟩
end Go.Proofs.YtodfpfbcjiganaaDoor
