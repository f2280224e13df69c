/- Contracts of package tier and of its reference, 2: Check. -/
import Derived.Test.YtjjclclianbnfaaTa
namespace Go.Proofs.Ytjjclclianbnfaa
open Go.RowKit

def CheckInv (n : Nat) (f g : Nat → Int) (w : World) (v : Value) (wr : World) : Prop :=
  ∃ k : Nat, k ≤ n ∧ v = .int .i64 k ∧ allB k f g ∧ Below w.heap.size w wr
set_option maxHeartbeats 1000000 in
theorem tcheck_any (A : Option Addr) (n c : Nat) (f g : Nat → Int) (hl : n ≤ 140737488355328) (w : World) (hr : Row2 w A n f g) :
    Calls Try.prog 10 #[.slice A n c] w fun e w' => e = .returned (.int .i64 (chk n f g)) ∧ Below w.heap.size w w' := by
  by_cases hn : 6 < n
  · have HC := hide (chk_5 (f := f) (g := g) hn)
    go_enter Try.func10, Try.ntmps10
    go_wp2_with fail
    go_ret
    exact ⟨ret_int HC.out.symm, by (repeat (first | (with_reducible exact Below.refl _ _) | (with_reducible assumption) | ((with_reducible refine Below.alloc ?_ ?_ _); (rotate_left); (first | omega | (simp <;> omega))) | ((with_reducible refine Below.setCell ?_ ?_ _); (rotate_left); (first | omega | (simp <;> omega))) | (with_reducible refine Below.drew ?_) | (with_reducible refine below_drewN ?_ _)))⟩
  have hn := Nat.not_lt.1 hn
  go_enter Try.func10, Try.ntmps10
  go_wp2_with fail
  go_loopw [10] (fun v wr => CheckInv n f g w v wr) (fun v _ => n - (intOf v).toNat)
  case atStart => exact ⟨0, by omega, rfl, fun j hj => by omega, Below.refl _ _⟩
  case round =>
    obtain ⟨k, hk, rfl, ha, hB⟩ := hrel
    have HA := hide ha
    clear ha
    have hzB := hB.size
    by_cases hlt : k < n
    · obtain ⟨b, off, rfl, hbl, hc⟩ := (hr.below hB) (by omega)
      obtain ⟨c0, c1⟩ := hc k hlt
      clear hc
      by_cases hin : inB (f k) (g k)
      · have HD := hide (allB_succ HA.out hin)
        obtain ⟨i1, i2, i3, i4⟩ := hin
        go_wp2_with fail
        go_roundw
        case rel => exact ⟨k + 1, by omega, by go_num, HD.out, by (repeat (first | (with_reducible exact Below.refl _ _) | (with_reducible assumption) | ((with_reducible refine Below.alloc ?_ ?_ _); (rotate_left); (first | omega | (simp <;> omega))) | ((with_reducible refine Below.setCell ?_ ?_ _); (rotate_left); (first | omega | (simp <;> omega))) | (with_reducible refine Below.drew ?_) | (with_reducible refine below_drewN ?_ _)))⟩
        case measure => simp [intOf]; omega
      · have HD := hide (chk_1 hn hlt hin)
        have HI := hide hin
        clear hin
        go_wp2_with fail
        all_goals first
          | (go_ret; exact ⟨ret_int HD.out.symm, by (repeat (first | (with_reducible exact Below.refl _ _) | (with_reducible assumption) | ((with_reducible refine Below.alloc ?_ ?_ _); (rotate_left); (first | omega | (simp <;> omega))) | ((with_reducible refine Below.setCell ?_ ?_ _); (rotate_left); (first | omega | (simp <;> omega))) | (with_reducible refine Below.drew ?_) | (with_reducible refine below_drewN ?_ _)))⟩)
          | (exfalso; exact HI.out ⟨by omega, by omega, by omega, by omega⟩)
    · have hkn : k = n := by omega
      subst hkn
      go_wp2_with fail
      refine (asc_any A k c f g hn _ (hr.below hB)).mono ?_
      rintro e w1 ⟨rfl, hb⟩
      have q1B : Below w.heap.size w w1 := (by refine Below.trans ?_ (hb.mono (by first | omega | (simp <;> omega))); (repeat (first | (with_reducible exact Below.refl _ _) | (with_reducible assumption) | ((with_reducible refine Below.alloc ?_ ?_ _); (rotate_left); (first | omega | (simp <;> omega))) | ((with_reducible refine Below.setCell ?_ ?_ _); (rotate_left); (first | omega | (simp <;> omega))) | (with_reducible refine Below.drew ?_) | (with_reducible refine below_drewN ?_ _))))
      have q1z := hb.size
      try simp at q1z
      have q1t : w.heap.size ≤ w1.heap.size := (by omega)
      have q1o : ∀ b o, b < w.heap.size → w1.cell? ⟨b, o, none⟩ = w.cell? ⟨b, o, none⟩ := fun b o h => q1B.cell (p := ⟨b, o, none⟩) h
      clear hb
      by_cases hs : ascB k f
      · rw [decide_eq_true hs]
        by_cases h0 : 0 < k
        · obtain ⟨b, off, rfl, hbl, hc⟩ := (hr.below q1B) h0
          obtain ⟨c0, c1⟩ := hc 0 h0
          simp only [Nat.zero_mul, Nat.add_zero] at c0 c1
          clear hc
          have h0' : (0 : Int) < k := by omega
          by_cases hz : f 0 = 0
          · have HD := hide (chk_0 (g := g) hn HA.out hs fun _ => hz)
            have hzb : (f 0 == 0) = true := beq_iff_eq.2 hz
            clear hz hs
            go_wp2_with fail
            go_ret
            exact ⟨ret_int HD.out.symm, q1B⟩
          · have HD := hide (chk_01 (g := g) hn HA.out hs h0 hz)
            have hzb : (f 0 == 0) = false := beq_eq_false_iff_ne.2 hz
            clear hz hs
            go_wp2_with fail
            go_ret
            exact ⟨ret_int HD.out.symm, q1B⟩
        · have HD := hide (chk_0 (g := g) hn HA.out hs fun h => absurd h h0)
          obtain rfl : k = 0 := by omega
          clear hs
          go_wp2_with fail
          go_ret
          exact ⟨ret_int HD.out.symm, q1B⟩
      · rw [decide_eq_false hs]
        obtain ⟨j, hj1, hj2⟩ : ∃ j, j < k - 1 ∧ ¬ f j < f (j + 1) := by
          unfold ascB at hs
          simpa using hs
        have HD := hide (chk_10 (k := j + 1) hn HA.out (by omega) (by omega) (by simpa using hj2))
        clear hs hj2
        go_wp2_with fail
        go_ret
        exact ⟨ret_int HD.out.symm, q1B⟩
end Go.Proofs.Ytjjclclianbnfaa
