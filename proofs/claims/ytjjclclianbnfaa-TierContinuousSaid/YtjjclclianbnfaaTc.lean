/- Contracts of package tier and of its reference, 3: the reference's Check. -/
import Derived.Test.YtjjclclianbnfaaTb
namespace Go.Proofs.Ytjjclclianbnfaa
open Go.RowKit

def RCheckInv2 (n : Nat) (f : Nat → Int) (w : World) (v : Value) (wr : World) : Prop :=
  ∃ m : Nat, (m + 1 ≤ n ∨ m = 0) ∧ v = .int .i64 (m + 1 : Nat) ∧ ascB (m + 1) f ∧ Below w.heap.size w wr
set_option maxHeartbeats 2000000 in
theorem rcheck_any (A : Option Addr) (n c : Nat) (f g : Nat → Int) (hl : n ≤ 140737488355328) (w : World) (hr : Row2 w A n f g) :
    Calls Try.prog 11 #[.slice A n c] w fun e w' => e = .returned (.int .i64 (chk n f g)) ∧ Below w.heap.size w w' := by
  by_cases hn : 6 < n
  · have HC := hide (chk_5 (f := f) (g := g) hn)
    go_enter Try.func11, Try.ntmps11
    go_wp2_with fail
    go_ret
    exact ⟨ret_int HC.out.symm, by (repeat (first | (with_reducible exact Below.refl _ _) | (with_reducible assumption) | ((with_reducible refine Below.alloc ?_ ?_ _); (rotate_left); (first | omega | (simp <;> omega))) | ((with_reducible refine Below.setCell ?_ ?_ _); (rotate_left); (first | omega | (simp <;> omega))) | (with_reducible refine Below.drew ?_) | (with_reducible refine below_drewN ?_ _)))⟩
  have hn := Nat.not_lt.1 hn
  go_enter Try.func11, Try.ntmps11
  go_wp2_with fail
  go_loopw [3] (fun v wr => CheckInv n f g w v wr) (fun v _ => n - (intOf v).toNat)
  case atStart => exact ⟨0, by omega, rfl, fun j hj => by omega, Below.refl _ _⟩
  case round =>
    obtain ⟨k, hk, rfl, ha, hB⟩ := hrel
    have HA := hide ha
    clear ha
    have hzB := hB.size
    by_cases hlt : k < n
    · obtain ⟨b, off, rfl, hbl, hc⟩ := (hr.below hB) (by omega)
      obtain ⟨c0, c1⟩ := hc k hlt
      clear hc
      by_cases hin : inB (f k) (g k)
      · have HD := hide (allB_succ HA.out hin)
        obtain ⟨i1, i2, i3, i4⟩ := hin
        go_wp2_with fail
        go_roundw
        case rel => exact ⟨k + 1, by omega, by go_num, HD.out, by (repeat (first | (with_reducible exact Below.refl _ _) | (with_reducible assumption) | ((with_reducible refine Below.alloc ?_ ?_ _); (rotate_left); (first | omega | (simp <;> omega))) | ((with_reducible refine Below.setCell ?_ ?_ _); (rotate_left); (first | omega | (simp <;> omega))) | (with_reducible refine Below.drew ?_) | (with_reducible refine below_drewN ?_ _)))⟩
        case measure => simp [intOf]; omega
      · have HD := hide (chk_1 hn hlt hin)
        have HI := hide hin
        clear hin
        go_wp2_with fail
        all_goals first
          | (go_ret; exact ⟨ret_int HD.out.symm, by (repeat (first | (with_reducible exact Below.refl _ _) | (with_reducible assumption) | ((with_reducible refine Below.alloc ?_ ?_ _); (rotate_left); (first | omega | (simp <;> omega))) | ((with_reducible refine Below.setCell ?_ ?_ _); (rotate_left); (first | omega | (simp <;> omega))) | (with_reducible refine Below.drew ?_) | (with_reducible refine below_drewN ?_ _)))⟩)
          | (exfalso; exact HI.out ⟨by omega, by omega, by omega, by omega⟩)
    · have hkn : k = n := by omega
      subst hkn
      clear hlt hk hzB
      go_wp2_with fail
      go_loopw [4] (fun v wx => RCheckInv2 k f w v wx) (fun v _ => k - (intOf v).toNat)
      case atStart => exact ⟨0, by omega, rfl, fun j hj => by omega, hB⟩
      case round =>
        obtain ⟨m, hm, rfl, ha, hBx⟩ := hrel
        have HS := hide ha
        clear ha
        have hzB := hBx.size
        by_cases hlt : m + 1 < k
        · obtain ⟨b, off, rfl, hbl, hc⟩ := (hr.below hBx) (by omega)
          obtain ⟨c0, c1⟩ := hc (m + 1) hlt
          obtain ⟨d0, d1⟩ := hc m (by omega)
          clear hc
          have hw : IntKind.i64.wrap (m : Int) = m := by rw [IntKind.wrap_i64]; omega
          have hm1 : (m : Int) < k := by omega
          have hm2 : (m : Int) + 1 < k := by omega
          have hm3 : (0 : Int) ≤ (m : Int) + 1 := by omega
          by_cases hlt2 : f m < f (m + 1)
          · have HD := hide (ascB_succ (by omega) HS.out hlt2)
            go_wp2_with fail
            refine ord_start (SB (wr.heap.size) [] _) 12 #[false, false, false, false, false, false, false, false, false, false, false, false] (by kernel_rfl) (by kernel_rfl) (by kernel_rfl) SB.refl.drew (fun hHeld => ?_)
            refine ord_take (i := 0) #[true, false, false, false, false, false, false, false, false, false, false, false] ?_ rfl (by kernel_rfl) (by kernel_rfl) (by kernel_rfl) (by kernel_rfl) (fun _ _ _ h => h) hHeld (by rfl) (fun wx hSx => ?_) ?_
            rotate_left
            · (unfold SB at hSx; go_simp; (try with_reducible rfl))
            (try simp only [Act.put, List.setIfInBounds_toArray, List.set_cons_zero, List.set_cons_succ])
            refine ord_take (i := 1) #[true, true, false, false, false, false, false, false, false, false, false, false] ?_ rfl (by kernel_rfl) (by kernel_rfl) (by kernel_rfl) (by kernel_rfl) (fun _ _ _ h => h) hHeld (by rfl) (fun wx hSx => ?_) ?_
            rotate_left
            · (unfold SB at hSx; go_simp; (try with_reducible rfl))
            (try simp only [Act.put, List.setIfInBounds_toArray, List.set_cons_zero, List.set_cons_succ])
            refine ord_take (i := 2) #[true, true, true, false, false, false, false, false, false, false, false, false] ?_ rfl (by kernel_rfl) (by kernel_rfl) (by kernel_rfl) (by kernel_rfl) (fun _ _ _ h => h) hHeld (by rfl) (fun wx hSx => ?_) ?_
            rotate_left
            · (unfold SB at hSx; go_simp; (try with_reducible rfl))
            (try simp only [Act.put, List.setIfInBounds_toArray, List.set_cons_zero, List.set_cons_succ])
            refine ord_take (i := 3) #[true, true, true, true, false, false, false, false, false, false, false, false] ?_ rfl (by kernel_rfl) (by kernel_rfl) (by kernel_rfl) (by kernel_rfl) (fun _ _ _ h => h) hHeld (by rfl) (fun wx hSx => ?_) ?_
            rotate_left
            · (unfold SB at hSx; go_simp; (try with_reducible rfl))
            (try simp only [Act.put, List.setIfInBounds_toArray, List.set_cons_zero, List.set_cons_succ])
            refine ord_take (i := 4) #[true, true, true, true, true, false, false, false, false, false, false, false] ?_ rfl (by kernel_rfl) (by kernel_rfl) (by kernel_rfl) (by kernel_rfl) (fun _ _ _ h => h) hHeld (by rfl) (fun wx hSx => ?_) ?_
            rotate_left
            · (unfold SB at hSx; go_simp; (try with_reducible rfl))
            (try simp only [Act.put, List.setIfInBounds_toArray, List.set_cons_zero, List.set_cons_succ])
            refine ord_take (i := 5) #[true, true, true, true, true, true, false, false, false, false, false, false] ?_ rfl (by kernel_rfl) (by kernel_rfl) (by kernel_rfl) (by kernel_rfl) (fun _ _ _ h => h) hHeld (by rfl) (fun wx hSx => ?_) ?_
            rotate_left
            · (unfold SB at hSx; go_simp; (try with_reducible rfl))
            (try simp only [Act.put, List.setIfInBounds_toArray, List.set_cons_zero, List.set_cons_succ])
            refine ord_take (i := 6) #[true, true, true, true, true, true, true, false, false, false, false, false] ?_ rfl (by kernel_rfl) (by kernel_rfl) (by kernel_rfl) (by kernel_rfl) (fun _ _ _ h => h) hHeld (by rfl) (fun wx hSx => ?_) ?_
            rotate_left
            · (unfold SB at hSx; go_simp; (try with_reducible rfl))
            (try simp only [Act.put, List.setIfInBounds_toArray, List.set_cons_zero, List.set_cons_succ])
            refine ord_take (i := 7) #[true, true, true, true, true, true, true, true, false, false, false, false] ?_ rfl (by kernel_rfl) (by kernel_rfl) (by kernel_rfl) (by kernel_rfl) (fun _ _ _ h => h) hHeld (by rfl) (fun wx hSx => ?_) ?_
            rotate_left
            · (unfold SB at hSx; go_simp; (try with_reducible rfl))
            (try simp only [Act.put, List.setIfInBounds_toArray, List.set_cons_zero, List.set_cons_succ])
            refine ord_take (i := 8) #[true, true, true, true, true, true, true, true, true, false, false, false] ?_ rfl (by kernel_rfl) (by kernel_rfl) (by kernel_rfl) (by kernel_rfl) (fun _ _ _ h => h) hHeld (by rfl) (fun wx hSx => ?_) ?_
            rotate_left
            · (unfold SB at hSx; go_simp; (try with_reducible rfl))
            (try simp only [Act.put, List.setIfInBounds_toArray, List.set_cons_zero, List.set_cons_succ])
            refine ord_take (i := 9) #[true, true, true, true, true, true, true, true, true, true, false, false] ?_ rfl (by kernel_rfl) (by kernel_rfl) (by kernel_rfl) (by kernel_rfl) (fun _ _ _ h => h) hHeld (by rfl) (fun wx hSx => ?_) ?_
            rotate_left
            · (unfold SB at hSx; go_simp; (try with_reducible rfl))
            (try simp only [Act.put, List.setIfInBounds_toArray, List.set_cons_zero, List.set_cons_succ])
            refine ord_take (i := 10) #[true, true, true, true, true, true, true, true, true, true, true, false] ?_ rfl (by kernel_rfl) (by kernel_rfl) (by kernel_rfl) (by kernel_rfl) (fun _ _ _ h => h) hHeld (by rfl) (fun wx hSx => ?_) ?_
            rotate_left
            · (unfold SB at hSx; go_simp; (try with_reducible rfl))
            (try simp only [Act.put, List.setIfInBounds_toArray, List.set_cons_zero, List.set_cons_succ])
            refine ord_take (i := 11) #[true, true, true, true, true, true, true, true, true, true, true, true] ?_ rfl (by kernel_rfl) (by kernel_rfl) (by kernel_rfl) (by kernel_rfl) (fun _ _ _ h => h) hHeld (by rfl) (fun wx hSx => ?_) ?_
            rotate_left
            · (unfold SB at hSx; go_simp; (try with_reducible rfl))
            (try simp only [Act.put, List.setIfInBounds_toArray, List.set_cons_zero, List.set_cons_succ])
            refine wpAnyH_done (by kernel_rfl) ?_ _
            go_wp2_with fail
            go_roundw
            case rel => exact ⟨m + 1, by omega, by go_num, HD.out, by (repeat (first | (with_reducible exact Below.refl _ _) | (with_reducible assumption) | ((with_reducible refine Below.alloc ?_ ?_ _); (rotate_left); (first | omega | (simp <;> omega))) | ((with_reducible refine Below.setCell ?_ ?_ _); (rotate_left); (first | omega | (simp <;> omega))) | (with_reducible refine Below.drew ?_) | (with_reducible refine below_drewN ?_ _)))⟩
            case measure => simp [intOf]; omega
          · have HD := hide (chk_10 (k := m + 1) hn HA.out (by omega) hlt (by simpa using hlt2))
            have hlt3 := Int.not_lt.1 hlt2
            clear hlt2
            go_wp2_with fail
            refine ord_start (SB (wr.heap.size) [] _) 12 #[false, false, false, false, false, false, false, false, false, false, false, false] (by kernel_rfl) (by kernel_rfl) (by kernel_rfl) SB.refl.drew (fun hHeld => ?_)
            refine ord_take (i := 0) #[true, false, false, false, false, false, false, false, false, false, false, false] ?_ rfl (by kernel_rfl) (by kernel_rfl) (by kernel_rfl) (by kernel_rfl) (fun _ _ _ h => h) hHeld (by rfl) (fun wx hSx => ?_) ?_
            rotate_left
            · (unfold SB at hSx; go_simp; (try with_reducible rfl))
            (try simp only [Act.put, List.setIfInBounds_toArray, List.set_cons_zero, List.set_cons_succ])
            refine ord_take (i := 1) #[true, true, false, false, false, false, false, false, false, false, false, false] ?_ rfl (by kernel_rfl) (by kernel_rfl) (by kernel_rfl) (by kernel_rfl) (fun _ _ _ h => h) hHeld (by rfl) (fun wx hSx => ?_) ?_
            rotate_left
            · (unfold SB at hSx; go_simp; (try with_reducible rfl))
            (try simp only [Act.put, List.setIfInBounds_toArray, List.set_cons_zero, List.set_cons_succ])
            refine ord_take (i := 2) #[true, true, true, false, false, false, false, false, false, false, false, false] ?_ rfl (by kernel_rfl) (by kernel_rfl) (by kernel_rfl) (by kernel_rfl) (fun _ _ _ h => h) hHeld (by rfl) (fun wx hSx => ?_) ?_
            rotate_left
            · (unfold SB at hSx; go_simp; (try with_reducible rfl))
            (try simp only [Act.put, List.setIfInBounds_toArray, List.set_cons_zero, List.set_cons_succ])
            refine ord_take (i := 3) #[true, true, true, true, false, false, false, false, false, false, false, false] ?_ rfl (by kernel_rfl) (by kernel_rfl) (by kernel_rfl) (by kernel_rfl) (fun _ _ _ h => h) hHeld (by rfl) (fun wx hSx => ?_) ?_
            rotate_left
            · (unfold SB at hSx; go_simp; (try with_reducible rfl))
            (try simp only [Act.put, List.setIfInBounds_toArray, List.set_cons_zero, List.set_cons_succ])
            refine ord_take (i := 4) #[true, true, true, true, true, false, false, false, false, false, false, false] ?_ rfl (by kernel_rfl) (by kernel_rfl) (by kernel_rfl) (by kernel_rfl) (fun _ _ _ h => h) hHeld (by rfl) (fun wx hSx => ?_) ?_
            rotate_left
            · (unfold SB at hSx; go_simp; (try with_reducible rfl))
            (try simp only [Act.put, List.setIfInBounds_toArray, List.set_cons_zero, List.set_cons_succ])
            refine ord_take (i := 5) #[true, true, true, true, true, true, false, false, false, false, false, false] ?_ rfl (by kernel_rfl) (by kernel_rfl) (by kernel_rfl) (by kernel_rfl) (fun _ _ _ h => h) hHeld (by rfl) (fun wx hSx => ?_) ?_
            rotate_left
            · (unfold SB at hSx; go_simp; (try with_reducible rfl))
            (try simp only [Act.put, List.setIfInBounds_toArray, List.set_cons_zero, List.set_cons_succ])
            refine ord_take (i := 6) #[true, true, true, true, true, true, true, false, false, false, false, false] ?_ rfl (by kernel_rfl) (by kernel_rfl) (by kernel_rfl) (by kernel_rfl) (fun _ _ _ h => h) hHeld (by rfl) (fun wx hSx => ?_) ?_
            rotate_left
            · (unfold SB at hSx; go_simp; (try with_reducible rfl))
            (try simp only [Act.put, List.setIfInBounds_toArray, List.set_cons_zero, List.set_cons_succ])
            refine ord_take (i := 7) #[true, true, true, true, true, true, true, true, false, false, false, false] ?_ rfl (by kernel_rfl) (by kernel_rfl) (by kernel_rfl) (by kernel_rfl) (fun _ _ _ h => h) hHeld (by rfl) (fun wx hSx => ?_) ?_
            rotate_left
            · (unfold SB at hSx; go_simp; (try with_reducible rfl))
            (try simp only [Act.put, List.setIfInBounds_toArray, List.set_cons_zero, List.set_cons_succ])
            refine ord_take (i := 8) #[true, true, true, true, true, true, true, true, true, false, false, false] ?_ rfl (by kernel_rfl) (by kernel_rfl) (by kernel_rfl) (by kernel_rfl) (fun _ _ _ h => h) hHeld (by rfl) (fun wx hSx => ?_) ?_
            rotate_left
            · (unfold SB at hSx; go_simp; (try with_reducible rfl))
            (try simp only [Act.put, List.setIfInBounds_toArray, List.set_cons_zero, List.set_cons_succ])
            refine ord_take (i := 9) #[true, true, true, true, true, true, true, true, true, true, false, false] ?_ rfl (by kernel_rfl) (by kernel_rfl) (by kernel_rfl) (by kernel_rfl) (fun _ _ _ h => h) hHeld (by rfl) (fun wx hSx => ?_) ?_
            rotate_left
            · (unfold SB at hSx; go_simp; (try with_reducible rfl))
            (try simp only [Act.put, List.setIfInBounds_toArray, List.set_cons_zero, List.set_cons_succ])
            refine ord_take (i := 10) #[true, true, true, true, true, true, true, true, true, true, true, false] ?_ rfl (by kernel_rfl) (by kernel_rfl) (by kernel_rfl) (by kernel_rfl) (fun _ _ _ h => h) hHeld (by rfl) (fun wx hSx => ?_) ?_
            rotate_left
            · (unfold SB at hSx; go_simp; (try with_reducible rfl))
            (try simp only [Act.put, List.setIfInBounds_toArray, List.set_cons_zero, List.set_cons_succ])
            refine ord_take (i := 11) #[true, true, true, true, true, true, true, true, true, true, true, true] ?_ rfl (by kernel_rfl) (by kernel_rfl) (by kernel_rfl) (by kernel_rfl) (fun _ _ _ h => h) hHeld (by rfl) (fun wx hSx => ?_) ?_
            rotate_left
            · (unfold SB at hSx; go_simp; (try with_reducible rfl))
            (try simp only [Act.put, List.setIfInBounds_toArray, List.set_cons_zero, List.set_cons_succ])
            refine wpAnyH_done (by kernel_rfl) ?_ _
            go_wp2_with fail
            go_ret
            exact ⟨ret_int HD.out.symm, by (repeat (first | (with_reducible exact Below.refl _ _) | (with_reducible assumption) | ((with_reducible refine Below.alloc ?_ ?_ _); (rotate_left); (first | omega | (simp <;> omega))) | ((with_reducible refine Below.setCell ?_ ?_ _); (rotate_left); (first | omega | (simp <;> omega))) | (with_reducible refine Below.drew ?_) | (with_reducible refine below_drewN ?_ _)))⟩
        · have HS2 := hide (show ascB k f from fun j hj => HS.out j (by omega))
          by_cases h0 : 0 < k
          · obtain ⟨b, off, rfl, hbl, hc⟩ := (hr.below hBx) h0
            obtain ⟨c0, c1⟩ := hc 0 h0
            simp only [Nat.zero_mul, Nat.add_zero] at c0 c1
            clear hc
            have h0' : (0 : Int) < k := by omega
            by_cases hz : f 0 = 0
            · have HD := hide (chk_0 (g := g) hn HA.out HS2.out fun _ => hz)
              have hzb : (f 0 == 0) = true := beq_iff_eq.2 hz
              clear hz
              go_wp2_with fail
              go_ret
              exact ⟨ret_int HD.out.symm, by (repeat (first | (with_reducible exact Below.refl _ _) | (with_reducible assumption) | ((with_reducible refine Below.alloc ?_ ?_ _); (rotate_left); (first | omega | (simp <;> omega))) | ((with_reducible refine Below.setCell ?_ ?_ _); (rotate_left); (first | omega | (simp <;> omega))) | (with_reducible refine Below.drew ?_) | (with_reducible refine below_drewN ?_ _)))⟩
            · have HD := hide (chk_01 (g := g) hn HA.out HS2.out h0 hz)
              have hzb : (f 0 == 0) = false := beq_eq_false_iff_ne.2 hz
              clear hz
              go_wp2_with fail
              go_ret
              exact ⟨ret_int HD.out.symm, by (repeat (first | (with_reducible exact Below.refl _ _) | (with_reducible assumption) | ((with_reducible refine Below.alloc ?_ ?_ _); (rotate_left); (first | omega | (simp <;> omega))) | ((with_reducible refine Below.setCell ?_ ?_ _); (rotate_left); (first | omega | (simp <;> omega))) | (with_reducible refine Below.drew ?_) | (with_reducible refine below_drewN ?_ _)))⟩
          · have HD := hide (chk_0 (g := g) hn HA.out HS2.out fun h => absurd h h0)
            obtain rfl : k = 0 := by omega
            go_wp2_with fail
            go_ret
            exact ⟨ret_int HD.out.symm, by (repeat (first | (with_reducible exact Below.refl _ _) | (with_reducible assumption) | ((with_reducible refine Below.alloc ?_ ?_ _); (rotate_left); (first | omega | (simp <;> omega))) | ((with_reducible refine Below.setCell ?_ ?_ _); (rotate_left); (first | omega | (simp <;> omega))) | (with_reducible refine Below.drew ?_) | (with_reducible refine below_drewN ?_ _)))⟩
end Go.Proofs.Ytjjclclianbnfaa
