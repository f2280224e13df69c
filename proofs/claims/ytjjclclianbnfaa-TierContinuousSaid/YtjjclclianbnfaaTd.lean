/- Contracts of package tier and of its reference, 4: Rate. -/
import Derived.Test.YtjjclclianbnfaaTc
import Derived.Test.YtjjclclianbnfaaSlM
namespace Go.Proofs.Ytjjclclianbnfaa
open Go.RowKit

def RateInv (n : Nat) (f g : Nat → Int) (sz : Int) (w : World) (v5 v : Value) (wr : World) : Prop :=
  ∃ k : Nat, k ≤ n ∧ v = .int .i64 k ∧ v5 = .int .i64 (rateTo f g sz k) ∧ Below w.heap.size w wr
theorem rate_no {n : Nat} {f g : Nat → Int} {b : Int} (h : chk n f g ≠ 0) : rate n f g b = 0 := if_pos h
theorem rate_yes {n : Nat} {f g : Nat → Int} {b : Int} (h : chk n f g = 0) : rate n f g b = rateTo f g (tsz b) n := if_neg (by simpa using h)
set_option maxHeartbeats 1000000 in
theorem trate_any (A : Option Addr) (n c : Nat) (f g : Nat → Int) (b : Int) (b1 : -9223372036854775808 ≤ b) (b2 : b ≤ 9223372036854775807) (hl : n ≤ 140737488355328) (w : World) (hr : Row2 w A n f g) :
    Calls Try.prog 13 #[.slice A n c, .int .i64 b] w fun e w' => e = .returned (.int .i64 (rate n f g b)) ∧ Below w.heap.size w w' := by
  by_cases hc0 : chk n f g = 0
  · have HR := hide (rate_yes (b := b) hc0)
    have hn := (chk_ok hc0).1
    have HC := hide hc0
    clear hc0
    go_enter Try.func13, Try.ntmps13
    go_wp2_with fail
    refine (tcheck_any A n c f g hl _ hr).mono ?_
    rintro e w1 ⟨rfl, hb⟩
    rw [HC.out]
    have q1B : Below w.heap.size w w1 := (by refine Below.trans ?_ (hb.mono (by first | omega | (simp <;> omega))); (repeat (first | (with_reducible exact Below.refl _ _) | (with_reducible assumption) | ((with_reducible refine Below.alloc ?_ ?_ _); (rotate_left); (first | omega | (simp <;> omega))) | ((with_reducible refine Below.setCell ?_ ?_ _); (rotate_left); (first | omega | (simp <;> omega))) | (with_reducible refine Below.drew ?_) | (with_reducible refine below_drewN ?_ _))))
    have q1z := hb.size
    try simp at q1z
    have q1t : w.heap.size ≤ w1.heap.size := (by omega)
    have q1o : ∀ b o, b < w.heap.size → w1.cell? ⟨b, o, none⟩ = w.cell? ⟨b, o, none⟩ := fun b o h => q1B.cell (p := ⟨b, o, none⟩) h
    clear hb
    go_wp2_with fail
    go_loopw [5, 13] (fun v5 v wr => RateInv n f g (tsz b) w v5 v wr) (fun _ v _ => n - (intOf v).toNat)
    case atStart => exact ⟨0, by omega, rfl, rfl, q1B⟩
    case round =>
      obtain ⟨k, hk, rfl, rfl, hB⟩ := hrel
      have hzB := hB.size
      by_cases hlt : k < n
      · obtain ⟨bb, off, rfl, hbl, hc⟩ := (hr.below hB) (by omega)
        obtain ⟨c0, c1⟩ := hc k hlt
        clear hc
        by_cases hle : f k ≤ tsz b
        · have HD := hide (show rateTo f g (tsz b) (k + 1) = g k from if_pos hle)
          go_wp2_with fail
          refine ord_start (SB (wr.heap.size + 1) [] _) 5 #[false, false, false, false, false] (by kernel_rfl) (by kernel_rfl) (by kernel_rfl) SB.refl.drew (fun hHeld => ?_)
          refine ord_take (i := 0) #[true, false, false, false, false] ?_ rfl (by kernel_rfl) (by kernel_rfl) (by kernel_rfl) (by kernel_rfl) (fun _ _ _ h => h) hHeld (by rfl) (fun wx hSx => ?_) ?_
          rotate_left
          · (unfold SB at hSx; go_simp; (try with_reducible rfl))
          (try simp only [Act.put, List.setIfInBounds_toArray, List.set_cons_zero, List.set_cons_succ])
          refine ord_take (i := 1) #[true, true, false, false, false] ?_ rfl (by kernel_rfl) (by kernel_rfl) (by kernel_rfl) (by kernel_rfl) (fun _ _ _ h => h) hHeld (by rfl) (fun wx hSx => ?_) ?_
          rotate_left
          · (unfold SB at hSx; go_simp; (try with_reducible rfl))
          (try simp only [Act.put, List.setIfInBounds_toArray, List.set_cons_zero, List.set_cons_succ])
          refine ord_take (i := 2) #[true, true, true, false, false] ?_ rfl (by kernel_rfl) (by kernel_rfl) (by kernel_rfl) (by kernel_rfl) (fun _ _ _ h => h) hHeld (by rfl) (fun wx hSx => ?_) ?_
          rotate_left
          · (unfold SB at hSx; go_simp; (try with_reducible rfl))
          (try simp only [Act.put, List.setIfInBounds_toArray, List.set_cons_zero, List.set_cons_succ])
          refine wpAnyH_ready (rs := [3]) (by kernel_rfl) (by simp) ?_
          refine ord_run (i := 3) #[true, true, true, true, false] rfl (by kernel_rfl) (by rfl) (fun K hK => ?_) AllReadyH.nil
          go_simp
          go_wp2_with (go_at_call 26; refine (tsize_any b b1 b2 _).mono ?_; rintro e w2 ⟨rfl, rfl⟩)
          refine hK.out _ _ ?_ (fun hHeld => ?_)
          · (repeat (first | (with_reducible exact SB.refl) | (with_reducible exact hHeld) | (with_reducible refine SB.drew ?_) | (with_reducible refine SB.drewN ?_ _) | ((with_reducible refine SB.alloc ?_ ?_ _); (rotate_left); (first | omega | (simp <;> omega))) | ((with_reducible refine SB.setCell ?_ ?_ _); (rotate_left); (focus (simp; done))) | ((with_reducible refine SB.below ?_ hbS ?_); (rotate_left); (first | omega | (simp <;> omega))) | (with_reducible refine SB.undrew ?_) | ((with_reducible refine SB.congr ?_ ?_); (rotate_left); (focus (simp; done))) | ((with_reducible refine SB.realloc ?_ ?_ ?_); (rotate_left); (focus (simp; done)); (focus (simp; done)))))
          clear hK K
          (try simp only [Act.put, List.setIfInBounds_toArray, List.set_cons_zero, List.set_cons_succ])
          refine ord_take (i := 4) #[true, true, true, true, true] ?_ rfl (by kernel_rfl) (by kernel_rfl) (by kernel_rfl) (by kernel_rfl) (fun _ _ _ h => h) hHeld (by rfl) (fun wx hSx => ?_) ?_
          rotate_left
          · (unfold SB at hSx; go_simp; (try with_reducible rfl))
          (try simp only [Act.put, List.setIfInBounds_toArray, List.set_cons_zero, List.set_cons_succ])
          refine wpAnyH_done (by kernel_rfl) ?_ _
          go_wp2_with fail
          go_roundw
          case rel => exact ⟨k + 1, by omega, by go_num, by rw [HD.out], by (repeat (first | (with_reducible exact Below.refl _ _) | (with_reducible assumption) | ((with_reducible refine Below.alloc ?_ ?_ _); (rotate_left); (first | omega | (simp <;> omega))) | ((with_reducible refine Below.setCell ?_ ?_ _); (rotate_left); (first | omega | (simp <;> omega))) | (with_reducible refine Below.drew ?_) | (with_reducible refine below_drewN ?_ _)))⟩
          case measure => simp [intOf]; omega
        · have HD := hide (show rateTo f g (tsz b) (k + 1) = rateTo f g (tsz b) k from if_neg hle)
          have hle2 := Int.not_le.1 hle
          clear hle
          go_wp2_with fail
          refine ord_start (SB (wr.heap.size + 1) [] _) 5 #[false, false, false, false, false] (by kernel_rfl) (by kernel_rfl) (by kernel_rfl) SB.refl.drew (fun hHeld => ?_)
          refine ord_take (i := 0) #[true, false, false, false, false] ?_ rfl (by kernel_rfl) (by kernel_rfl) (by kernel_rfl) (by kernel_rfl) (fun _ _ _ h => h) hHeld (by rfl) (fun wx hSx => ?_) ?_
          rotate_left
          · (unfold SB at hSx; go_simp; (try with_reducible rfl))
          (try simp only [Act.put, List.setIfInBounds_toArray, List.set_cons_zero, List.set_cons_succ])
          refine ord_take (i := 1) #[true, true, false, false, false] ?_ rfl (by kernel_rfl) (by kernel_rfl) (by kernel_rfl) (by kernel_rfl) (fun _ _ _ h => h) hHeld (by rfl) (fun wx hSx => ?_) ?_
          rotate_left
          · (unfold SB at hSx; go_simp; (try with_reducible rfl))
          (try simp only [Act.put, List.setIfInBounds_toArray, List.set_cons_zero, List.set_cons_succ])
          refine ord_take (i := 2) #[true, true, true, false, false] ?_ rfl (by kernel_rfl) (by kernel_rfl) (by kernel_rfl) (by kernel_rfl) (fun _ _ _ h => h) hHeld (by rfl) (fun wx hSx => ?_) ?_
          rotate_left
          · (unfold SB at hSx; go_simp; (try with_reducible rfl))
          (try simp only [Act.put, List.setIfInBounds_toArray, List.set_cons_zero, List.set_cons_succ])
          refine wpAnyH_ready (rs := [3]) (by kernel_rfl) (by simp) ?_
          refine ord_run (i := 3) #[true, true, true, true, false] rfl (by kernel_rfl) (by rfl) (fun K hK => ?_) AllReadyH.nil
          go_simp
          go_wp2_with (go_at_call 26; refine (tsize_any b b1 b2 _).mono ?_; rintro e w2 ⟨rfl, rfl⟩)
          refine hK.out _ _ ?_ (fun hHeld => ?_)
          · (repeat (first | (with_reducible exact SB.refl) | (with_reducible exact hHeld) | (with_reducible refine SB.drew ?_) | (with_reducible refine SB.drewN ?_ _) | ((with_reducible refine SB.alloc ?_ ?_ _); (rotate_left); (first | omega | (simp <;> omega))) | ((with_reducible refine SB.setCell ?_ ?_ _); (rotate_left); (focus (simp; done))) | ((with_reducible refine SB.below ?_ hbS ?_); (rotate_left); (first | omega | (simp <;> omega))) | (with_reducible refine SB.undrew ?_) | ((with_reducible refine SB.congr ?_ ?_); (rotate_left); (focus (simp; done))) | ((with_reducible refine SB.realloc ?_ ?_ ?_); (rotate_left); (focus (simp; done)); (focus (simp; done)))))
          clear hK K
          (try simp only [Act.put, List.setIfInBounds_toArray, List.set_cons_zero, List.set_cons_succ])
          refine ord_take (i := 4) #[true, true, true, true, true] ?_ rfl (by kernel_rfl) (by kernel_rfl) (by kernel_rfl) (by kernel_rfl) (fun _ _ _ h => h) hHeld (by rfl) (fun wx hSx => ?_) ?_
          rotate_left
          · (unfold SB at hSx; go_simp; (try with_reducible rfl))
          (try simp only [Act.put, List.setIfInBounds_toArray, List.set_cons_zero, List.set_cons_succ])
          refine wpAnyH_done (by kernel_rfl) ?_ _
          go_wp2_with fail
          go_roundw
          case rel => exact ⟨k + 1, by omega, by go_num, by rw [HD.out], by (repeat (first | (with_reducible exact Below.refl _ _) | (with_reducible assumption) | ((with_reducible refine Below.alloc ?_ ?_ _); (rotate_left); (first | omega | (simp <;> omega))) | ((with_reducible refine Below.setCell ?_ ?_ _); (rotate_left); (first | omega | (simp <;> omega))) | (with_reducible refine Below.drew ?_) | (with_reducible refine below_drewN ?_ _)))⟩
          case measure => simp [intOf]; omega
      · have hkn : k = n := by omega
        subst hkn
        go_wp2_with fail
        go_ret
        exact ⟨ret_int HR.out.symm, hB⟩
  · have HR := hide (rate_no (b := b) hc0)
    have hcb : (chk n f g == 0) = false := beq_eq_false_iff_ne.2 hc0
    clear hc0
    go_enter Try.func13, Try.ntmps13
    go_wp2_with fail
    refine (tcheck_any A n c f g hl _ hr).mono ?_
    rintro e w1 ⟨rfl, hb⟩
    have q1B : Below w.heap.size w w1 := (by refine Below.trans ?_ (hb.mono (by first | omega | (simp <;> omega))); (repeat (first | (with_reducible exact Below.refl _ _) | (with_reducible assumption) | ((with_reducible refine Below.alloc ?_ ?_ _); (rotate_left); (first | omega | (simp <;> omega))) | ((with_reducible refine Below.setCell ?_ ?_ _); (rotate_left); (first | omega | (simp <;> omega))) | (with_reducible refine Below.drew ?_) | (with_reducible refine below_drewN ?_ _))))
    have q1z := hb.size
    try simp at q1z
    have q1t : w.heap.size ≤ w1.heap.size := (by omega)
    have q1o : ∀ b o, b < w.heap.size → w1.cell? ⟨b, o, none⟩ = w.cell? ⟨b, o, none⟩ := fun b o h => q1B.cell (p := ⟨b, o, none⟩) h
    clear hb
    go_wp2_with fail
    go_ret
    exact ⟨ret_int HR.out.symm, q1B⟩
set_option maxHeartbeats 1000000 in
theorem rrate_any (A : Option Addr) (n c : Nat) (f g : Nat → Int) (b : Int) (b1 : -9223372036854775808 ≤ b) (b2 : b ≤ 9223372036854775807) (hl : n ≤ 140737488355328) (w : World) (hr : Row2 w A n f g) :
    Calls Try.prog 14 #[.slice A n c, .int .i64 b] w fun e w' => e = .returned (.int .i64 (rate n f g b)) ∧ Below w.heap.size w w' := by
  by_cases hc0 : chk n f g = 0
  · have HR := hide (rate_yes (b := b) hc0)
    have hn := (chk_ok hc0).1
    have HC := hide hc0
    clear hc0
    go_enter Try.func14, Try.ntmps14
    go_wp2_with fail
    refine (rcheck_any A n c f g hl _ hr).mono ?_
    rintro e w1 ⟨rfl, hb⟩
    rw [HC.out]
    have q1B : Below w.heap.size w w1 := (by refine Below.trans ?_ (hb.mono (by first | omega | (simp <;> omega))); (repeat (first | (with_reducible exact Below.refl _ _) | (with_reducible assumption) | ((with_reducible refine Below.alloc ?_ ?_ _); (rotate_left); (first | omega | (simp <;> omega))) | ((with_reducible refine Below.setCell ?_ ?_ _); (rotate_left); (first | omega | (simp <;> omega))) | (with_reducible refine Below.drew ?_) | (with_reducible refine below_drewN ?_ _))))
    have q1z := hb.size
    try simp at q1z
    have q1t : w.heap.size ≤ w1.heap.size := (by omega)
    have q1o : ∀ b o, b < w.heap.size → w1.cell? ⟨b, o, none⟩ = w.cell? ⟨b, o, none⟩ := fun b o h => q1B.cell (p := ⟨b, o, none⟩) h
    clear hb
    go_wp2_with fail
    go_loopw [5, 6] (fun v5 v wr => RateInv n f g (tsz b) w v5 v wr) (fun _ v _ => n - (intOf v).toNat)
    case atStart => exact ⟨0, by omega, rfl, rfl, q1B⟩
    case round =>
      obtain ⟨k, hk, rfl, rfl, hB⟩ := hrel
      have hzB := hB.size
      by_cases hlt : k < n
      · obtain ⟨bb, off, rfl, hbl, hc⟩ := (hr.below hB) (by omega)
        obtain ⟨c0, c1⟩ := hc k hlt
        clear hc
        have hm1 : (k : Int) < n := by omega
        by_cases hle : f k ≤ tsz b
        · have HD := hide (show rateTo f g (tsz b) (k + 1) = g k from if_pos hle)
          go_wp2_with fail
          refine ord_start (SB (wr.heap.size) [] _) 8 #[false, false, false, false, false, false, false, false] (by kernel_rfl) (by kernel_rfl) (by kernel_rfl) SB.refl.drew (fun hHeld => ?_)
          refine ord_take (i := 0) #[true, false, false, false, false, false, false, false] ?_ rfl (by kernel_rfl) (by kernel_rfl) (by kernel_rfl) (by kernel_rfl) (fun _ _ _ h => h) hHeld (by rfl) (fun wx hSx => ?_) ?_
          rotate_left
          · (unfold SB at hSx; go_simp; (try with_reducible rfl))
          (try simp only [Act.put, List.setIfInBounds_toArray, List.set_cons_zero, List.set_cons_succ])
          refine ord_take (i := 1) #[true, true, false, false, false, false, false, false] ?_ rfl (by kernel_rfl) (by kernel_rfl) (by kernel_rfl) (by kernel_rfl) (fun _ _ _ h => h) hHeld (by rfl) (fun wx hSx => ?_) ?_
          rotate_left
          · (unfold SB at hSx; go_simp; (try with_reducible rfl))
          (try simp only [Act.put, List.setIfInBounds_toArray, List.set_cons_zero, List.set_cons_succ])
          refine ord_take (i := 2) #[true, true, true, false, false, false, false, false] ?_ rfl (by kernel_rfl) (by kernel_rfl) (by kernel_rfl) (by kernel_rfl) (fun _ _ _ h => h) hHeld (by rfl) (fun wx hSx => ?_) ?_
          rotate_left
          · (unfold SB at hSx; go_simp; (try with_reducible rfl))
          (try simp only [Act.put, List.setIfInBounds_toArray, List.set_cons_zero, List.set_cons_succ])
          refine ord_take (i := 3) #[true, true, true, true, false, false, false, false] ?_ rfl (by kernel_rfl) (by kernel_rfl) (by kernel_rfl) (by kernel_rfl) (fun _ _ _ h => h) hHeld (by rfl) (fun wx hSx => ?_) ?_
          rotate_left
          · (unfold SB at hSx; go_simp; (try with_reducible rfl))
          (try simp only [Act.put, List.setIfInBounds_toArray, List.set_cons_zero, List.set_cons_succ])
          refine ord_take (i := 4) #[true, true, true, true, true, false, false, false] ?_ rfl (by kernel_rfl) (by kernel_rfl) (by kernel_rfl) (by kernel_rfl) (fun _ _ _ h => h) hHeld (by rfl) (fun wx hSx => ?_) ?_
          rotate_left
          · (unfold SB at hSx; go_simp; (try with_reducible rfl))
          (try simp only [Act.put, List.setIfInBounds_toArray, List.set_cons_zero, List.set_cons_succ])
          refine ord_take (i := 5) #[true, true, true, true, true, true, false, false] ?_ rfl (by kernel_rfl) (by kernel_rfl) (by kernel_rfl) (by kernel_rfl) (fun _ _ _ h => h) hHeld (by rfl) (fun wx hSx => ?_) ?_
          rotate_left
          · (unfold SB at hSx; go_simp; (try with_reducible rfl))
          (try simp only [Act.put, List.setIfInBounds_toArray, List.set_cons_zero, List.set_cons_succ])
          refine wpAnyH_ready (rs := [6]) (by kernel_rfl) (by simp) ?_
          refine ord_run (i := 6) #[true, true, true, true, true, true, true, false] rfl (by kernel_rfl) (by rfl) (fun K hK => ?_) AllReadyH.nil
          go_simp
          go_wp2_with (go_at_call 20; refine (rtsize_any b b1 b2 _).mono ?_; rintro e w2 ⟨rfl, rfl⟩)
          refine hK.out _ _ ?_ (fun hHeld => ?_)
          · (repeat (first | (with_reducible exact SB.refl) | (with_reducible exact hHeld) | (with_reducible refine SB.drew ?_) | (with_reducible refine SB.drewN ?_ _) | ((with_reducible refine SB.alloc ?_ ?_ _); (rotate_left); (first | omega | (simp <;> omega))) | ((with_reducible refine SB.setCell ?_ ?_ _); (rotate_left); (focus (simp; done))) | ((with_reducible refine SB.below ?_ hbS ?_); (rotate_left); (first | omega | (simp <;> omega))) | (with_reducible refine SB.undrew ?_) | ((with_reducible refine SB.congr ?_ ?_); (rotate_left); (focus (simp; done))) | ((with_reducible refine SB.realloc ?_ ?_ ?_); (rotate_left); (focus (simp; done)); (focus (simp; done)))))
          clear hK K
          (try simp only [Act.put, List.setIfInBounds_toArray, List.set_cons_zero, List.set_cons_succ])
          refine ord_take (i := 7) #[true, true, true, true, true, true, true, true] ?_ rfl (by kernel_rfl) (by kernel_rfl) (by kernel_rfl) (by kernel_rfl) (fun _ _ _ h => h) hHeld (by rfl) (fun wx hSx => ?_) ?_
          rotate_left
          · (unfold SB at hSx; go_simp; (try with_reducible rfl))
          (try simp only [Act.put, List.setIfInBounds_toArray, List.set_cons_zero, List.set_cons_succ])
          refine wpAnyH_done (by kernel_rfl) ?_ _
          go_wp2_with fail
          go_roundw
          case rel => exact ⟨k + 1, by omega, by go_num, by rw [HD.out], by (repeat (first | (with_reducible exact Below.refl _ _) | (with_reducible assumption) | ((with_reducible refine Below.alloc ?_ ?_ _); (rotate_left); (first | omega | (simp <;> omega))) | ((with_reducible refine Below.setCell ?_ ?_ _); (rotate_left); (first | omega | (simp <;> omega))) | (with_reducible refine Below.drew ?_) | (with_reducible refine below_drewN ?_ _)))⟩
          case measure => simp [intOf]; omega
        · have HD := hide (show rateTo f g (tsz b) (k + 1) = rateTo f g (tsz b) k from if_neg hle)
          have hle2 := Int.not_le.1 hle
          clear hle
          go_wp2_with fail
          refine ord_start (SB (wr.heap.size) [] _) 8 #[false, false, false, false, false, false, false, false] (by kernel_rfl) (by kernel_rfl) (by kernel_rfl) SB.refl.drew (fun hHeld => ?_)
          refine ord_take (i := 0) #[true, false, false, false, false, false, false, false] ?_ rfl (by kernel_rfl) (by kernel_rfl) (by kernel_rfl) (by kernel_rfl) (fun _ _ _ h => h) hHeld (by rfl) (fun wx hSx => ?_) ?_
          rotate_left
          · (unfold SB at hSx; go_simp; (try with_reducible rfl))
          (try simp only [Act.put, List.setIfInBounds_toArray, List.set_cons_zero, List.set_cons_succ])
          refine ord_take (i := 1) #[true, true, false, false, false, false, false, false] ?_ rfl (by kernel_rfl) (by kernel_rfl) (by kernel_rfl) (by kernel_rfl) (fun _ _ _ h => h) hHeld (by rfl) (fun wx hSx => ?_) ?_
          rotate_left
          · (unfold SB at hSx; go_simp; (try with_reducible rfl))
          (try simp only [Act.put, List.setIfInBounds_toArray, List.set_cons_zero, List.set_cons_succ])
          refine ord_take (i := 2) #[true, true, true, false, false, false, false, false] ?_ rfl (by kernel_rfl) (by kernel_rfl) (by kernel_rfl) (by kernel_rfl) (fun _ _ _ h => h) hHeld (by rfl) (fun wx hSx => ?_) ?_
          rotate_left
          · (unfold SB at hSx; go_simp; (try with_reducible rfl))
          (try simp only [Act.put, List.setIfInBounds_toArray, List.set_cons_zero, List.set_cons_succ])
          refine ord_take (i := 3) #[true, true, true, true, false, false, false, false] ?_ rfl (by kernel_rfl) (by kernel_rfl) (by kernel_rfl) (by kernel_rfl) (fun _ _ _ h => h) hHeld (by rfl) (fun wx hSx => ?_) ?_
          rotate_left
          · (unfold SB at hSx; go_simp; (try with_reducible rfl))
          (try simp only [Act.put, List.setIfInBounds_toArray, List.set_cons_zero, List.set_cons_succ])
          refine ord_take (i := 4) #[true, true, true, true, true, false, false, false] ?_ rfl (by kernel_rfl) (by kernel_rfl) (by kernel_rfl) (by kernel_rfl) (fun _ _ _ h => h) hHeld (by rfl) (fun wx hSx => ?_) ?_
          rotate_left
          · (unfold SB at hSx; go_simp; (try with_reducible rfl))
          (try simp only [Act.put, List.setIfInBounds_toArray, List.set_cons_zero, List.set_cons_succ])
          refine ord_take (i := 5) #[true, true, true, true, true, true, false, false] ?_ rfl (by kernel_rfl) (by kernel_rfl) (by kernel_rfl) (by kernel_rfl) (fun _ _ _ h => h) hHeld (by rfl) (fun wx hSx => ?_) ?_
          rotate_left
          · (unfold SB at hSx; go_simp; (try with_reducible rfl))
          (try simp only [Act.put, List.setIfInBounds_toArray, List.set_cons_zero, List.set_cons_succ])
          refine wpAnyH_ready (rs := [6]) (by kernel_rfl) (by simp) ?_
          refine ord_run (i := 6) #[true, true, true, true, true, true, true, false] rfl (by kernel_rfl) (by rfl) (fun K hK => ?_) AllReadyH.nil
          go_simp
          go_wp2_with (go_at_call 20; refine (rtsize_any b b1 b2 _).mono ?_; rintro e w2 ⟨rfl, rfl⟩)
          refine hK.out _ _ ?_ (fun hHeld => ?_)
          · (repeat (first | (with_reducible exact SB.refl) | (with_reducible exact hHeld) | (with_reducible refine SB.drew ?_) | (with_reducible refine SB.drewN ?_ _) | ((with_reducible refine SB.alloc ?_ ?_ _); (rotate_left); (first | omega | (simp <;> omega))) | ((with_reducible refine SB.setCell ?_ ?_ _); (rotate_left); (focus (simp; done))) | ((with_reducible refine SB.below ?_ hbS ?_); (rotate_left); (first | omega | (simp <;> omega))) | (with_reducible refine SB.undrew ?_) | ((with_reducible refine SB.congr ?_ ?_); (rotate_left); (focus (simp; done))) | ((with_reducible refine SB.realloc ?_ ?_ ?_); (rotate_left); (focus (simp; done)); (focus (simp; done)))))
          clear hK K
          (try simp only [Act.put, List.setIfInBounds_toArray, List.set_cons_zero, List.set_cons_succ])
          refine ord_take (i := 7) #[true, true, true, true, true, true, true, true] ?_ rfl (by kernel_rfl) (by kernel_rfl) (by kernel_rfl) (by kernel_rfl) (fun _ _ _ h => h) hHeld (by rfl) (fun wx hSx => ?_) ?_
          rotate_left
          · (unfold SB at hSx; go_simp; (try with_reducible rfl))
          (try simp only [Act.put, List.setIfInBounds_toArray, List.set_cons_zero, List.set_cons_succ])
          refine wpAnyH_done (by kernel_rfl) ?_ _
          go_wp2_with fail
          go_roundw
          case rel => exact ⟨k + 1, by omega, by go_num, by rw [HD.out], by (repeat (first | (with_reducible exact Below.refl _ _) | (with_reducible assumption) | ((with_reducible refine Below.alloc ?_ ?_ _); (rotate_left); (first | omega | (simp <;> omega))) | ((with_reducible refine Below.setCell ?_ ?_ _); (rotate_left); (first | omega | (simp <;> omega))) | (with_reducible refine Below.drew ?_) | (with_reducible refine below_drewN ?_ _)))⟩
          case measure => simp [intOf]; omega
      · have hkn : k = n := by omega
        subst hkn
        go_wp2_with fail
        go_ret
        exact ⟨ret_int HR.out.symm, hB⟩
  · have HR := hide (rate_no (b := b) hc0)
    have hcb : (chk n f g == 0) = false := beq_eq_false_iff_ne.2 hc0
    clear hc0
    go_enter Try.func14, Try.ntmps14
    go_wp2_with fail
    refine (rcheck_any A n c f g hl _ hr).mono ?_
    rintro e w1 ⟨rfl, hb⟩
    have q1B : Below w.heap.size w w1 := (by refine Below.trans ?_ (hb.mono (by first | omega | (simp <;> omega))); (repeat (first | (with_reducible exact Below.refl _ _) | (with_reducible assumption) | ((with_reducible refine Below.alloc ?_ ?_ _); (rotate_left); (first | omega | (simp <;> omega))) | ((with_reducible refine Below.setCell ?_ ?_ _); (rotate_left); (first | omega | (simp <;> omega))) | (with_reducible refine Below.drew ?_) | (with_reducible refine below_drewN ?_ _))))
    have q1z := hb.size
    try simp at q1z
    have q1t : w.heap.size ≤ w1.heap.size := (by omega)
    have q1o : ∀ b o, b < w.heap.size → w1.cell? ⟨b, o, none⟩ = w.cell? ⟨b, o, none⟩ := fun b o h => q1B.cell (p := ⟨b, o, none⟩) h
    clear hb
    go_wp2_with fail
    go_ret
    exact ⟨ret_int HR.out.symm, q1B⟩
end Go.Proofs.Ytjjclclianbnfaa
