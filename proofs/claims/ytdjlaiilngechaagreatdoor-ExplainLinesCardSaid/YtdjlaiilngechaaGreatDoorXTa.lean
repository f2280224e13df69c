/- Texts laid together: Ta Tb Tc. -/
import Derived.Test.YtdjlaiilngechaaGreatDoorXKeep
import Derived.Test.YtdjlaiilngechaaGreatDoorXReg
import Derived.Test.YtdjlaiilngechaaGreatDoorXRa
import Derived.Test.YtdjlaiilngechaaGreatDoorProg
import Derived.KernelRfl
import Derived.WalkSpells
import Derived.WalkLawsBesides
import Derived.Test.YtdjlaiilngechaaGreatDoorXK0
namespace Go.Proofs.YtdjlaiilngechaaGreatDoor
set_option maxRecDepth 4000
set_option linter.unusedSimpArgs false
set_option linter.unusedVariables false
open Go.RowKit
theorem tsize_any (b : Int) (h1 : -9223372036854775808 ≤ b) (h2 : b ≤ 9223372036854775807) (w : World) :
  Calls Tryz.prog 126 #[.int .i64 b] w fun e w' => e = .returned (.int .i64 (tsz b)) ∧ w = w' := by
 by_cases h : b < -9223372036854775807
 ·go_enter Tryz.func126, Tryz.ntmps126
  go_wp2_with fail
  go_ret
  exact ⟨ret_int (by unfold tsz; rw [if_pos h]), rfl⟩
 ·have h := Int.not_lt.1 h
  go_enter Tryz.func126, Tryz.ntmps126
  go_wp2_with fail
  all_goals (go_ret; refine ⟨ret_int (by unfold tsz; rw [if_neg (by omega)]; split <;> omega), rfl⟩)
theorem rtsize_any (b : Int) (h1 : -9223372036854775808 ≤ b) (h2 : b ≤ 9223372036854775807) (w : World) :
  Calls Tryz.prog 90 #[.int .i64 b] w fun e w' => e = .returned (.int .i64 (tsz b)) ∧ w = w' := by
 by_cases h : b = -9223372036854775808
 ·have hE : (b == -9223372036854775808) = true := beq_iff_eq.2 h
  have HT := hide (show tsz b = 9223372036854775807 from by unfold tsz; rw [if_pos (by omega)])
  rw [HT.out]
  clear h
  go_enter Tryz.func90, Tryz.ntmps90
  go_wp2_with fail
  go_ret
  exact ⟨rfl, rfl⟩
 ·have hE : (b == -9223372036854775808) = false := beq_eq_false_iff_ne.2 h
  have h' : -9223372036854775807 ≤ b := by omega
  clear h
  go_enter Tryz.func90, Tryz.ntmps90
  go_wp2_with fail
  all_goals (go_ret; refine ⟨ret_int (by unfold tsz; rw [if_neg (by omega)]; split <;> omega), rfl⟩)
theorem key_any (x y : Int) (w : World) :
  Calls Tryz.prog 153 #[.agg #[.int .i64 x, .int .i64 y]] w fun e w' => e = .returned (.int .i64 x) ∧ Below w.heap.size w w' := by
 go_enter Tryz.func153, Tryz.ntmps153
 go_wp2_with fail
 go_ret
 exact ⟨rfl, by (repeat (first | (with_reducible first | exact Below.refl _ _ | assumption | refine Below.drew ?_) | ((with_reducible first | refine Below.alloc ?_ ?_ _ | refine Below.setCell ?_ ?_ _); rotate_left; (first | omega | (simp <;> omega)))))⟩
def AscInv (n : Nat) (f : Nat → Int) (w : World) (v5 : Value) (wr : World) : Prop :=
 ∃ m : Nat, (m + 1 ≤ n ∨ m = 0) ∧ v5 = .int .i64 (m + 1 : Nat) ∧ ascB (m + 1) f ∧ Below w.heap.size w wr
set_option maxHeartbeats 400000 in
theorem asc_any (A : Option Addr) (n c : Nat) (f g : Nat → Int) (hn : n ≤ 6) (w : World) (hr : Row2 w A n f g) :
  Calls Tryz.prog 152 #[.slice A n c, .func (.func 153) #[] #[]] w fun e w' => e = .returned (.bool (decide (ascB n f))) ∧ Below w.heap.size w w' := by
 go_enter Tryz.func152, Tryz.ntmps152
 go_wp2_with fail
 go_loopw [5] (fun v5 wr => AscInv n f w v5 wr) (fun v5 _ => n - (intOf v5).toNat)
 case atStart => exact ⟨0, by omega, rfl, fun j hj => by omega, Below.refl _ _⟩
 case round =>
  obtain ⟨m, hk, rfl, ha, hB⟩ := hrel
  have HA := hide ha
  clear ha
  have hzB := hB.size
  by_cases hlt : m + 1 < n
  ·obtain ⟨b, off, rfl, hbl, hc⟩ := (hr.below hB) (by omega)
   obtain ⟨c0, c1⟩ := hc (m + 1) hlt
   obtain ⟨d0, d1⟩ := hc m (by omega)
   clear hc
   have hw : IntKind.i64.wrap (m : Int) = m := by rw [IntKind.wrap_i64]; omega
   have hm1 : (m : Int) < n := by omega
   have hm2 : (m : Int) + 1 < n := by omega
   have hm3 : (0 : Int) ≤ (m : Int) + 1 := by omega
   by_cases hlt2 : f m < f (m + 1)
   ·have HD := hide (ascB_succ (by omega) HA.out hlt2)
    go_wp2_with fail
    refine ord_start (SB (wr.heap.size) [] _) 14 (preB 0 14) (by kernel_rfl) (by kernel_rfl) (by kernel_rfl) SB.refl.drew (fun hHeld => ?_)
    refine oS (i := 0) (preB 1 13) rfl hHeld ?_
    (try simp only [Act.put, putS])
    refine oS (i := 1) (preB 2 12) rfl hHeld ?_
    (try simp only [Act.put, putS])
    refine oS (i := 2) (preB 3 11) rfl hHeld ?_
    (try simp only [Act.put, putS])
    refine oS (i := 3) (preB 4 10) rfl hHeld ?_
    (try simp only [Act.put, putS])
    refine oS (i := 4) (preB 5 9) rfl hHeld ?_
    (try simp only [Act.put, putS])
    refine oS (i := 6) #[true, true, true, true, true, false, true, false, false, false, false, false, false, false] rfl hHeld ?_
    (try simp only [Act.put, putS])
    refine oS (i := 7) #[true, true, true, true, true, false, true, true, false, false, false, false, false, false] rfl hHeld ?_
    (try simp only [Act.put, putS])
    refine oS (i := 8) #[true, true, true, true, true, false, true, true, true, false, false, false, false, false] rfl hHeld ?_
    (try simp only [Act.put, putS])
    refine oS (i := 9) #[true, true, true, true, true, false, true, true, true, true, false, false, false, false] rfl hHeld ?_
    (try simp only [Act.put, putS])
    refine oS (i := 10) #[true, true, true, true, true, false, true, true, true, true, true, false, false, false] rfl hHeld ?_
    (try simp only [Act.put, putS])
    refine oS (i := 11) #[true, true, true, true, true, false, true, true, true, true, true, true, false, false] rfl hHeld ?_
    (try simp only [Act.put, putS])
    refine wpAnyH_ready (rs := [5]) (by kernel_rfl) (by simp) ?_
    refine ord_run (i := 5) (preB 12 2) rfl (by kernel_rfl) (by rfl) (fun K hK => ?_) AllReadyH.nil
    go_simp
    go_wp2_with (go_at_call 153; refine (key_any (f (m + 1)) (g (m + 1)) _).mono ?_; rintro e w1 ⟨rfl, hb⟩; have q1B : Below w.heap.size w w1 := qB hb; have q1z := hb.size; (try simp at q1z); have q1t : w.heap.size ≤ w1.heap.size := (by omega); have q1o := belO q1B; have hbS := hb; have hbS1 := hb; clear hb)
    refine hK.out _ _ ?_ (fun hHeld => ?_)
    ·exact sbT
    clear hK K
    (try simp only [Act.put, putS])
    refine wpAnyH_ready (rs := [12]) (by kernel_rfl) (by simp) ?_
    refine ord_run (i := 12) (preB 13 1) rfl (by kernel_rfl) (by rfl) (fun K hK => ?_) AllReadyH.nil
    go_simp
    go_wp2_with (go_at_call 153; refine (key_any (f m) (g m) _).mono ?_; rintro e w2 ⟨rfl, hb⟩; have q2B : Below w.heap.size w w2 := qB hb; have q2z := hb.size; (try simp at q2z); have q2t : w.heap.size ≤ w2.heap.size := (by omega); have q2o := belO q2B; have hbS := hb; have hbS2 := hb; clear hb)
    refine hK.out _ _ ?_ (fun hHeld => ?_)
    ·exact sbT
    clear hK K
    (try simp only [Act.put, putS])
    refine oS (i := 13) (preB 14 0) rfl hHeld ?_
    (try simp only [Act.put, putS])
    refine wpAnyH_done (by kernel_rfl) ?_ _
    go_wp2_with fail
    go_roundw
    case rel => exact ⟨m + 1, by omega, by go_num, HD.out, by (repeat (first | (with_reducible first | exact Below.refl _ _ | assumption | refine Below.drew ?_) | ((with_reducible first | refine Below.alloc ?_ ?_ _ | refine Below.setCell ?_ ?_ _); rotate_left; (first | omega | (simp <;> omega)))))⟩
    case measure => simp [intOf]; omega
   ·have HD := hide (decide_eq_false (p := ascB n f) fun h => hlt2 (h m (by omega)))
    have hlt3 := Int.not_lt.1 hlt2
    clear hlt2
    go_wp2_with fail
    refine ord_start (SB (wr.heap.size) [] _) 14 (preB 0 14) (by kernel_rfl) (by kernel_rfl) (by kernel_rfl) SB.refl.drew (fun hHeld => ?_)
    refine oS (i := 0) (preB 1 13) rfl hHeld ?_
    (try simp only [Act.put, putS])
    refine oS (i := 1) (preB 2 12) rfl hHeld ?_
    (try simp only [Act.put, putS])
    refine oS (i := 2) (preB 3 11) rfl hHeld ?_
    (try simp only [Act.put, putS])
    refine oS (i := 3) (preB 4 10) rfl hHeld ?_
    (try simp only [Act.put, putS])
    refine oS (i := 4) (preB 5 9) rfl hHeld ?_
    (try simp only [Act.put, putS])
    refine oS (i := 6) #[true, true, true, true, true, false, true, false, false, false, false, false, false, false] rfl hHeld ?_
    (try simp only [Act.put, putS])
    refine oS (i := 7) #[true, true, true, true, true, false, true, true, false, false, false, false, false, false] rfl hHeld ?_
    (try simp only [Act.put, putS])
    refine oS (i := 8) #[true, true, true, true, true, false, true, true, true, false, false, false, false, false] rfl hHeld ?_
    (try simp only [Act.put, putS])
    refine oS (i := 9) #[true, true, true, true, true, false, true, true, true, true, false, false, false, false] rfl hHeld ?_
    (try simp only [Act.put, putS])
    refine oS (i := 10) #[true, true, true, true, true, false, true, true, true, true, true, false, false, false] rfl hHeld ?_
    (try simp only [Act.put, putS])
    refine oS (i := 11) #[true, true, true, true, true, false, true, true, true, true, true, true, false, false] rfl hHeld ?_
    (try simp only [Act.put, putS])
    refine wpAnyH_ready (rs := [5]) (by kernel_rfl) (by simp) ?_
    refine ord_run (i := 5) (preB 12 2) rfl (by kernel_rfl) (by rfl) (fun K hK => ?_) AllReadyH.nil
    go_simp
    go_wp2_with (go_at_call 153; refine (key_any (f (m + 1)) (g (m + 1)) _).mono ?_; rintro e w1 ⟨rfl, hb⟩; have q1B : Below w.heap.size w w1 := qB hb; have q1z := hb.size; (try simp at q1z); have q1t : w.heap.size ≤ w1.heap.size := (by omega); have q1o := belO q1B; have hbS := hb; have hbS1 := hb; clear hb)
    refine hK.out _ _ ?_ (fun hHeld => ?_)
    ·exact sbT
    clear hK K
    (try simp only [Act.put, putS])
    refine wpAnyH_ready (rs := [12]) (by kernel_rfl) (by simp) ?_
    refine ord_run (i := 12) (preB 13 1) rfl (by kernel_rfl) (by rfl) (fun K hK => ?_) AllReadyH.nil
    go_simp
    go_wp2_with (go_at_call 153; refine (key_any (f m) (g m) _).mono ?_; rintro e w2 ⟨rfl, hb⟩; have q2B : Below w.heap.size w w2 := qB hb; have q2z := hb.size; (try simp at q2z); have q2t : w.heap.size ≤ w2.heap.size := (by omega); have q2o := belO q2B; have hbS := hb; have hbS2 := hb; clear hb)
    refine hK.out _ _ ?_ (fun hHeld => ?_)
    ·exact sbT
    clear hK K
    (try simp only [Act.put, putS])
    refine oS (i := 13) (preB 14 0) rfl hHeld ?_
    (try simp only [Act.put, putS])
    refine wpAnyH_done (by kernel_rfl) ?_ _
    go_wp2_with fail
    go_ret
    exact ⟨ret_bool HD.out.symm, by (repeat (first | (with_reducible first | exact Below.refl _ _ | assumption | refine Below.drew ?_) | ((with_reducible first | refine Below.alloc ?_ ?_ _ | refine Below.setCell ?_ ?_ _); rotate_left; (first | omega | (simp <;> omega)))))⟩
  ·go_wp2_with fail
   go_ret
   exact ⟨ret_bool (decide_eq_true fun j hj => HA.out j (by omega)).symm, hB⟩
end Go.Proofs.YtdjlaiilngechaaGreatDoor
namespace Go.Proofs.YtdjlaiilngechaaGreatDoor
set_option maxRecDepth 4000
set_option linter.unusedSimpArgs false
set_option linter.unusedVariables false
open Go.RowKit
def CheckInv (n : Nat) (f g : Nat → Int) (w : World) (v : Value) (wr : World) : Prop :=
 ∃ k : Nat, k ≤ n ∧ v = .int .i64 k ∧ allB k f g ∧ Below w.heap.size w wr
set_option maxHeartbeats 1000000 in
theorem tcheck_any (A : Option Addr) (n c : Nat) (f g : Nat → Int) (hl : n ≤ 140737488355328) (w : World) (hr : Row2 w A n f g) :
  Calls Tryz.prog 127 #[.slice A n c] w fun e w' => e = .returned (.int .i64 (chk n f g)) ∧ Below w.heap.size w w' := by
 by_cases hn : 6 < n
 ·have HC := hide (chk_5 (f := f) (g := g) hn)
  go_enter Tryz.func127, Tryz.ntmps127
  go_wp2_with fail
  go_ret
  exact ⟨ret_int HC.out.symm, by (repeat (first | (with_reducible first | exact Below.refl _ _ | assumption | refine Below.drew ?_) | ((with_reducible first | refine Below.alloc ?_ ?_ _ | refine Below.setCell ?_ ?_ _); rotate_left; (first | omega | (simp <;> omega)))))⟩
 have hn := Nat.not_lt.1 hn
 go_enter Tryz.func127, Tryz.ntmps127
 go_wp2_with fail
 go_loopw [10] (fun v wr => CheckInv n f g w v wr) (fun v _ => n - (intOf v).toNat)
 case atStart => exact ⟨0, by omega, rfl, fun j hj => by omega, Below.refl _ _⟩
 case round =>
  obtain ⟨k, hk, rfl, ha, hB⟩ := hrel
  have HA := hide ha
  clear ha
  have hzB := hB.size
  by_cases hlt : k < n
  ·obtain ⟨b, off, rfl, hbl, hc⟩ := (hr.below hB) (by omega)
   obtain ⟨c0, c1⟩ := hc k hlt
   clear hc
   by_cases hin : inB (f k) (g k)
   ·have HD := hide (allB_succ HA.out hin)
    obtain ⟨i1, i2, i3, i4⟩ := hin
    go_wp2_with fail
    go_roundw
    case rel => exact ⟨k + 1, by omega, by go_num, HD.out, by (repeat (first | (with_reducible first | exact Below.refl _ _ | assumption | refine Below.drew ?_) | ((with_reducible first | refine Below.alloc ?_ ?_ _ | refine Below.setCell ?_ ?_ _); rotate_left; (first | omega | (simp <;> omega)))))⟩
    case measure => simp [intOf]; omega
   ·have HD := hide (chk_1 hn hlt hin)
    have HI := hide hin
    clear hin
    go_wp2_with fail
    all_goals first
     | (go_ret; exact ⟨ret_int HD.out.symm, by (repeat (first | (with_reducible first | exact Below.refl _ _ | assumption | refine Below.drew ?_) | ((with_reducible first | refine Below.alloc ?_ ?_ _ | refine Below.setCell ?_ ?_ _); rotate_left; (first | omega | (simp <;> omega)))))⟩)
     | (exfalso; exact HI.out ⟨by omega, by omega, by omega, by omega⟩)
  ·have hkn : k = n := by omega
   subst hkn
   go_wp2_with fail
   refine (asc_any A k c f g hn _ (hr.below hB)).mono ?_
   rintro e w1 ⟨rfl, hb⟩
   have q1B : Below w.heap.size w w1 := qB hb
   have q1z := hb.size
   try simp at q1z
   have q1t : w.heap.size ≤ w1.heap.size := (by omega)
   have q1o := belO q1B
   clear hb
   by_cases hs : ascB k f
   ·rw [decide_eq_true hs]
    by_cases h0 : 0 < k
    ·obtain ⟨b, off, rfl, hbl, hc⟩ := (hr.below q1B) h0
     obtain ⟨c0, c1⟩ := hc 0 h0
     simp only [Nat.zero_mul, Nat.add_zero] at c0 c1
     clear hc
     have h0' : (0 : Int) < k := by omega
     by_cases hz : f 0 = 0
     ·have HD := hide (chk_0 (g := g) hn HA.out hs fun _ => hz)
      have hzb : (f 0 == 0) = true := beq_iff_eq.2 hz
      clear hz hs
      go_wp2_with fail
      go_ret
      exact ⟨ret_int HD.out.symm, q1B⟩
     ·have HD := hide (chk_01 (g := g) hn HA.out hs h0 hz)
      have hzb : (f 0 == 0) = false := beq_eq_false_iff_ne.2 hz
      clear hz hs
      go_wp2_with fail
      go_ret
      exact ⟨ret_int HD.out.symm, q1B⟩
    ·have HD := hide (chk_0 (g := g) hn HA.out hs fun h => absurd h h0)
     obtain rfl : k = 0 := by omega
     clear hs
     go_wp2_with fail
     go_ret
     exact ⟨ret_int HD.out.symm, q1B⟩
   ·rw [decide_eq_false hs]
    obtain ⟨j, hj1, hj2⟩ : ∃ j, j < k - 1 ∧ ¬ f j < f (j + 1) := by
     unfold ascB at hs
     simpa using hs
    have HD := hide (chk_10 (k := j + 1) hn HA.out (by omega) (by omega) (by simpa using hj2))
    clear hs hj2
    go_wp2_with fail
    go_ret
    exact ⟨ret_int HD.out.symm, q1B⟩
end Go.Proofs.YtdjlaiilngechaaGreatDoor
namespace Go.Proofs.YtdjlaiilngechaaGreatDoor
set_option maxRecDepth 4000
set_option linter.unusedSimpArgs false
set_option linter.unusedVariables false
open Go.RowKit
def RCheckInv2 (n : Nat) (f : Nat → Int) (w : World) (v : Value) (wr : World) : Prop :=
 ∃ m : Nat, (m + 1 ≤ n ∨ m = 0) ∧ v = .int .i64 (m + 1 : Nat) ∧ ascB (m + 1) f ∧ Below w.heap.size w wr
set_option maxHeartbeats 2000000 in
theorem rcheck_any (A : Option Addr) (n c : Nat) (f g : Nat → Int) (hl : n ≤ 140737488355328) (w : World) (hr : Row2 w A n f g) :
  Calls Tryz.prog 91 #[.slice A n c] w fun e w' => e = .returned (.int .i64 (chk n f g)) ∧ Below w.heap.size w w' := by
 by_cases hn : 6 < n
 ·have HC := hide (chk_5 (f := f) (g := g) hn)
  go_enter Tryz.func91, Tryz.ntmps91
  go_wp2_with fail
  go_ret
  exact ⟨ret_int HC.out.symm, by (repeat (first | (with_reducible first | exact Below.refl _ _ | assumption | refine Below.drew ?_) | ((with_reducible first | refine Below.alloc ?_ ?_ _ | refine Below.setCell ?_ ?_ _); rotate_left; (first | omega | (simp <;> omega)))))⟩
 have hn := Nat.not_lt.1 hn
 go_enter Tryz.func91, Tryz.ntmps91
 go_wp2_with fail
 go_loopw [3] (fun v wr => CheckInv n f g w v wr) (fun v _ => n - (intOf v).toNat)
 case atStart => exact ⟨0, by omega, rfl, fun j hj => by omega, Below.refl _ _⟩
 case round =>
  obtain ⟨k, hk, rfl, ha, hB⟩ := hrel
  have HA := hide ha
  clear ha
  have hzB := hB.size
  by_cases hlt : k < n
  ·obtain ⟨b, off, rfl, hbl, hc⟩ := (hr.below hB) (by omega)
   obtain ⟨c0, c1⟩ := hc k hlt
   clear hc
   by_cases hin : inB (f k) (g k)
   ·have HD := hide (allB_succ HA.out hin)
    obtain ⟨i1, i2, i3, i4⟩ := hin
    go_wp2_with fail
    go_roundw
    case rel => exact ⟨k + 1, by omega, by go_num, HD.out, by (repeat (first | (with_reducible first | exact Below.refl _ _ | assumption | refine Below.drew ?_) | ((with_reducible first | refine Below.alloc ?_ ?_ _ | refine Below.setCell ?_ ?_ _); rotate_left; (first | omega | (simp <;> omega)))))⟩
    case measure => simp [intOf]; omega
   ·have HD := hide (chk_1 hn hlt hin)
    have HI := hide hin
    clear hin
    go_wp2_with fail
    all_goals first
     | (go_ret; exact ⟨ret_int HD.out.symm, by (repeat (first | (with_reducible first | exact Below.refl _ _ | assumption | refine Below.drew ?_) | ((with_reducible first | refine Below.alloc ?_ ?_ _ | refine Below.setCell ?_ ?_ _); rotate_left; (first | omega | (simp <;> omega)))))⟩)
     | (exfalso; exact HI.out ⟨by omega, by omega, by omega, by omega⟩)
  ·have hkn : k = n := by omega
   subst hkn
   clear hlt hk hzB
   go_wp2_with fail
   go_loopw [4] (fun v wx => RCheckInv2 k f w v wx) (fun v _ => k - (intOf v).toNat)
   case atStart => exact ⟨0, by omega, rfl, fun j hj => by omega, hB⟩
   case round =>
    obtain ⟨m, hm, rfl, ha, hBx⟩ := hrel
    have HS := hide ha
    clear ha
    have hzB := hBx.size
    by_cases hlt : m + 1 < k
    ·obtain ⟨b, off, rfl, hbl, hc⟩ := (hr.below hBx) (by omega)
     obtain ⟨c0, c1⟩ := hc (m + 1) hlt
     obtain ⟨d0, d1⟩ := hc m (by omega)
     clear hc
     have hw : IntKind.i64.wrap (m : Int) = m := by rw [IntKind.wrap_i64]; omega
     have hm1 : (m : Int) < k := by omega
     have hm2 : (m : Int) + 1 < k := by omega
     have hm3 : (0 : Int) ≤ (m : Int) + 1 := by omega
     by_cases hlt2 : f m < f (m + 1)
     ·have HD := hide (ascB_succ (by omega) HS.out hlt2)
      go_wp2_with fail
      refine ord_start (SB (wr.heap.size) [] _) 12 (preB 0 12) (by kernel_rfl) (by kernel_rfl) (by kernel_rfl) SB.refl.drew (fun hHeld => ?_)
      refine oS (i := 0) (preB 1 11) rfl hHeld ?_
      (try simp only [Act.put, putS])
      refine oS (i := 1) (preB 2 10) rfl hHeld ?_
      (try simp only [Act.put, putS])
      refine oS (i := 2) (preB 3 9) rfl hHeld ?_
      (try simp only [Act.put, putS])
      refine oS (i := 3) (preB 4 8) rfl hHeld ?_
      (try simp only [Act.put, putS])
      refine oS (i := 4) (preB 5 7) rfl hHeld ?_
      (try simp only [Act.put, putS])
      refine oS (i := 5) (preB 6 6) rfl hHeld ?_
      (try simp only [Act.put, putS])
      refine oS (i := 6) (preB 7 5) rfl hHeld ?_
      (try simp only [Act.put, putS])
      refine oS (i := 7) (preB 8 4) rfl hHeld ?_
      (try simp only [Act.put, putS])
      refine oS (i := 8) (preB 9 3) rfl hHeld ?_
      (try simp only [Act.put, putS])
      refine oS (i := 9) (preB 10 2) rfl hHeld ?_
      (try simp only [Act.put, putS])
      refine oS (i := 10) (preB 11 1) rfl hHeld ?_
      (try simp only [Act.put, putS])
      refine oS (i := 11) (preB 12 0) rfl hHeld ?_
      (try simp only [Act.put, putS])
      refine wpAnyH_done (by kernel_rfl) ?_ _
      go_wp2_with fail
      go_roundw
      case rel => exact ⟨m + 1, by omega, by go_num, HD.out, by (repeat (first | (with_reducible first | exact Below.refl _ _ | assumption | refine Below.drew ?_) | ((with_reducible first | refine Below.alloc ?_ ?_ _ | refine Below.setCell ?_ ?_ _); rotate_left; (first | omega | (simp <;> omega)))))⟩
      case measure => simp [intOf]; omega
     ·have HD := hide (chk_10 (k := m + 1) hn HA.out (by omega) hlt (by simpa using hlt2))
      have hlt3 := Int.not_lt.1 hlt2
      clear hlt2
      go_wp2_with fail
      refine ord_start (SB (wr.heap.size) [] _) 12 (preB 0 12) (by kernel_rfl) (by kernel_rfl) (by kernel_rfl) SB.refl.drew (fun hHeld => ?_)
      refine oS (i := 0) (preB 1 11) rfl hHeld ?_
      (try simp only [Act.put, putS])
      refine oS (i := 1) (preB 2 10) rfl hHeld ?_
      (try simp only [Act.put, putS])
      refine oS (i := 2) (preB 3 9) rfl hHeld ?_
      (try simp only [Act.put, putS])
      refine oS (i := 3) (preB 4 8) rfl hHeld ?_
      (try simp only [Act.put, putS])
      refine oS (i := 4) (preB 5 7) rfl hHeld ?_
      (try simp only [Act.put, putS])
      refine oS (i := 5) (preB 6 6) rfl hHeld ?_
      (try simp only [Act.put, putS])
      refine oS (i := 6) (preB 7 5) rfl hHeld ?_
      (try simp only [Act.put, putS])
      refine oS (i := 7) (preB 8 4) rfl hHeld ?_
      (try simp only [Act.put, putS])
      refine oS (i := 8) (preB 9 3) rfl hHeld ?_
      (try simp only [Act.put, putS])
      refine oS (i := 9) (preB 10 2) rfl hHeld ?_
      (try simp only [Act.put, putS])
      refine oS (i := 10) (preB 11 1) rfl hHeld ?_
      (try simp only [Act.put, putS])
      refine oS (i := 11) (preB 12 0) rfl hHeld ?_
      (try simp only [Act.put, putS])
      refine wpAnyH_done (by kernel_rfl) ?_ _
      go_wp2_with fail
      go_ret
      exact ⟨ret_int HD.out.symm, by (repeat (first | (with_reducible first | exact Below.refl _ _ | assumption | refine Below.drew ?_) | ((with_reducible first | refine Below.alloc ?_ ?_ _ | refine Below.setCell ?_ ?_ _); rotate_left; (first | omega | (simp <;> omega)))))⟩
    ·have HS2 := hide (show ascB k f from fun j hj => HS.out j (by omega))
     by_cases h0 : 0 < k
     ·obtain ⟨b, off, rfl, hbl, hc⟩ := (hr.below hBx) h0
      obtain ⟨c0, c1⟩ := hc 0 h0
      simp only [Nat.zero_mul, Nat.add_zero] at c0 c1
      clear hc
      have h0' : (0 : Int) < k := by omega
      by_cases hz : f 0 = 0
      ·have HD := hide (chk_0 (g := g) hn HA.out HS2.out fun _ => hz)
       have hzb : (f 0 == 0) = true := beq_iff_eq.2 hz
       clear hz
       go_wp2_with fail
       go_ret
       exact ⟨ret_int HD.out.symm, by (repeat (first | (with_reducible first | exact Below.refl _ _ | assumption | refine Below.drew ?_) | ((with_reducible first | refine Below.alloc ?_ ?_ _ | refine Below.setCell ?_ ?_ _); rotate_left; (first | omega | (simp <;> omega)))))⟩
      ·have HD := hide (chk_01 (g := g) hn HA.out HS2.out h0 hz)
       have hzb : (f 0 == 0) = false := beq_eq_false_iff_ne.2 hz
       clear hz
       go_wp2_with fail
       go_ret
       exact ⟨ret_int HD.out.symm, by (repeat (first | (with_reducible first | exact Below.refl _ _ | assumption | refine Below.drew ?_) | ((with_reducible first | refine Below.alloc ?_ ?_ _ | refine Below.setCell ?_ ?_ _); rotate_left; (first | omega | (simp <;> omega)))))⟩
     ·have HD := hide (chk_0 (g := g) hn HA.out HS2.out fun h => absurd h h0)
      obtain rfl : k = 0 := by omega
      go_wp2_with fail
      go_ret
      exact ⟨ret_int HD.out.symm, by (repeat (first | (with_reducible first | exact Below.refl _ _ | assumption | refine Below.drew ?_) | ((with_reducible first | refine Below.alloc ?_ ?_ _ | refine Below.setCell ?_ ?_ _); rotate_left; (first | omega | (simp <;> omega)))))⟩
end Go.Proofs.YtdjlaiilngechaaGreatDoor
