/- Texts laid together: Td Te. -/
import Derived.Test.YtdjlaiilngechaaGreatDoorXTa
import Derived.Test.YtdjlaiilngechaaGreatDoorXKeep
import Derived.Test.YtdjlaiilngechaaGreatDoorXK0
namespace Go.Proofs.YtdjlaiilngechaaGreatDoor
set_option maxRecDepth 4000
set_option linter.unusedSimpArgs false
set_option linter.unusedVariables false
open Go.RowKit
def RateInv (n : Nat) (f g : Nat → Int) (sz : Int) (w : World) (v5 v : Value) (wr : World) : Prop :=
 ∃ k : Nat, k ≤ n ∧ v = .int .i64 k ∧ v5 = .int .i64 (rateTo f g sz k) ∧ Below w.heap.size w wr
theorem rate_no {n : Nat} {f g : Nat → Int} {b : Int} (h : chk n f g ≠ 0) : rate n f g b = 0 := if_pos h
theorem rate_yes {n : Nat} {f g : Nat → Int} {b : Int} (h : chk n f g = 0) : rate n f g b = rateTo f g (tsz b) n := if_neg (by simpa using h)
set_option maxHeartbeats 1000000 in
theorem trate_any (A : Option Addr) (n c : Nat) (f g : Nat → Int) (b : Int) (b1 : -9223372036854775808 ≤ b) (b2 : b ≤ 9223372036854775807) (hl : n ≤ 140737488355328) (w : World) (hr : Row2 w A n f g) :
  Calls Tryz.prog 128 #[.slice A n c, .int .i64 b] w fun e w' => e = .returned (.int .i64 (rate n f g b)) ∧ Below w.heap.size w w' := by
 by_cases hc0 : chk n f g = 0
 ·have HR := hide (rate_yes (b := b) hc0)
  have hn := (chk_ok hc0).1
  have HC := hide hc0
  clear hc0
  go_enter Tryz.func128, Tryz.ntmps128
  go_wp2_with fail
  refine (tcheck_any A n c f g hl _ hr).mono ?_
  rintro e w1 ⟨rfl, hb⟩
  rw [HC.out]
  have q1B : Below w.heap.size w w1 := qB hb
  have q1z := hb.size
  try simp at q1z
  have q1t : w.heap.size ≤ w1.heap.size := (by omega)
  have q1o := belO q1B
  clear hb
  go_wp2_with fail
  go_loopw [5, 13] (fun v5 v wr => RateInv n f g (tsz b) w v5 v wr) (fun _ v _ => n - (intOf v).toNat)
  case atStart => exact ⟨0, by omega, rfl, rfl, q1B⟩
  case round =>
   obtain ⟨k, hk, rfl, rfl, hB⟩ := hrel
   have hzB := hB.size
   by_cases hlt : k < n
   ·obtain ⟨bb, off, rfl, hbl, hc⟩ := (hr.below hB) (by omega)
    obtain ⟨c0, c1⟩ := hc k hlt
    clear hc
    by_cases hle : f k ≤ tsz b
    ·have HD := hide (show rateTo f g (tsz b) (k + 1) = g k from if_pos hle)
     go_wp2_with fail
     refine ord_start (SB (wr.heap.size + 1) [] _) 5 #[false, false, false, false, false] (by kernel_rfl) (by kernel_rfl) (by kernel_rfl) SB.refl.drew (fun hHeld => ?_)
     refine oS (i := 0) #[true, false, false, false, false] rfl hHeld ?_
     (try simp only [Act.put, putS])
     refine oS (i := 1) #[true, true, false, false, false] rfl hHeld ?_
     (try simp only [Act.put, putS])
     refine oS (i := 2) #[true, true, true, false, false] rfl hHeld ?_
     (try simp only [Act.put, putS])
     refine wpAnyH_ready (rs := [3]) (by kernel_rfl) (by simp) ?_
     refine ord_run (i := 3) #[true, true, true, true, false] rfl (by kernel_rfl) (by rfl) (fun K hK => ?_) AllReadyH.nil
     go_simp
     go_wp2_with (go_at_call 126; refine (tsize_any b b1 b2 _).mono ?_; rintro e w2 ⟨rfl, rfl⟩)
     refine hK.out _ _ ?_ (fun hHeld => ?_)
     ·exact sbT
     clear hK K
     (try simp only [Act.put, putS])
     refine oS (i := 4) #[true, true, true, true, true] rfl hHeld ?_
     (try simp only [Act.put, putS])
     refine wpAnyH_done (by kernel_rfl) ?_ _
     go_wp2_with fail
     go_roundw
     case rel => exact ⟨k + 1, by omega, by go_num, by rw [HD.out], by (repeat (first | (with_reducible first | exact Below.refl _ _ | assumption | refine Below.drew ?_) | ((with_reducible first | refine Below.alloc ?_ ?_ _ | refine Below.setCell ?_ ?_ _); rotate_left; (first | omega | (simp <;> omega)))))⟩
     case measure => simp [intOf]; omega
    ·have HD := hide (show rateTo f g (tsz b) (k + 1) = rateTo f g (tsz b) k from if_neg hle)
     have hle2 := Int.not_le.1 hle
     clear hle
     go_wp2_with fail
     refine ord_start (SB (wr.heap.size + 1) [] _) 5 #[false, false, false, false, false] (by kernel_rfl) (by kernel_rfl) (by kernel_rfl) SB.refl.drew (fun hHeld => ?_)
     refine oS (i := 0) #[true, false, false, false, false] rfl hHeld ?_
     (try simp only [Act.put, putS])
     refine oS (i := 1) #[true, true, false, false, false] rfl hHeld ?_
     (try simp only [Act.put, putS])
     refine oS (i := 2) #[true, true, true, false, false] rfl hHeld ?_
     (try simp only [Act.put, putS])
     refine wpAnyH_ready (rs := [3]) (by kernel_rfl) (by simp) ?_
     refine ord_run (i := 3) #[true, true, true, true, false] rfl (by kernel_rfl) (by rfl) (fun K hK => ?_) AllReadyH.nil
     go_simp
     go_wp2_with (go_at_call 126; refine (tsize_any b b1 b2 _).mono ?_; rintro e w2 ⟨rfl, rfl⟩)
     refine hK.out _ _ ?_ (fun hHeld => ?_)
     ·exact sbT
     clear hK K
     (try simp only [Act.put, putS])
     refine oS (i := 4) #[true, true, true, true, true] rfl hHeld ?_
     (try simp only [Act.put, putS])
     refine wpAnyH_done (by kernel_rfl) ?_ _
     go_wp2_with fail
     go_roundw
     case rel => exact ⟨k + 1, by omega, by go_num, by rw [HD.out], by (repeat (first | (with_reducible first | exact Below.refl _ _ | assumption | refine Below.drew ?_) | ((with_reducible first | refine Below.alloc ?_ ?_ _ | refine Below.setCell ?_ ?_ _); rotate_left; (first | omega | (simp <;> omega)))))⟩
     case measure => simp [intOf]; omega
   ·have hkn : k = n := by omega
    subst hkn
    go_wp2_with fail
    go_ret
    exact ⟨ret_int HR.out.symm, hB⟩
 ·have HR := hide (rate_no (b := b) hc0)
  have hcb : (chk n f g == 0) = false := beq_eq_false_iff_ne.2 hc0
  clear hc0
  go_enter Tryz.func128, Tryz.ntmps128
  go_wp2_with fail
  refine (tcheck_any A n c f g hl _ hr).mono ?_
  rintro e w1 ⟨rfl, hb⟩
  have q1B : Below w.heap.size w w1 := qB hb
  have q1z := hb.size
  try simp at q1z
  have q1t : w.heap.size ≤ w1.heap.size := (by omega)
  have q1o := belO q1B
  clear hb
  go_wp2_with fail
  go_ret
  exact ⟨ret_int HR.out.symm, q1B⟩
set_option maxHeartbeats 1000000 in
theorem rrate_any (A : Option Addr) (n c : Nat) (f g : Nat → Int) (b : Int) (b1 : -9223372036854775808 ≤ b) (b2 : b ≤ 9223372036854775807) (hl : n ≤ 140737488355328) (w : World) (hr : Row2 w A n f g) :
  Calls Tryz.prog 92 #[.slice A n c, .int .i64 b] w fun e w' => e = .returned (.int .i64 (rate n f g b)) ∧ Below w.heap.size w w' := by
 by_cases hc0 : chk n f g = 0
 ·have HR := hide (rate_yes (b := b) hc0)
  have hn := (chk_ok hc0).1
  have HC := hide hc0
  clear hc0
  go_enter Tryz.func92, Tryz.ntmps92
  go_wp2_with fail
  refine (rcheck_any A n c f g hl _ hr).mono ?_
  rintro e w1 ⟨rfl, hb⟩
  rw [HC.out]
  have q1B : Below w.heap.size w w1 := qB hb
  have q1z := hb.size
  try simp at q1z
  have q1t : w.heap.size ≤ w1.heap.size := (by omega)
  have q1o := belO q1B
  clear hb
  go_wp2_with fail
  go_loopw [5, 6] (fun v5 v wr => RateInv n f g (tsz b) w v5 v wr) (fun _ v _ => n - (intOf v).toNat)
  case atStart => exact ⟨0, by omega, rfl, rfl, q1B⟩
  case round =>
   obtain ⟨k, hk, rfl, rfl, hB⟩ := hrel
   have hzB := hB.size
   by_cases hlt : k < n
   ·obtain ⟨bb, off, rfl, hbl, hc⟩ := (hr.below hB) (by omega)
    obtain ⟨c0, c1⟩ := hc k hlt
    clear hc
    have hm1 : (k : Int) < n := by omega
    by_cases hle : f k ≤ tsz b
    ·have HD := hide (show rateTo f g (tsz b) (k + 1) = g k from if_pos hle)
     go_wp2_with fail
     refine ord_start (SB (wr.heap.size) [] _) 8 (preB 0 8) (by kernel_rfl) (by kernel_rfl) (by kernel_rfl) SB.refl.drew (fun hHeld => ?_)
     refine oS (i := 0) (preB 1 7) rfl hHeld ?_
     (try simp only [Act.put, putS])
     refine oS (i := 1) (preB 2 6) rfl hHeld ?_
     (try simp only [Act.put, putS])
     refine oS (i := 2) (preB 3 5) rfl hHeld ?_
     (try simp only [Act.put, putS])
     refine oS (i := 3) (preB 4 4) rfl hHeld ?_
     (try simp only [Act.put, putS])
     refine oS (i := 4) (preB 5 3) rfl hHeld ?_
     (try simp only [Act.put, putS])
     refine oS (i := 5) (preB 6 2) rfl hHeld ?_
     (try simp only [Act.put, putS])
     refine wpAnyH_ready (rs := [6]) (by kernel_rfl) (by simp) ?_
     refine ord_run (i := 6) (preB 7 1) rfl (by kernel_rfl) (by rfl) (fun K hK => ?_) AllReadyH.nil
     go_simp
     go_wp2_with (go_at_call 90; refine (rtsize_any b b1 b2 _).mono ?_; rintro e w2 ⟨rfl, rfl⟩)
     refine hK.out _ _ ?_ (fun hHeld => ?_)
     ·exact sbT
     clear hK K
     (try simp only [Act.put, putS])
     refine oS (i := 7) (preB 8 0) rfl hHeld ?_
     (try simp only [Act.put, putS])
     refine wpAnyH_done (by kernel_rfl) ?_ _
     go_wp2_with fail
     go_roundw
     case rel => exact ⟨k + 1, by omega, by go_num, by rw [HD.out], by (repeat (first | (with_reducible first | exact Below.refl _ _ | assumption | refine Below.drew ?_) | ((with_reducible first | refine Below.alloc ?_ ?_ _ | refine Below.setCell ?_ ?_ _); rotate_left; (first | omega | (simp <;> omega)))))⟩
     case measure => simp [intOf]; omega
    ·have HD := hide (show rateTo f g (tsz b) (k + 1) = rateTo f g (tsz b) k from if_neg hle)
     have hle2 := Int.not_le.1 hle
     clear hle
     go_wp2_with fail
     refine ord_start (SB (wr.heap.size) [] _) 8 (preB 0 8) (by kernel_rfl) (by kernel_rfl) (by kernel_rfl) SB.refl.drew (fun hHeld => ?_)
     refine oS (i := 0) (preB 1 7) rfl hHeld ?_
     (try simp only [Act.put, putS])
     refine oS (i := 1) (preB 2 6) rfl hHeld ?_
     (try simp only [Act.put, putS])
     refine oS (i := 2) (preB 3 5) rfl hHeld ?_
     (try simp only [Act.put, putS])
     refine oS (i := 3) (preB 4 4) rfl hHeld ?_
     (try simp only [Act.put, putS])
     refine oS (i := 4) (preB 5 3) rfl hHeld ?_
     (try simp only [Act.put, putS])
     refine oS (i := 5) (preB 6 2) rfl hHeld ?_
     (try simp only [Act.put, putS])
     refine wpAnyH_ready (rs := [6]) (by kernel_rfl) (by simp) ?_
     refine ord_run (i := 6) (preB 7 1) rfl (by kernel_rfl) (by rfl) (fun K hK => ?_) AllReadyH.nil
     go_simp
     go_wp2_with (go_at_call 90; refine (rtsize_any b b1 b2 _).mono ?_; rintro e w2 ⟨rfl, rfl⟩)
     refine hK.out _ _ ?_ (fun hHeld => ?_)
     ·exact sbT
     clear hK K
     (try simp only [Act.put, putS])
     refine oS (i := 7) (preB 8 0) rfl hHeld ?_
     (try simp only [Act.put, putS])
     refine wpAnyH_done (by kernel_rfl) ?_ _
     go_wp2_with fail
     go_roundw
     case rel => exact ⟨k + 1, by omega, by go_num, by rw [HD.out], by (repeat (first | (with_reducible first | exact Below.refl _ _ | assumption | refine Below.drew ?_) | ((with_reducible first | refine Below.alloc ?_ ?_ _ | refine Below.setCell ?_ ?_ _); rotate_left; (first | omega | (simp <;> omega)))))⟩
     case measure => simp [intOf]; omega
   ·have hkn : k = n := by omega
    subst hkn
    go_wp2_with fail
    go_ret
    exact ⟨ret_int HR.out.symm, hB⟩
 ·have HR := hide (rate_no (b := b) hc0)
  have hcb : (chk n f g == 0) = false := beq_eq_false_iff_ne.2 hc0
  clear hc0
  go_enter Tryz.func92, Tryz.ntmps92
  go_wp2_with fail
  refine (rcheck_any A n c f g hl _ hr).mono ?_
  rintro e w1 ⟨rfl, hb⟩
  have q1B : Below w.heap.size w w1 := qB hb
  have q1z := hb.size
  try simp at q1z
  have q1t : w.heap.size ≤ w1.heap.size := (by omega)
  have q1o := belO q1B
  clear hb
  go_wp2_with fail
  go_ret
  exact ⟨ret_int HR.out.symm, q1B⟩
end Go.Proofs.YtdjlaiilngechaaGreatDoor
namespace Go.Proofs.YtdjlaiilngechaaGreatDoor
set_option maxRecDepth 4000
set_option linter.unusedSimpArgs false
set_option linter.unusedVariables false
open Go.RowKit
theorem slices_nil {n : Nat} {f g : Nat → Int} {m : Bool} {b r : Int} (h : n = 0 ∨ chk n f g ≠ 0 ∨ tsz b = 0) : slices n f g m b r = [] := if_pos h
theorem slices_one {n : Nat} {f g : Nat → Int} {b r : Int} (h0 : 0 < n) (h1 : chk n f g = 0) (h2 : tsz b ≠ 0) : slices n f g false b r = [(tsz b, r)] := by
 unfold slices; rw [if_neg (by omega), if_pos rfl]
theorem slices_all {n : Nat} {f g : Nat → Int} {b r : Int} (h0 : 0 < n) (h1 : chk n f g = 0) (h2 : tsz b ≠ 0) : slices n f g true b r = sls n f g (tsz b) n := by
 unfold slices; rw [if_neg (by omega), if_neg (by simp)]
/-- As SlRet; and the slice lies in memory of its own. -/
def SlRetF (l : List (Int × Int)) (w : World) (e : Ending) (w' : World) : Prop :=
 ∃ A c, e = .returned (.slice A l.length c) ∧ Row2 w' A l.length (fsts l) (snds l) ∧ Below w.heap.size w w' ∧ (0 < l.length → ∀ b off, A = some ⟨b, off, none⟩ → w.heap.size ≤ b)
theorem SlRetF.weak {l : List (Int × Int)} {w w' : World} {e : Ending} (h : SlRetF l w e w') : SlRet l w e w' := by
 obtain ⟨A, c, h1, h2, h3, _⟩ := h
 exact ⟨A, c, h1, h2, h3⟩
theorem slRet_own {w w' : World} {v : Value} {l : List (Int × Int)} {e : TypeId} (h : w'.ownsRow w.heap.size e 2 v l.length (flat l)) (hB : Below w.heap.size w w') : SlRetF l w (.returned v) w' := by
 obtain ⟨A, c, hv, hrow⟩ := own_row2 h
 subst hv
 exact ⟨A, c, rfl, hrow, hB, fun _ b off e => own_block_ge h b (by rw [e]; rfl)⟩
theorem slRet_nil {w w' : World} (hB : Below w.heap.size w w') : SlRetF [] w (.returned (.slice none 0 0)) w' := ⟨none, 0, rfl, fun h => by simp at h, hB, fun h => by simp at h⟩
theorem slice_info : (Tryz.prog.info? 99).map (fun i => (i.zero, i.size, i.bytes)) = some (some (.agg #[.int .i64 0, .int .i64 0]), 2, 16) := by kernel_rfl
def SlInv (n : Nat) (f g : Nat → Int) (sz : Int) (w : World) (vo v : Value) (wr : World) : Prop :=
 ∃ k : Nat, k ≤ n ∧ v = .int .i64 k ∧ wr.ownsRow w.heap.size 99 2 vo (sls n f g sz k).length (flat (sls n f g sz k)) ∧ Below w.heap.size w wr
set_option maxHeartbeats 1000000 in
theorem tslices_all (A : Option Addr) (n c : Nat) (f g : Nat → Int) (b : Int) (b1 : -9223372036854775808 ≤ b) (b2 : b ≤ 9223372036854775807) (hn0 : 0 < n) (hc0 : chk n f g = 0) (hz0 : tsz b ≠ 0) (w : World) (hr : Row2 w A n f g) :
  Calls Tryz.prog 85 #[.slice A n c, .bool true, .int .i64 b] w (SlRetF (sls n f g (tsz b) n) w) := by
 obtain ⟨i0, hi0, hz00, hz1, hz2⟩ := info_parts slice_info
 obtain ⟨hn, hall, hasc, hf0⟩ := chk_ok hc0
 have HALL := hide hall
 obtain ⟨s1, s2⟩ := tsz_bd b1 b2
 have hzb : (tsz b == 0) = false := beq_eq_false_iff_ne.2 hz0
 have hnb : ((n : Int) == 0) = false := beq_eq_false_iff_ne.2 (by omega)
 have HC := hide hc0
 clear hc0 hz0 hall hasc hf0
 go_enter Tryz.func85, Tryz.ntmps85
 go_wp2_with fail
 refine (tsize_any b b1 b2 _).mono ?_
 rintro e w1 ⟨rfl, rfl⟩
 go_wp2_with fail
 refine (tcheck_any A n c f g (by omega) _ hr).mono ?_
 rintro e w1 ⟨rfl, hb⟩
 rw [HC.out]
 have q1B : Below w.heap.size w w1 := qB hb
 have q1z := hb.size
 try simp at q1z
 have q1t : w.heap.size ≤ w1.heap.size := (by omega)
 have q1o := belO q1B
 clear hb
 go_wp2_with fail
 go_loopw [8, 36] (fun vo v wr => SlInv n f g (tsz b) w vo v wr) (fun _ v _ => n - (intOf v).toNat)
 case atStart => exact ⟨0, by omega, rfl, ⟨rfl, .inl ⟨rfl, rfl⟩⟩, q1B⟩
 case round =>
  obtain ⟨k, hk, rfl, hown, hB⟩ := hrel
  have hzB := hB.size
  have hc3 : (sls n f g (tsz b) k).length + 1 ≤ maxLen := by have := sls_le n f g (tsz b) k; simp only [maxLen]; omega
  have hc4 : ((sls n f g (tsz b) k).length + 1) * 16 ≤ 140737488355328 := by have := sls_le n f g (tsz b) k; omega
  by_cases hlt : k < n
  ·obtain ⟨bb, off, rfl, hbl, hc⟩ := (hr.below hB) (by omega)
   obtain ⟨c0, c1⟩ := hc k hlt
   obtain ⟨i1, i2, i3, i4⟩ := HALL.out k hlt
   by_cases hlt2 : k + 1 < n
   ·obtain ⟨d0, d1⟩ := hc (k + 1) hlt2
    obtain ⟨j1, j2, j3, j4⟩ := HALL.out (k + 1) hlt2
    clear hc
    have hm2 : (k : Int) + 1 < n := by omega
    have hm3 : (0 : Int) ≤ (k : Int) + 1 := by omega
    by_cases ht : f (k + 1) < tsz b
    ·have HI := hide (show (if k + 1 < n ∧ f (k + 1) < tsz b then f (k + 1) else tsz b) = f (k + 1) from if_pos ⟨hlt2, ht⟩)
     by_cases hap : f k < f (k + 1)
     ·have HS := hide (show sl1 n f g (tsz b) k = some (f (k + 1) - f k, g k) from by unfold sl1; rw [HI.out, if_pos hap])
      go_wp2_with (at_builtin; go_loud (refine wpList_append_own _ rfl (.tmp 59) (.tmp 67) 56 rfl w.heap.size 99 i0 (.agg #[.int .i64 0, .int .i64 0]) 2 16 Tryz.underlying56 hi0 hz00 hz1 hz2 rfl (by decide) _ _ _ rfl ((hown.alloc _).alloc _) ⟨wr.heap.size + 1, 0, none⟩ 1 1 [.int .i64 (f (k + 1) - f k), .int .i64 (g k)] rfl rfl (news2 (by simp [go_sem]) (by simp [go_sem])) one2 hc3 hc4 (by simp; omega) ?_); intro v1 w1 hown1 hg1 _)
      have hB1 : Below w.heap.size w w1 := Below.grown belT hg1 (by simp; omega) (own_block_ge hown)
      go_roundw
      case rel => exact ⟨k + 1, by omega, by go_num, by rw [sls_some HS.out, flat_append, flat_one, List.length_append]; exact hown1, hB1⟩
      case measure => simp [intOf]; omega
     ·have HS := hide (show sl1 n f g (tsz b) k = none from by unfold sl1; rw [HI.out, if_neg hap])
      have hap2 := Int.not_lt.1 hap
      clear hap
      go_wp2_with fail
      go_roundw
      case rel => exact ⟨k + 1, by omega, by go_num, by rw [sls_none HS.out]; exact hown.alloc _, by (repeat (first | (with_reducible first | exact Below.refl _ _ | assumption | refine Below.drew ?_) | ((with_reducible first | refine Below.alloc ?_ ?_ _ | refine Below.setCell ?_ ?_ _); rotate_left; (first | omega | (simp <;> omega)))))⟩
      case measure => simp [intOf]; omega
    ·have ht2 := Int.not_lt.1 ht
     have HI := hide (show (if k + 1 < n ∧ f (k + 1) < tsz b then f (k + 1) else tsz b) = tsz b from if_neg (fun h => ht h.2))
     clear ht
     by_cases hap : f k < tsz b
     ·have HS := hide (show sl1 n f g (tsz b) k = some (tsz b - f k, g k) from by unfold sl1; rw [HI.out, if_pos hap])
      go_wp2_with (at_builtin; go_loud (refine wpList_append_own _ rfl (.tmp 59) (.tmp 67) 56 rfl w.heap.size 99 i0 (.agg #[.int .i64 0, .int .i64 0]) 2 16 Tryz.underlying56 hi0 hz00 hz1 hz2 rfl (by decide) _ _ _ rfl ((hown.alloc _).alloc _) ⟨wr.heap.size + 1, 0, none⟩ 1 1 [.int .i64 (tsz b - f k), .int .i64 (g k)] rfl rfl (news2 (by simp [go_sem]) (by simp [go_sem])) one2 hc3 hc4 (by simp; omega) ?_); intro v1 w1 hown1 hg1 _)
      have hB1 : Below w.heap.size w w1 := Below.grown belT hg1 (by simp; omega) (own_block_ge hown)
      go_roundw
      case rel => exact ⟨k + 1, by omega, by go_num, by rw [sls_some HS.out, flat_append, flat_one, List.length_append]; exact hown1, hB1⟩
      case measure => simp [intOf]; omega
     ·have HS := hide (show sl1 n f g (tsz b) k = none from by unfold sl1; rw [HI.out, if_neg hap])
      have hap2 := Int.not_lt.1 hap
      clear hap
      go_wp2_with fail
      go_roundw
      case rel => exact ⟨k + 1, by omega, by go_num, by rw [sls_none HS.out]; exact hown.alloc _, by (repeat (first | (with_reducible first | exact Below.refl _ _ | assumption | refine Below.drew ?_) | ((with_reducible first | refine Below.alloc ?_ ?_ _ | refine Below.setCell ?_ ?_ _); rotate_left; (first | omega | (simp <;> omega)))))⟩
      case measure => simp [intOf]; omega
   ·clear hc
    have hm2 : (n : Int) ≤ (k : Int) + 1 := by omega
    have HI := hide (show (if k + 1 < n ∧ f (k + 1) < tsz b then f (k + 1) else tsz b) = tsz b from if_neg (fun h => hlt2 h.1))
    clear hlt2
    by_cases hap : f k < tsz b
    ·have HS := hide (show sl1 n f g (tsz b) k = some (tsz b - f k, g k) from by unfold sl1; rw [HI.out, if_pos hap])
     go_wp2_with (at_builtin; go_loud (refine wpList_append_own _ rfl (.tmp 59) (.tmp 67) 56 rfl w.heap.size 99 i0 (.agg #[.int .i64 0, .int .i64 0]) 2 16 Tryz.underlying56 hi0 hz00 hz1 hz2 rfl (by decide) _ _ _ rfl ((hown.alloc _).alloc _) ⟨wr.heap.size + 1, 0, none⟩ 1 1 [.int .i64 (tsz b - f k), .int .i64 (g k)] rfl rfl (news2 (by simp [go_sem]) (by simp [go_sem])) one2 hc3 hc4 (by simp; omega) ?_); intro v1 w1 hown1 hg1 _)
     have hB1 : Below w.heap.size w w1 := Below.grown belT hg1 (by simp; omega) (own_block_ge hown)
     go_roundw
     case rel => exact ⟨k + 1, by omega, by go_num, by rw [sls_some HS.out, flat_append, flat_one, List.length_append]; exact hown1, hB1⟩
     case measure => simp [intOf]; omega
    ·have HS := hide (show sl1 n f g (tsz b) k = none from by unfold sl1; rw [HI.out, if_neg hap])
     have hap2 := Int.not_lt.1 hap
     clear hap
     go_wp2_with fail
     go_roundw
     case rel => exact ⟨k + 1, by omega, by go_num, by rw [sls_none HS.out]; exact hown.alloc _, by (repeat (first | (with_reducible first | exact Below.refl _ _ | assumption | refine Below.drew ?_) | ((with_reducible first | refine Below.alloc ?_ ?_ _ | refine Below.setCell ?_ ?_ _); rotate_left; (first | omega | (simp <;> omega)))))⟩
     case measure => simp [intOf]; omega
  ·have hkn : k = n := by omega
   subst hkn
   go_wp2_with fail
   go_ret
   obtain ⟨A', c', hv, hrow⟩ := own_row2 hown
   exact ⟨A', c', by rw [← hv]; rfl, hrow, hB, fun _ b off e => own_block_ge hown b (by rw [show _ = _ from hv, e]; rfl)⟩
end Go.Proofs.YtdjlaiilngechaaGreatDoor
