/- Texts laid together: Tf Tg. -/
import Derived.Test.YtdjlaiilngechaaGreatDoorXTd
import Derived.Test.YtdjlaiilngechaaGreatDoorXK0
namespace Go.Proofs.YtdjlaiilngechaaGreatDoor
set_option maxRecDepth 4000
set_option linter.unusedSimpArgs false
set_option linter.unusedVariables false
open Go.RowKit
theorem slRet_one {w w1 : World} {a r : Int} {t : TypeId} (hB : Below w.heap.size w w1) :
  SlRetF [(a, r)] w (.returned (.slice (some ⟨w1.heap.size, 0, none⟩) 1 1)) (w1.alloc (.cells #[.int .i64 a, .int .i64 r] t)) := by
 refine ⟨some ⟨w1.heap.size, 0, none⟩, 1, rfl, fun _ => ⟨w1.heap.size, 0, rfl, by simp, fun k hk => ?_⟩, hB.alloc hB.size _, fun _ b off e => by cases e; exact hB.size⟩
 obtain rfl : k = 0 := by simp at hk; exact hk
 exact ⟨by simp [go_sem, fsts], by simp [go_sem, snds]⟩
set_option maxHeartbeats 400000 in
theorem tslices_nil (A : Option Addr) (n c : Nat) (f g : Nat → Int) (m : Bool) (b : Int) (b1 : -9223372036854775808 ≤ b) (b2 : b ≤ 9223372036854775807) (hl : n ≤ 140737488355328) (h : n = 0 ∨ chk n f g ≠ 0 ∨ tsz b = 0) (w : World) (hr : Row2 w A n f g) :
  Calls Tryz.prog 85 #[.slice A n c, .bool m, .int .i64 b] w (SlRetF [] w) := by
 by_cases h0 : n = 0
 ·subst h0
  clear h
  go_enter Tryz.func85, Tryz.ntmps85
  go_wp2_with fail
  refine (tsize_any b b1 b2 _).mono ?_
  rintro e w1 ⟨rfl, rfl⟩
  go_wp2_with fail
  go_ret
  exact slRet_nil (Below.refl _ _)
 have hnb : ((n : Int) == 0) = false := beq_eq_false_iff_ne.2 (by omega)
 by_cases hc0 : chk n f g = 0
 ·have hz0 : tsz b = 0 := by omega
  have hzb : (tsz b == 0) = true := beq_iff_eq.2 hz0
  have HC := hide hc0
  clear hc0 hz0 h h0
  go_enter Tryz.func85, Tryz.ntmps85
  go_wp2_with fail
  refine (tsize_any b b1 b2 _).mono ?_
  rintro e w1 ⟨rfl, rfl⟩
  go_wp2_with fail
  refine (tcheck_any A n c f g hl _ hr).mono ?_
  rintro e w1 ⟨rfl, hb⟩
  rw [HC.out]
  have q1B : Below w.heap.size w w1 := qB hb
  have q1z := hb.size
  try simp at q1z
  have q1t : w.heap.size ≤ w1.heap.size := (by omega)
  have q1o := belO q1B
  clear hb
  go_wp2_with fail
  go_ret
  exact slRet_nil q1B
 ·have hcb : (chk n f g == 0) = false := beq_eq_false_iff_ne.2 hc0
  clear hc0 h h0
  go_enter Tryz.func85, Tryz.ntmps85
  go_wp2_with fail
  refine (tsize_any b b1 b2 _).mono ?_
  rintro e w1 ⟨rfl, rfl⟩
  go_wp2_with fail
  refine (tcheck_any A n c f g hl _ hr).mono ?_
  rintro e w1 ⟨rfl, hb⟩
  have q1B : Below w.heap.size w w1 := qB hb
  have q1z := hb.size
  try simp at q1z
  have q1t : w.heap.size ≤ w1.heap.size := (by omega)
  have q1o := belO q1B
  clear hb
  go_wp2_with fail
  go_ret
  exact slRet_nil q1B
set_option maxHeartbeats 400000 in
theorem tslices_one (A : Option Addr) (n c : Nat) (f g : Nat → Int) (b : Int) (b1 : -9223372036854775808 ≤ b) (b2 : b ≤ 9223372036854775807) (hn0 : 0 < n) (hc0 : chk n f g = 0) (hz0 : tsz b ≠ 0) (w : World) (hr : Row2 w A n f g) :
  Calls Tryz.prog 85 #[.slice A n c, .bool false, .int .i64 b] w (SlRetF [(tsz b, rate n f g b)] w) := by
 have hn := (chk_ok hc0).1
 have hzb : (tsz b == 0) = false := beq_eq_false_iff_ne.2 hz0
 have hnb : ((n : Int) == 0) = false := beq_eq_false_iff_ne.2 (by omega)
 have HC := hide hc0
 clear hc0 hz0
 go_enter Tryz.func85, Tryz.ntmps85
 go_wp2_with fail
 refine (tsize_any b b1 b2 _).mono ?_
 rintro e w1 ⟨rfl, rfl⟩
 go_wp2_with fail
 refine (tcheck_any A n c f g (by omega) _ hr).mono ?_
 rintro e w1 ⟨rfl, hb⟩
 rw [HC.out]
 have q1B : Below w.heap.size w w1 := qB hb
 have q1z := hb.size
 try simp at q1z
 have q1t : w.heap.size ≤ w1.heap.size := (by omega)
 have q1o := belO q1B
 clear hb
 go_wp2_with fail
 refine (trate_any A n c f g b b1 b2 (by omega) _ (hr.below q1B)).mono ?_
 rintro e w2 ⟨rfl, hb⟩
 have q2B := q1B.trans (hb.mono q1t)
 clear hb
 go_wp2_with fail
 go_ret
 exact slRet_one q2B
/-- tier.Slices: the parts of a balance. -/
theorem tslices_new (A : Option Addr) (n c : Nat) (f g : Nat → Int) (m : Bool) (b : Int) (b1 : -9223372036854775808 ≤ b) (b2 : b ≤ 9223372036854775807) (hl : n ≤ 140737488355328) (w : World) (hr : Row2 w A n f g) :
  Calls Tryz.prog 85 #[.slice A n c, .bool m, .int .i64 b] w (SlRetF (slices n f g m b (rate n f g b)) w) := by
 by_cases h : n = 0 ∨ chk n f g ≠ 0 ∨ tsz b = 0
 ·rw [slices_nil h]
  exact tslices_nil A n c f g m b b1 b2 hl h w hr
 ·have h0 : 0 < n := by omega
  have h1 : chk n f g = 0 := by omega
  have h2 : tsz b ≠ 0 := by omega
  cases m
  ·rw [slices_one h0 h1 h2]
   exact tslices_one A n c f g b b1 b2 h0 h1 h2 w hr
  ·rw [slices_all h0 h1 h2]
   exact tslices_all A n c f g b b1 b2 h0 h1 h2 w hr
theorem tslices_any (A : Option Addr) (n c : Nat) (f g : Nat → Int) (m : Bool) (b : Int) (b1 : -9223372036854775808 ≤ b) (b2 : b ≤ 9223372036854775807) (hl : n ≤ 140737488355328) (w : World) (hr : Row2 w A n f g) :
  Calls Tryz.prog 85 #[.slice A n c, .bool m, .int .i64 b] w (SlRet (slices n f g m b (rate n f g b)) w) :=
 (tslices_new A n c f g m b b1 b2 hl w hr).mono fun _ _ h => h.weak
end Go.Proofs.YtdjlaiilngechaaGreatDoor
namespace Go.Proofs.YtdjlaiilngechaaGreatDoor
set_option maxRecDepth 4000
set_option linter.unusedSimpArgs false
set_option linter.unusedVariables false
open Go.RowKit
theorem slRet_empty {w w' : World} {a : Addr} (hB : Below w.heap.size w w') : SlRetF [] w (.returned (.slice (some a) 0 0)) w' := ⟨some a, 0, rfl, fun h => by simp at h, hB, fun h => by simp at h⟩
set_option maxHeartbeats 400000 in
theorem rslices_nil (A : Option Addr) (n c : Nat) (f g : Nat → Int) (m : Bool) (b : Int) (b1 : -9223372036854775808 ≤ b) (b2 : b ≤ 9223372036854775807) (hl : n ≤ 140737488355328) (h : n = 0 ∨ chk n f g ≠ 0 ∨ tsz b = 0) (w : World) (hr : Row2 w A n f g) :
  Calls Tryz.prog 57 #[.slice A n c, .bool m, .int .i64 b] w (SlRetF [] w) := by
 have hr1 : Row2 (w.alloc (.cells #[] 99)) A n f g := hr.below ((Below.refl _ _).alloc (Nat.le_refl _) _)
 by_cases hc0 : chk n f g = 0
 ·have HC := hide hc0
  by_cases h0 : n = 0
  ·have hnb : ((n : Int) == 0) = true := beq_iff_eq.2 (by omega)
   clear h hc0 h0
   go_enter Tryz.func57, Tryz.ntmps57
   go_wp2_with fail
   refine (rtsize_any b b1 b2 _).mono ?_
   rintro e w1 ⟨rfl, rfl⟩
   go_wp2_with fail
   refine (rcheck_any A n c f g hl _ hr1).mono ?_
   rintro e w1 ⟨rfl, hb⟩
   rw [HC.out]
   have q1B : Below w.heap.size w w1 := qB hb
   have q1z := hb.size
   try simp at q1z
   have q1t : w.heap.size ≤ w1.heap.size := (by omega)
   have q1o := belO q1B
   clear hb
   go_wp2_with fail
   go_ret
   exact slRet_empty q1B
  ·have hnb : ((n : Int) == 0) = false := beq_eq_false_iff_ne.2 (by omega)
   have hzb : (tsz b == 0) = true := beq_iff_eq.2 (by omega)
   clear h hc0 h0
   go_enter Tryz.func57, Tryz.ntmps57
   go_wp2_with fail
   refine (rtsize_any b b1 b2 _).mono ?_
   rintro e w1 ⟨rfl, rfl⟩
   go_wp2_with fail
   refine (rcheck_any A n c f g hl _ hr1).mono ?_
   rintro e w1 ⟨rfl, hb⟩
   rw [HC.out]
   have q1B : Below w.heap.size w w1 := qB hb
   have q1z := hb.size
   try simp at q1z
   have q1t : w.heap.size ≤ w1.heap.size := (by omega)
   have q1o := belO q1B
   clear hb
   go_wp2_with fail
   go_ret
   exact slRet_empty q1B
 ·have hcb : (chk n f g == 0) = false := beq_eq_false_iff_ne.2 hc0
  clear h
  go_enter Tryz.func57, Tryz.ntmps57
  go_wp2_with fail
  refine (rtsize_any b b1 b2 _).mono ?_
  rintro e w1 ⟨rfl, rfl⟩
  go_wp2_with fail
  refine (rcheck_any A n c f g hl _ hr1).mono ?_
  rintro e w1 ⟨rfl, hb⟩
  have q1B : Below w.heap.size w w1 := qB hb
  have q1z := hb.size
  try simp at q1z
  have q1t : w.heap.size ≤ w1.heap.size := (by omega)
  have q1o := belO q1B
  clear hb
  go_wp2_with fail
  go_ret
  exact slRet_empty q1B
set_option maxHeartbeats 400000 in
theorem rslices_one (A : Option Addr) (n c : Nat) (f g : Nat → Int) (b : Int) (b1 : -9223372036854775808 ≤ b) (b2 : b ≤ 9223372036854775807) (hn0 : 0 < n) (hc0 : chk n f g = 0) (hz0 : tsz b ≠ 0) (w : World) (hr : Row2 w A n f g) :
  Calls Tryz.prog 57 #[.slice A n c, .bool false, .int .i64 b] w (SlRetF [(tsz b, rate n f g b)] w) := by
 have hr1 : Row2 (w.alloc (.cells #[] 99)) A n f g := hr.below ((Below.refl _ _).alloc (Nat.le_refl _) _)
 have hn := (chk_ok hc0).1
 have hzb : (tsz b == 0) = false := beq_eq_false_iff_ne.2 hz0
 have hnb : ((n : Int) == 0) = false := beq_eq_false_iff_ne.2 (by omega)
 have HC := hide hc0
 clear hc0 hz0
 go_enter Tryz.func57, Tryz.ntmps57
 go_wp2_with fail
 refine (rtsize_any b b1 b2 _).mono ?_
 rintro e w1 ⟨rfl, rfl⟩
 go_wp2_with fail
 refine (rcheck_any A n c f g (by omega) _ hr1).mono ?_
 rintro e w1 ⟨rfl, hb⟩
 rw [HC.out]
 have q1B : Below w.heap.size w w1 := qB hb
 have q1z := hb.size
 try simp at q1z
 have q1t : w.heap.size ≤ w1.heap.size := (by omega)
 have q1o := belO q1B
 clear hb
 go_wp2_with fail
 refine (rrate_any A n c f g b b1 b2 (by omega) _ (hr.below q1B)).mono ?_
 rintro e w2 ⟨rfl, hb⟩
 have q2B := q1B.trans (hb.mono q1t)
 clear hb
 go_wp2_with fail
 go_ret
 exact slRet_one q2B
set_option maxHeartbeats 2000000 in
theorem rslices_all (A : Option Addr) (n c : Nat) (f g : Nat → Int) (b : Int) (b1 : -9223372036854775808 ≤ b) (b2 : b ≤ 9223372036854775807) (hn0 : 0 < n) (hc0 : chk n f g = 0) (hz0 : tsz b ≠ 0) (w : World) (hr : Row2 w A n f g) :
  Calls Tryz.prog 57 #[.slice A n c, .bool true, .int .i64 b] w (SlRetF (sls n f g (tsz b) n) w) := by
 have hr1 : Row2 (w.alloc (.cells #[] 99)) A n f g := hr.below ((Below.refl _ _).alloc (Nat.le_refl _) _)
 obtain ⟨i0, hi0, hz00, hz1, hz2⟩ := info_parts slice_info
 obtain ⟨hn, hall, hasc, hf0⟩ := chk_ok hc0
 have HALL := hide hall
 obtain ⟨s1, s2⟩ := tsz_bd b1 b2
 have hzb : (tsz b == 0) = false := beq_eq_false_iff_ne.2 hz0
 have hnb : ((n : Int) == 0) = false := beq_eq_false_iff_ne.2 (by omega)
 have HC := hide hc0
 clear hc0 hz0 hall hasc hf0
 go_enter Tryz.func57, Tryz.ntmps57
 go_wp2_with fail
 refine (rtsize_any b b1 b2 _).mono ?_
 rintro e w1 ⟨rfl, rfl⟩
 go_wp2_with fail
 refine (rcheck_any A n c f g (by omega) _ hr1).mono ?_
 rintro e w1 ⟨rfl, hb⟩
 rw [HC.out]
 have hown0 := own_below (own_new w 99 2) hb
 have q1B : Below w.heap.size w w1 := qB hb
 have q1z := hb.size
 try simp at q1z
 have q1t : w.heap.size ≤ w1.heap.size := (by omega)
 have q1o := belO q1B
 clear hb
 go_wp2_with fail
 go_loopw [7, 9] (fun vo v wr => SlInv n f g (tsz b) w vo v wr) (fun _ v _ => n - (intOf v).toNat)
 case atStart => exact ⟨0, by omega, rfl, hown0, q1B⟩
 case round =>
  obtain ⟨k, hk, rfl, hown, hB⟩ := hrel
  have hzB := hB.size
  have hc3 : (sls n f g (tsz b) k).length + 1 ≤ maxLen := by have := sls_le n f g (tsz b) k; simp only [maxLen]; omega
  have hc4 : ((sls n f g (tsz b) k).length + 1) * 16 ≤ 140737488355328 := by have := sls_le n f g (tsz b) k; omega
  by_cases hlt : k < n
  ·obtain ⟨bb, off, rfl, hbl, hc⟩ := hr (by omega)
   have c0 := (hB.cell (p := ⟨bb, off + k * 2, none⟩) hbl).trans (hc k hlt).1
   have c1 := (hB.cell (p := ⟨bb, off + k * 2 + 1, none⟩) hbl).trans (hc k hlt).2
   obtain ⟨i1, i2, i3, i4⟩ := HALL.out k hlt
   have hm1 : (k : Int) < n := by omega
   by_cases hlt2 : k + 1 < n
   ·have d0 := (hB.cell (p := ⟨bb, off + (k + 1) * 2, none⟩) hbl).trans (hc (k + 1) hlt2).1
    obtain ⟨j1, j2, j3, j4⟩ := HALL.out (k + 1) hlt2
    clear hc
    have hm2 : (k : Int) + 1 < n := by omega
    have hm3 : (0 : Int) ≤ (k : Int) + 1 := by omega
    by_cases ht : f (k + 1) < tsz b
    ·have HI := hide (show (if k + 1 < n ∧ f (k + 1) < tsz b then f (k + 1) else tsz b) = f (k + 1) from if_pos ⟨hlt2, ht⟩)
     by_cases hap : f k < f (k + 1)
     ·have HS := hide (show sl1 n f g (tsz b) k = some (f (k + 1) - f k, g k) from by unfold sl1; rw [HI.out, if_pos hap])
      have hwr : IntKind.i64.wrap (f (k + 1) - f k) = f (k + 1) - f k := by rw [IntKind.wrap_i64]; omega
      go_wp2_with fail
      refine ord_start (SB (w.heap.size) [] _) 17 (preB 0 17) (by kernel_rfl) (by kernel_rfl) (by kernel_rfl) SB.refl.drew (fun hHeld => ?_)
      refine oS (i := 0) (preB 1 16) rfl hHeld ?_
      (try simp only [Act.put, putS])
      refine oS (i := 1) (preB 2 15) rfl hHeld ?_
      (try simp only [Act.put, putS])
      refine oS (i := 2) (preB 3 14) rfl hHeld ?_
      (try simp only [Act.put, putS])
      refine oS (i := 3) (preB 4 13) rfl hHeld ?_
      (try simp only [Act.put, putS])
      refine oS (i := 4) (preB 5 12) rfl hHeld ?_
      (try simp only [Act.put, putS])
      refine oS (i := 5) (preB 6 11) rfl hHeld ?_
      (try simp only [Act.put, putS])
      refine oS (i := 6) (preB 7 10) rfl hHeld ?_
      (try simp only [Act.put, putS])
      refine oS (i := 7) (preB 8 9) rfl hHeld ?_
      (try simp only [Act.put, putS])
      refine oS (i := 8) (preB 9 8) rfl hHeld ?_
      (try simp only [Act.put, putS])
      refine oS (i := 9) (preB 10 7) rfl hHeld ?_
      (try simp only [Act.put, putS])
      refine oS (i := 10) (preB 11 6) rfl hHeld ?_
      (try simp only [Act.put, putS])
      refine oS (i := 11) (preB 12 5) rfl hHeld ?_
      (try simp only [Act.put, putS])
      refine oS (i := 12) (preB 13 4) rfl hHeld ?_
      (try simp only [Act.put, putS])
      refine oS (i := 13) (preB 14 3) rfl hHeld ?_
      (try simp only [Act.put, putS])
      refine wpAnyH_ready (rs := [14]) (by kernel_rfl) (by simp) ?_
      refine ord_run (i := 14) (preB 15 2) rfl (by kernel_rfl) (by rfl) (fun K hK => ?_) AllReadyH.nil
      go_simp
      refine hK.out _ _ ?_ (fun hHeld => ?_)
      ·exact sbT
      clear hK K
      (try simp only [Act.put, putS])
      refine wpAnyH_ready (rs := [15]) (by kernel_rfl) (by simp) ?_
      refine ord_run (i := 15) (preB 16 1) rfl (by kernel_rfl) (by rfl) (fun K hK => ?_) AllReadyH.nil
      (refine wp_append_own _ (.tmp 70) (.tmp 84) 56 rfl w.heap.size 99 i0 (.agg #[.int .i64 0, .int .i64 0]) 2 16 Tryz.underlying56 hi0 hz00 hz1 hz2 rfl (by decide) _ _ _ rfl (hown.alloc _) ⟨wr.heap.size, 0, none⟩ 1 1 [.int .i64 (f (k + 1) - f k), .int .i64 (g k)] rfl rfl (news2 (by simp [go_sem]) (by simp [go_sem])) one2 hc3 hc4 (by simp; omega) ?_; intro v1 w1 hown1 hg1 _; have hbS := below_of_grown hg1 (show w.heap.size ≤ _ by simp; omega) (own_block_ge hown))
      refine hK.out _ _ ?_ (fun hHeld => ?_)
      ·exact sbT
      clear hK K
      (try simp only [Act.put, putS])
      refine oS (i := 16) (preB 17 0) rfl hHeld ?_
      (try simp only [Act.put, putS])
      refine wpAnyH_done (by kernel_rfl) ?_ _
      have hB1 : Below w.heap.size w w1 := Below.trans belT hbS
      go_wp2_with fail
      go_roundw
      case rel => exact ⟨k + 1, by omega, by go_num, by rw [sls_some HS.out, flat_append, flat_one, List.length_append]; exact hown1, hB1⟩
      case measure => simp [intOf]; omega
     ·have HS := hide (show sl1 n f g (tsz b) k = none from by unfold sl1; rw [HI.out, if_neg hap])
      have hap2 := Int.not_lt.1 hap
      clear hap
      go_wp2_with fail
      go_roundw
      case rel => exact ⟨k + 1, by omega, by go_num, by rw [sls_none HS.out]; exact hown, hB⟩
      case measure => simp [intOf]; omega
    ·have ht2 := Int.not_lt.1 ht
     have HI := hide (show (if k + 1 < n ∧ f (k + 1) < tsz b then f (k + 1) else tsz b) = tsz b from if_neg (fun h => ht h.2))
     have htd : decide (f (k + 1) < tsz b) = false := decide_eq_false ht
     clear ht
     by_cases hap : f k < tsz b
     ·have HS := hide (show sl1 n f g (tsz b) k = some (tsz b - f k, g k) from by unfold sl1; rw [HI.out, if_pos hap])
      have hwr : IntKind.i64.wrap (tsz b - f k) = tsz b - f k := by rw [IntKind.wrap_i64]; omega
      go_wp2_with fail
      refine ord_start (SB (w.heap.size) [] _) 17 (preB 0 17) (by kernel_rfl) (by kernel_rfl) (by kernel_rfl) SB.refl.drew (fun hHeld => ?_)
      refine oS (i := 0) (preB 1 16) rfl hHeld ?_
      (try simp only [Act.put, putS])
      refine oS (i := 1) (preB 2 15) rfl hHeld ?_
      (try simp only [Act.put, putS])
      refine oS (i := 2) (preB 3 14) rfl hHeld ?_
      (try simp only [Act.put, putS])
      refine oS (i := 3) (preB 4 13) rfl hHeld ?_
      (try simp only [Act.put, putS])
      refine oS (i := 4) (preB 5 12) rfl hHeld ?_
      (try simp only [Act.put, putS])
      refine oS (i := 5) (preB 6 11) rfl hHeld ?_
      (try simp only [Act.put, putS])
      refine oS (i := 6) (preB 7 10) rfl hHeld ?_
      (try simp only [Act.put, putS])
      refine oS (i := 7) (preB 8 9) rfl hHeld ?_
      (try simp only [Act.put, putS])
      refine oS (i := 8) (preB 9 8) rfl hHeld ?_
      (try simp only [Act.put, putS])
      refine oS (i := 9) (preB 10 7) rfl hHeld ?_
      (try simp only [Act.put, putS])
      refine oS (i := 10) (preB 11 6) rfl hHeld ?_
      (try simp only [Act.put, putS])
      refine oS (i := 11) (preB 12 5) rfl hHeld ?_
      (try simp only [Act.put, putS])
      refine oS (i := 12) (preB 13 4) rfl hHeld ?_
      (try simp only [Act.put, putS])
      refine oS (i := 13) (preB 14 3) rfl hHeld ?_
      (try simp only [Act.put, putS])
      refine wpAnyH_ready (rs := [14]) (by kernel_rfl) (by simp) ?_
      refine ord_run (i := 14) (preB 15 2) rfl (by kernel_rfl) (by rfl) (fun K hK => ?_) AllReadyH.nil
      go_simp
      refine hK.out _ _ ?_ (fun hHeld => ?_)
      ·exact sbT
      clear hK K
      (try simp only [Act.put, putS])
      refine wpAnyH_ready (rs := [15]) (by kernel_rfl) (by simp) ?_
      refine ord_run (i := 15) (preB 16 1) rfl (by kernel_rfl) (by rfl) (fun K hK => ?_) AllReadyH.nil
      (refine wp_append_own _ (.tmp 70) (.tmp 84) 56 rfl w.heap.size 99 i0 (.agg #[.int .i64 0, .int .i64 0]) 2 16 Tryz.underlying56 hi0 hz00 hz1 hz2 rfl (by decide) _ _ _ rfl (hown.alloc _) ⟨wr.heap.size, 0, none⟩ 1 1 [.int .i64 (tsz b - f k), .int .i64 (g k)] rfl rfl (news2 (by simp [go_sem]) (by simp [go_sem])) one2 hc3 hc4 (by simp; omega) ?_; intro v1 w1 hown1 hg1 _; have hbS := below_of_grown hg1 (show w.heap.size ≤ _ by simp; omega) (own_block_ge hown))
      refine hK.out _ _ ?_ (fun hHeld => ?_)
      ·exact sbT
      clear hK K
      (try simp only [Act.put, putS])
      refine oS (i := 16) (preB 17 0) rfl hHeld ?_
      (try simp only [Act.put, putS])
      refine wpAnyH_done (by kernel_rfl) ?_ _
      have hB1 : Below w.heap.size w w1 := Below.trans belT hbS
      go_wp2_with fail
      go_roundw
      case rel => exact ⟨k + 1, by omega, by go_num, by rw [sls_some HS.out, flat_append, flat_one, List.length_append]; exact hown1, hB1⟩
      case measure => simp [intOf]; omega
     ·have HS := hide (show sl1 n f g (tsz b) k = none from by unfold sl1; rw [HI.out, if_neg hap])
      have hap2 := Int.not_lt.1 hap
      clear hap
      go_wp2_with fail
      go_roundw
      case rel => exact ⟨k + 1, by omega, by go_num, by rw [sls_none HS.out]; exact hown, hB⟩
      case measure => simp [intOf]; omega
   ·clear hc
    have hm2 : (n : Int) ≤ (k : Int) + 1 := by omega
    have hmd : decide ((k : Int) + 1 < n) = false := decide_eq_false (by omega)
    have HI := hide (show (if k + 1 < n ∧ f (k + 1) < tsz b then f (k + 1) else tsz b) = tsz b from if_neg (fun h => hlt2 h.1))
    clear hlt2
    by_cases hap : f k < tsz b
    ·have HS := hide (show sl1 n f g (tsz b) k = some (tsz b - f k, g k) from by unfold sl1; rw [HI.out, if_pos hap])
     have hwr : IntKind.i64.wrap (tsz b - f k) = tsz b - f k := by rw [IntKind.wrap_i64]; omega
     go_wp2_with fail
     refine ord_start (SB (w.heap.size) [] _) 17 (preB 0 17) (by kernel_rfl) (by kernel_rfl) (by kernel_rfl) SB.refl.drew (fun hHeld => ?_)
     refine oS (i := 0) (preB 1 16) rfl hHeld ?_
     (try simp only [Act.put, putS])
     refine oS (i := 1) (preB 2 15) rfl hHeld ?_
     (try simp only [Act.put, putS])
     refine oS (i := 2) (preB 3 14) rfl hHeld ?_
     (try simp only [Act.put, putS])
     refine oS (i := 3) (preB 4 13) rfl hHeld ?_
     (try simp only [Act.put, putS])
     refine oS (i := 4) (preB 5 12) rfl hHeld ?_
     (try simp only [Act.put, putS])
     refine oS (i := 5) (preB 6 11) rfl hHeld ?_
     (try simp only [Act.put, putS])
     refine oS (i := 6) (preB 7 10) rfl hHeld ?_
     (try simp only [Act.put, putS])
     refine oS (i := 7) (preB 8 9) rfl hHeld ?_
     (try simp only [Act.put, putS])
     refine oS (i := 8) (preB 9 8) rfl hHeld ?_
     (try simp only [Act.put, putS])
     refine oS (i := 9) (preB 10 7) rfl hHeld ?_
     (try simp only [Act.put, putS])
     refine oS (i := 10) (preB 11 6) rfl hHeld ?_
     (try simp only [Act.put, putS])
     refine oS (i := 11) (preB 12 5) rfl hHeld ?_
     (try simp only [Act.put, putS])
     refine oS (i := 12) (preB 13 4) rfl hHeld ?_
     (try simp only [Act.put, putS])
     refine oS (i := 13) (preB 14 3) rfl hHeld ?_
     (try simp only [Act.put, putS])
     refine wpAnyH_ready (rs := [14]) (by kernel_rfl) (by simp) ?_
     refine ord_run (i := 14) (preB 15 2) rfl (by kernel_rfl) (by rfl) (fun K hK => ?_) AllReadyH.nil
     go_simp
     refine hK.out _ _ ?_ (fun hHeld => ?_)
     ·exact sbT
     clear hK K
     (try simp only [Act.put, putS])
     refine wpAnyH_ready (rs := [15]) (by kernel_rfl) (by simp) ?_
     refine ord_run (i := 15) (preB 16 1) rfl (by kernel_rfl) (by rfl) (fun K hK => ?_) AllReadyH.nil
     (refine wp_append_own _ (.tmp 70) (.tmp 84) 56 rfl w.heap.size 99 i0 (.agg #[.int .i64 0, .int .i64 0]) 2 16 Tryz.underlying56 hi0 hz00 hz1 hz2 rfl (by decide) _ _ _ rfl (hown.alloc _) ⟨wr.heap.size, 0, none⟩ 1 1 [.int .i64 (tsz b - f k), .int .i64 (g k)] rfl rfl (news2 (by simp [go_sem]) (by simp [go_sem])) one2 hc3 hc4 (by simp; omega) ?_; intro v1 w1 hown1 hg1 _; have hbS := below_of_grown hg1 (show w.heap.size ≤ _ by simp; omega) (own_block_ge hown))
     refine hK.out _ _ ?_ (fun hHeld => ?_)
     ·exact sbT
     clear hK K
     (try simp only [Act.put, putS])
     refine oS (i := 16) (preB 17 0) rfl hHeld ?_
     (try simp only [Act.put, putS])
     refine wpAnyH_done (by kernel_rfl) ?_ _
     have hB1 : Below w.heap.size w w1 := Below.trans belT hbS
     go_wp2_with fail
     go_roundw
     case rel => exact ⟨k + 1, by omega, by go_num, by rw [sls_some HS.out, flat_append, flat_one, List.length_append]; exact hown1, hB1⟩
     case measure => simp [intOf]; omega
    ·have HS := hide (show sl1 n f g (tsz b) k = none from by unfold sl1; rw [HI.out, if_neg hap])
     have hap2 := Int.not_lt.1 hap
     clear hap
     go_wp2_with fail
     go_roundw
     case rel => exact ⟨k + 1, by omega, by go_num, by rw [sls_none HS.out]; exact hown, hB⟩
     case measure => simp [intOf]; omega
  ·have hkn : k = n := by omega
   subst hkn
   go_wp2_with fail
   go_ret
   exact slRet_own hown hB
/-- Slices of the reference: the parts of a balance. -/
theorem rslices_new (A : Option Addr) (n c : Nat) (f g : Nat → Int) (m : Bool) (b : Int) (b1 : -9223372036854775808 ≤ b) (b2 : b ≤ 9223372036854775807) (hl : n ≤ 140737488355328) (w : World) (hr : Row2 w A n f g) :
  Calls Tryz.prog 57 #[.slice A n c, .bool m, .int .i64 b] w (SlRetF (slices n f g m b (rate n f g b)) w) := by
 by_cases h : n = 0 ∨ chk n f g ≠ 0 ∨ tsz b = 0
 ·rw [slices_nil h]
  exact rslices_nil A n c f g m b b1 b2 hl h w hr
 ·have h0 : 0 < n := by omega
  have h1 : chk n f g = 0 := by omega
  have h2 : tsz b ≠ 0 := by omega
  cases m
  ·rw [slices_one h0 h1 h2]
   exact rslices_one A n c f g b b1 b2 h0 h1 h2 w hr
  ·rw [slices_all h0 h1 h2]
   exact rslices_all A n c f g b b1 b2 h0 h1 h2 w hr
theorem rslices_any (A : Option Addr) (n c : Nat) (f g : Nat → Int) (m : Bool) (b : Int) (b1 : -9223372036854775808 ≤ b) (b2 : b ≤ 9223372036854775807) (hl : n ≤ 140737488355328) (w : World) (hr : Row2 w A n f g) :
  Calls Tryz.prog 57 #[.slice A n c, .bool m, .int .i64 b] w (SlRet (slices n f g m b (rate n f g b)) w) :=
 (rslices_new A n c f g m b b1 b2 hl w hr).mono fun _ _ h => h.weak
end Go.Proofs.YtdjlaiilngechaaGreatDoor
