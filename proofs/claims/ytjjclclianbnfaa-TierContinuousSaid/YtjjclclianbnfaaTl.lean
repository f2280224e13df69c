/- The walk of the statement TierFlat. -/
import Derived.Test.YtjjclclianbnfaaTj
import Derived.Test.YtjjclclianbnfaaSlL
namespace Go.Proofs.Ytjjclclianbnfaa
open Go.RowKit

theorem tier_info : (Try.prog.info? 50).map (fun i => (i.zero, i.size, i.bytes)) = some (some (.agg #[.int .i64 0, .int .i64 0]), 2, 16) := by kernel_rfl
def FlInv (n : Nat) (f : Nat → Int) (p : Int) (w : World) (vo v : Value) (wr : World) : Prop :=
  ∃ k : Nat, k ≤ n ∧ v = .int .i64 k ∧ wr.ownsRow w.heap.size 50 2 vo (fl f p k).length (flat (fl f p k)) ∧ Below w.heap.size w wr
theorem tgrains_sl {L : List (Int × Int)} {t : Int} (hg : goodSl L) (ht : wtOk t) (A : Option Addr) (c : Nat) (w : World) (hr : Row2 w A L.length (fsts L) (snds L)) :
    Calls Try.prog 18 #[.slice A L.length c, .int .i64 t] w fun e w' => e = .returned (.tuple #[.agg #[.int .i64 (hiW (lsum t L)), .int .u64 (loW (lsum t L))], .int .i64 0]) ∧ Below w.heap.size w w' := by
  have h := tgrains_all A L.length c _ _ t w hr hg.2.2
  rw [(grains_sl hg ht).1, (grains_sl hg ht).2] at h
  exact h
set_option maxHeartbeats 1000000 in
theorem walk_flat (A : Option Addr) (n c : Nat) (f g : Nat → Int) (p : Int) (p1 : -9223372036854775808 ≤ p) (p2 : p ≤ 9223372036854775807) (b : Int) (b1 : -9223372036854775808 ≤ b) (b2 : b ≤ 9223372036854775807) (w : World) (hr : Row2 w A n f g) :
    Calls Try.prog 9 #[.slice A n c, .int .i64 p, .int .i64 b] w fun e w' => e = .returned (.bool true) ∧ Below w.heap.size w w' := by
  by_cases hc : chk n f g = 0
  · by_cases hp : 0 ≤ p ∧ p ≤ 1000000
    · obtain ⟨hp0, hp1⟩ := hp
      obtain ⟨i0, hi0, hz00, hz1, hz2⟩ := info_parts tier_info
      obtain ⟨z1, z2⟩ := tsz_bd b1 b2
      have hn := (chk_ok hc).1
      have HF := hide (chk_flat hc hp0 hp1)
      have HC := hide hc
      clear hc
      go_enter Try.func9, Try.ntmps9
      go_wp2_with fail
      refine (rcheck_all A n c f g _ hr).mono ?_
      rintro e w1 ⟨rfl, hb⟩
      rw [HC.out]
      have q1B : Below w.heap.size w w1 := (by refine Below.trans ?_ (hb.mono (by first | omega | (simp <;> omega))); (repeat (first | (with_reducible exact Below.refl _ _) | (with_reducible assumption) | ((with_reducible refine Below.alloc ?_ ?_ _); (rotate_left); (first | omega | (simp <;> omega))) | ((with_reducible refine Below.setCell ?_ ?_ _); (rotate_left); (first | omega | (simp <;> omega))) | (with_reducible refine Below.drew ?_) | (with_reducible refine below_drewN ?_ _))))
      have q1z := hb.size
      try simp at q1z
      have q1t : w.heap.size ≤ w1.heap.size := (by omega)
      have q1o : ∀ b o, b < w.heap.size → w1.cell? ⟨b, o, none⟩ = w.cell? ⟨b, o, none⟩ := fun b o h => q1B.cell (p := ⟨b, o, none⟩) h
      clear hb
      go_wp2_with fail
      have hr1 := hr.below q1B
      go_loopw [7, 8] (fun vo v wr => FlInv n f p w1 vo v wr) (fun _ v _ => n - (intOf v).toNat)
      case atStart => exact ⟨0, by omega, rfl, own_new w1 50 2, by (repeat (first | (with_reducible exact Below.refl _ _) | (with_reducible assumption) | ((with_reducible refine Below.alloc ?_ ?_ _); (rotate_left); (first | omega | (simp <;> omega))) | ((with_reducible refine Below.setCell ?_ ?_ _); (rotate_left); (first | omega | (simp <;> omega))) | (with_reducible refine Below.drew ?_) | (with_reducible refine below_drewN ?_ _)))⟩
      case round =>
        obtain ⟨k, hk, rfl, hown, hB⟩ := hrel
        have hzB := hB.size
        by_cases hlt : k < n
        · have hc3 : (fl f p k).length + 1 ≤ maxLen := by rw [fl_len]; simp only [maxLen]; omega
          have hc4 : ((fl f p k).length + 1) * 16 ≤ 140737488355328 := by rw [fl_len]; omega
          obtain ⟨bb, off, rfl, hbl, hcc⟩ := (hr1.below hB) (by omega)
          obtain ⟨c0, c1⟩ := hcc k hlt
          clear hcc
          go_wp2_with (at_builtin; go_loud (refine wpList_append_own _ rfl (.tmp 32) (.tmp 40) 22 rfl w1.heap.size 50 i0 (.agg #[.int .i64 0, .int .i64 0]) 2 16 Try.underlying22 hi0 hz00 hz1 hz2 rfl (by decide) _ _ _ rfl (hown.alloc _) ⟨wr.heap.size, 0, none⟩ 1 1 [.int .i64 (f k), .int .i64 p] rfl rfl (news2 (by simp [go_sem]) (by simp [go_sem])) one2 hc3 hc4 (by simp; omega) ?_); intro v1 w2 hown1 hg1 _)
          have hB1 : Below w1.heap.size w1 w2 := Below.grown (by (repeat (first | (with_reducible exact Below.refl _ _) | (with_reducible assumption) | ((with_reducible refine Below.alloc ?_ ?_ _); (rotate_left); (first | omega | (simp <;> omega))) | ((with_reducible refine Below.setCell ?_ ?_ _); (rotate_left); (first | omega | (simp <;> omega))) | (with_reducible refine Below.drew ?_) | (with_reducible refine below_drewN ?_ _)))) hg1 (by simp; omega) (own_block_ge hown)
          go_roundw
          case rel => exact ⟨k + 1, by omega, by go_num, by rw [fl_succ, flat_append, flat_one, List.length_append]; exact hown1, hB1⟩
          case measure => simp [intOf]; omega
        · have hkn : k = n := by omega
          subst hkn
          have hBw : Below w.heap.size w wr := q1B.trans (hB.mono q1t)
          have hzw := hBw.size
          obtain ⟨A', c', rfl, hrow⟩ := own_row2 hown
          rw [fl_len] at *
          have hrow1 := hrow.congr (fun j hj => fl_at (f := f) (p := p) hj)
          clear hrow hown
          have H1 : Hid (goodSl (slices k f (fun _ => p) true b (rate k f (fun _ => p) b))) := slices_ok HF.out b1 b2
          have H2 : Hid (goodSl (slices k f (fun _ => p) false b (rate k f (fun _ => p) b))) := slices_ok HF.out b1 b2
          have HE := hide (flat_same (t := 4392) HF.out z1)
          have HR : Hid (0 < k → rate k f (fun _ => p) b = p) := fun h => rate_flat h HF.out z1
          go_wp2_with fail
          refine (tslices_any A' k c' f (fun _ => p) true b b1 b2 (by omega) _ hrow1).mono ?_
          generalize slices k f (fun _ => p) true b (rate k f (fun _ => p) b) = L1 at H1 HE
          rintro e w2 ⟨A1, c1, rfl, hA1, hb⟩
          have s2B : Below wr.heap.size wr w2 := hb
          have s2z := hb.size
          have hB2 := hBw.trans (hb.mono hzw)
          clear hb
          go_wp2_with fail
          refine (tgrains_sl H1.out ⟨by decide, by decide⟩ A1 c1 _ hA1).mono ?_
          rintro e w3 ⟨rfl, hb⟩
          have s3B : Below wr.heap.size wr w3 := s2B.trans (hb.mono s2z)
          have s3z := s3B.size
          have hB3 := hBw.trans (s3B.mono hzw)
          clear hb
          have hnn : ¬ w3.heap.size + 1 = w3.heap.size := by omega
          have hrow3 := hrow1.below s3B
          go_wp2_with fail
          refine (tslices_any A' k c' f (fun _ => p) false b b1 b2 (by omega) _ (hrow3.below (by (repeat (first | (with_reducible exact Below.refl _ _) | (with_reducible assumption) | ((with_reducible refine Below.alloc ?_ ?_ _); (rotate_left); (first | omega | (simp <;> omega))) | ((with_reducible refine Below.setCell ?_ ?_ _); (rotate_left); (first | omega | (simp <;> omega))) | (with_reducible refine Below.drew ?_) | (with_reducible refine below_drewN ?_ _)))))).mono ?_
          generalize slices k f (fun _ => p) false b (rate k f (fun _ => p) b) = L2 at H2 HE
          rintro e w4 ⟨A2, c2, rfl, hA2, hb⟩
          have s4B : Below wr.heap.size wr w4 := by
            refine Below.trans ?_ (hb.mono (by first | omega | (simp <;> omega)))
            (repeat (first | (with_reducible exact Below.refl _ _) | (with_reducible assumption) | ((with_reducible refine Below.alloc ?_ ?_ _); (rotate_left); (first | omega | (simp <;> omega))) | ((with_reducible refine Below.setCell ?_ ?_ _); (rotate_left); (first | omega | (simp <;> omega))) | (with_reducible refine Below.drew ?_) | (with_reducible refine below_drewN ?_ _)))
          have s4z := s4B.size
          have q4B : Below w.heap.size w w4 := (by refine Below.trans ?_ (hb.mono (by first | omega | (simp <;> omega))); (repeat (first | (with_reducible exact Below.refl _ _) | (with_reducible assumption) | ((with_reducible refine Below.alloc ?_ ?_ _); (rotate_left); (first | omega | (simp <;> omega))) | ((with_reducible refine Below.setCell ?_ ?_ _); (rotate_left); (first | omega | (simp <;> omega))) | (with_reducible refine Below.drew ?_) | (with_reducible refine below_drewN ?_ _))))
          have q4z := hb.size
          try simp at q4z
          have q4t : w.heap.size ≤ w4.heap.size := (by omega)
          have q4s0 : w3.heap.size < w4.heap.size := (by omega)
          have q4n0_0 : ¬ w4.heap.size = w3.heap.size := (by omega)
          have q4n0_1 : ¬ w4.heap.size + 1 = w3.heap.size := (by omega)
          have q4n0_2 : ¬ w4.heap.size + 2 = w3.heap.size := (by omega)
          have q4c0_0 := hb.cell (p := ⟨w3.heap.size, 0, none⟩) (by first | omega | (simp <;> omega))
          simp [go_sem, *] at q4c0_0
          have q4c0_1 := hb.cell (p := ⟨w3.heap.size, 1, none⟩) (by first | omega | (simp <;> omega))
          simp [go_sem, *] at q4c0_1
          have q4f0 := fun o => hb.frozen (p := ⟨w3.heap.size, o, none⟩) (by first | omega | (simp <;> omega))
          simp [go_sem, *] at q4f0
          have q4o : ∀ b o, b < w.heap.size → w4.cell? ⟨b, o, none⟩ = w.cell? ⟨b, o, none⟩ := fun b o h => q4B.cell (p := ⟨b, o, none⟩) h
          clear hb
          go_wp2_with fail
          refine (tgrains_sl H2.out ⟨by decide, by decide⟩ A2 c2 _ hA2).mono ?_
          rintro e w5 ⟨rfl, hb⟩
          rw [← HE.out]
          have s5B : Below wr.heap.size wr w5 := by
            refine Below.trans ?_ (hb.mono (by first | omega | (simp <;> omega)))
            (repeat (first | (with_reducible exact Below.refl _ _) | (with_reducible assumption) | ((with_reducible refine Below.alloc ?_ ?_ _); (rotate_left); (first | omega | (simp <;> omega))) | ((with_reducible refine Below.setCell ?_ ?_ _); (rotate_left); (first | omega | (simp <;> omega))) | (with_reducible refine Below.drew ?_) | (with_reducible refine below_drewN ?_ _)))
          have hrow5 := hrow1.below s5B
          have q5B : Below w.heap.size w w5 := (by refine Below.trans ?_ (hb.mono (by first | omega | (simp <;> omega))); (repeat (first | (with_reducible exact Below.refl _ _) | (with_reducible assumption) | ((with_reducible refine Below.alloc ?_ ?_ _); (rotate_left); (first | omega | (simp <;> omega))) | ((with_reducible refine Below.setCell ?_ ?_ _); (rotate_left); (first | omega | (simp <;> omega))) | (with_reducible refine Below.drew ?_) | (with_reducible refine below_drewN ?_ _))))
          have q5z := hb.size
          try simp at q5z
          have q5t : w.heap.size ≤ w5.heap.size := (by omega)
          have q5s0 : w3.heap.size < w5.heap.size := (by omega)
          have q5n0_0 : ¬ w5.heap.size = w3.heap.size := (by omega)
          have q5n0_1 : ¬ w5.heap.size + 1 = w3.heap.size := (by omega)
          have q5n0_2 : ¬ w5.heap.size + 2 = w3.heap.size := (by omega)
          have q5c0_0 := hb.cell (p := ⟨w3.heap.size, 0, none⟩) (by first | omega | (simp <;> omega))
          simp [go_sem, *] at q5c0_0
          have q5c0_1 := hb.cell (p := ⟨w3.heap.size, 1, none⟩) (by first | omega | (simp <;> omega))
          simp [go_sem, *] at q5c0_1
          have q5f0 := fun o => hb.frozen (p := ⟨w3.heap.size, o, none⟩) (by first | omega | (simp <;> omega))
          simp [go_sem, *] at q5f0
          have q5o : ∀ b o, b < w.heap.size → w5.cell? ⟨b, o, none⟩ = w.cell? ⟨b, o, none⟩ := fun b o h => q5B.cell (p := ⟨b, o, none⟩) h
          clear hb q4o q4f0 q4c0_1 q4c0_0 q4s0 q4z q4B
          have hnn5 : ¬ w5.heap.size = w3.heap.size := by omega
          rcases Nat.eq_zero_or_pos k with h0 | h0
          · have hk0 : ((k : Int) == 0) = true := beq_iff_eq.2 (by omega)
            go_wp2_with fail
            refine (live_any _).mono ?_
            rintro e w6 ⟨rfl, hb⟩
            have q6B : Below w.heap.size w w6 := (by refine Below.trans ?_ (hb.mono (by first | omega | (simp <;> omega))); (repeat (first | (with_reducible exact Below.refl _ _) | (with_reducible assumption) | ((with_reducible refine Below.alloc ?_ ?_ _); (rotate_left); (first | omega | (simp <;> omega))) | ((with_reducible refine Below.setCell ?_ ?_ _); (rotate_left); (first | omega | (simp <;> omega))) | (with_reducible refine Below.drew ?_) | (with_reducible refine below_drewN ?_ _))))
            have q6z := hb.size
            try simp at q6z
            have q6t : w.heap.size ≤ w6.heap.size := (by omega)
            have q6o : ∀ b o, b < w.heap.size → w6.cell? ⟨b, o, none⟩ = w.cell? ⟨b, o, none⟩ := fun b o h => q6B.cell (p := ⟨b, o, none⟩) h
            clear hb q5o q5f0 q5c0_1 q5c0_0 q5s0 q5z q5B
            go_wp2_with fail
            go_ret
            exact ⟨rfl, by (repeat (first | (with_reducible exact Below.refl _ _) | (with_reducible assumption) | ((with_reducible refine Below.alloc ?_ ?_ _); (rotate_left); (first | omega | (simp <;> omega))) | ((with_reducible refine Below.setCell ?_ ?_ _); (rotate_left); (first | omega | (simp <;> omega))) | (with_reducible refine Below.drew ?_) | (with_reducible refine below_drewN ?_ _)))⟩
          · have hk0 : ((k : Int) == 0) = false := beq_eq_false_iff_ne.2 (by omega)
            go_wp2_with fail
            refine (trate_any A' k c' f (fun _ => p) b b1 b2 (by omega) _ (hrow5.below (by (repeat (first | (with_reducible exact Below.refl _ _) | (with_reducible assumption) | ((with_reducible refine Below.alloc ?_ ?_ _); (rotate_left); (first | omega | (simp <;> omega))) | ((with_reducible refine Below.setCell ?_ ?_ _); (rotate_left); (first | omega | (simp <;> omega))) | (with_reducible refine Below.drew ?_) | (with_reducible refine below_drewN ?_ _)))))).mono ?_
            rintro e w6 ⟨rfl, hb⟩
            rw [HR.out h0]
            have q6B : Below w.heap.size w w6 := Below.trans (show Below w.heap.size w _ from by (repeat (first | (with_reducible exact Below.refl _ _) | (with_reducible assumption) | ((with_reducible refine Below.alloc ?_ ?_ _); (rotate_left); (first | omega | (simp <;> omega))) | ((with_reducible refine Below.setCell ?_ ?_ _); (rotate_left); (first | omega | (simp <;> omega))) | (with_reducible refine Below.drew ?_) | (with_reducible refine below_drewN ?_ _)))) (hb.mono (by first | omega | (simp <;> omega)))
            have q6t := q6B.size
            clear hb
            go_wp2_with fail
            refine (live_any _).mono ?_
            rintro e w7 ⟨rfl, hb⟩
            have q7B : Below w.heap.size w w7 := q6B.trans (hb.mono q6t)
            go_wp2_with fail
            go_ret
            exact ⟨rfl, q7B⟩
    · have HC := hide hc
      clear hc
      by_cases hp0 : p < 0
      · go_enter Try.func9, Try.ntmps9
        go_wp2_with fail
        refine (rcheck_all A n c f g _ hr).mono ?_
        rintro e w1 ⟨rfl, hb⟩
        rw [HC.out]
        have q1B : Below w.heap.size w w1 := (by refine Below.trans ?_ (hb.mono (by first | omega | (simp <;> omega))); (repeat (first | (with_reducible exact Below.refl _ _) | (with_reducible assumption) | ((with_reducible refine Below.alloc ?_ ?_ _); (rotate_left); (first | omega | (simp <;> omega))) | ((with_reducible refine Below.setCell ?_ ?_ _); (rotate_left); (first | omega | (simp <;> omega))) | (with_reducible refine Below.drew ?_) | (with_reducible refine below_drewN ?_ _))))
        have q1z := hb.size
        try simp at q1z
        have q1t : w.heap.size ≤ w1.heap.size := (by omega)
        have q1o : ∀ b o, b < w.heap.size → w1.cell? ⟨b, o, none⟩ = w.cell? ⟨b, o, none⟩ := fun b o h => q1B.cell (p := ⟨b, o, none⟩) h
        clear hb
        go_wp2_with fail
        refine (live_any _).mono ?_
        rintro e w2 ⟨rfl, hb⟩
        have q2B : Below w.heap.size w w2 := (by refine Below.trans ?_ (hb.mono (by first | omega | (simp <;> omega))); (repeat (first | (with_reducible exact Below.refl _ _) | (with_reducible assumption) | ((with_reducible refine Below.alloc ?_ ?_ _); (rotate_left); (first | omega | (simp <;> omega))) | ((with_reducible refine Below.setCell ?_ ?_ _); (rotate_left); (first | omega | (simp <;> omega))) | (with_reducible refine Below.drew ?_) | (with_reducible refine below_drewN ?_ _))))
        have q2z := hb.size
        try simp at q2z
        have q2t : w.heap.size ≤ w2.heap.size := (by omega)
        have q2o : ∀ b o, b < w.heap.size → w2.cell? ⟨b, o, none⟩ = w.cell? ⟨b, o, none⟩ := fun b o h => q2B.cell (p := ⟨b, o, none⟩) h
        clear hb q1o q1z q1B
        go_wp2_with fail
        go_ret
        exact ⟨rfl, by (repeat (first | (with_reducible exact Below.refl _ _) | (with_reducible assumption) | ((with_reducible refine Below.alloc ?_ ?_ _); (rotate_left); (first | omega | (simp <;> omega))) | ((with_reducible refine Below.setCell ?_ ?_ _); (rotate_left); (first | omega | (simp <;> omega))) | (with_reducible refine Below.drew ?_) | (with_reducible refine below_drewN ?_ _)))⟩
      · have hp1 : 1000000 < p := by omega
        clear hp
        go_enter Try.func9, Try.ntmps9
        go_wp2_with fail
        refine (rcheck_all A n c f g _ hr).mono ?_
        rintro e w1 ⟨rfl, hb⟩
        rw [HC.out]
        have q1B : Below w.heap.size w w1 := (by refine Below.trans ?_ (hb.mono (by first | omega | (simp <;> omega))); (repeat (first | (with_reducible exact Below.refl _ _) | (with_reducible assumption) | ((with_reducible refine Below.alloc ?_ ?_ _); (rotate_left); (first | omega | (simp <;> omega))) | ((with_reducible refine Below.setCell ?_ ?_ _); (rotate_left); (first | omega | (simp <;> omega))) | (with_reducible refine Below.drew ?_) | (with_reducible refine below_drewN ?_ _))))
        have q1z := hb.size
        try simp at q1z
        have q1t : w.heap.size ≤ w1.heap.size := (by omega)
        have q1o : ∀ b o, b < w.heap.size → w1.cell? ⟨b, o, none⟩ = w.cell? ⟨b, o, none⟩ := fun b o h => q1B.cell (p := ⟨b, o, none⟩) h
        clear hb
        go_wp2_with fail
        refine (live_any _).mono ?_
        rintro e w2 ⟨rfl, hb⟩
        have q2B : Below w.heap.size w w2 := (by refine Below.trans ?_ (hb.mono (by first | omega | (simp <;> omega))); (repeat (first | (with_reducible exact Below.refl _ _) | (with_reducible assumption) | ((with_reducible refine Below.alloc ?_ ?_ _); (rotate_left); (first | omega | (simp <;> omega))) | ((with_reducible refine Below.setCell ?_ ?_ _); (rotate_left); (first | omega | (simp <;> omega))) | (with_reducible refine Below.drew ?_) | (with_reducible refine below_drewN ?_ _))))
        have q2z := hb.size
        try simp at q2z
        have q2t : w.heap.size ≤ w2.heap.size := (by omega)
        have q2o : ∀ b o, b < w.heap.size → w2.cell? ⟨b, o, none⟩ = w.cell? ⟨b, o, none⟩ := fun b o h => q2B.cell (p := ⟨b, o, none⟩) h
        clear hb q1o q1z q1B
        go_wp2_with fail
        go_ret
        exact ⟨rfl, by (repeat (first | (with_reducible exact Below.refl _ _) | (with_reducible assumption) | ((with_reducible refine Below.alloc ?_ ?_ _); (rotate_left); (first | omega | (simp <;> omega))) | ((with_reducible refine Below.setCell ?_ ?_ _); (rotate_left); (first | omega | (simp <;> omega))) | (with_reducible refine Below.drew ?_) | (with_reducible refine below_drewN ?_ _)))⟩
  · go_enter Try.func9, Try.ntmps9
    go_wp2_with fail
    refine (rcheck_all A n c f g _ hr).mono ?_
    rintro e w1 ⟨rfl, hb⟩
    have q1B : Below w.heap.size w w1 := (by refine Below.trans ?_ (hb.mono (by first | omega | (simp <;> omega))); (repeat (first | (with_reducible exact Below.refl _ _) | (with_reducible assumption) | ((with_reducible refine Below.alloc ?_ ?_ _); (rotate_left); (first | omega | (simp <;> omega))) | ((with_reducible refine Below.setCell ?_ ?_ _); (rotate_left); (first | omega | (simp <;> omega))) | (with_reducible refine Below.drew ?_) | (with_reducible refine below_drewN ?_ _))))
    have q1z := hb.size
    try simp at q1z
    have q1t : w.heap.size ≤ w1.heap.size := (by omega)
    have q1o : ∀ b o, b < w.heap.size → w1.cell? ⟨b, o, none⟩ = w.cell? ⟨b, o, none⟩ := fun b o h => q1B.cell (p := ⟨b, o, none⟩) h
    clear hb
    go_wp2_with fail
    refine (live_any _).mono ?_
    rintro e w2 ⟨rfl, hb⟩
    have q2B : Below w.heap.size w w2 := (by refine Below.trans ?_ (hb.mono (by first | omega | (simp <;> omega))); (repeat (first | (with_reducible exact Below.refl _ _) | (with_reducible assumption) | ((with_reducible refine Below.alloc ?_ ?_ _); (rotate_left); (first | omega | (simp <;> omega))) | ((with_reducible refine Below.setCell ?_ ?_ _); (rotate_left); (first | omega | (simp <;> omega))) | (with_reducible refine Below.drew ?_) | (with_reducible refine below_drewN ?_ _))))
    have q2z := hb.size
    try simp at q2z
    have q2t : w.heap.size ≤ w2.heap.size := (by omega)
    have q2o : ∀ b o, b < w.heap.size → w2.cell? ⟨b, o, none⟩ = w.cell? ⟨b, o, none⟩ := fun b o h => q2B.cell (p := ⟨b, o, none⟩) h
    clear hb q1o q1z q1B
    go_wp2_with fail
    go_ret
    exact ⟨rfl, by (repeat (first | (with_reducible exact Below.refl _ _) | (with_reducible assumption) | ((with_reducible refine Below.alloc ?_ ?_ _); (rotate_left); (first | omega | (simp <;> omega))) | ((with_reducible refine Below.setCell ?_ ?_ _); (rotate_left); (first | omega | (simp <;> omega))) | (with_reducible refine Below.drew ?_) | (with_reducible refine below_drewN ?_ _)))⟩
end Go.Proofs.Ytjjclclianbnfaa
