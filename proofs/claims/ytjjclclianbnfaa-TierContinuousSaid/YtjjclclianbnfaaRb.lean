/- Contracts of the reference for numbers of 128 bits, 2. (Printed by gen/rb.py.) -/
import Derived.Test.YtjjclclianbnfaaRa
namespace Go.Proofs.Ytjjclclianbnfaa
open Go.RowKit

set_option maxHeartbeats 400000 in
theorem rjoin_pos (m : Int) (hm : MIn m) (w : World) :
    Calls Try.prog 43 #[.bool false, .agg #[.int .u64 (hiW m), .int .u64 (loW m)]] w fun e w' =>
      e = .returned (.tuple #[.agg #[.int .i64 (hiW (wrap128 m)), .int .u64 (loW (wrap128 m))], .bool (decide (WIn m))]) ∧ Below w.heap.size w w' := by
  obtain ⟨a1, a2⟩ := hi_mbd hm; obtain ⟨c1, c2⟩ := lo_bd m
  have HJ := hide (join_pos hm)
  go_enter Try.func43, Try.ntmps43
  go_wp2_with fail
  refine wp_region_seq (SB (w.heap.size + 2) [w.heap.size + 1] _) [true, true, true, true, true, true, true, true, true, false, true] (by kernel_rfl) (by kernel_rfl) rfl (by kernel_rfl) (fun _ _ d _ _ h => by cases d <;> exact h) SB.refl.drew (fun hHeld => ?_)
  refine seq_take ?_ (by rfl) (fun wx hSx => ?_) ?_
  rotate_left
  · (unfold SB at hSx; go_simp; (try with_reducible rfl))
  (try simp only [Act.put, List.setIfInBounds_toArray, List.set_cons_zero, List.set_cons_succ])
  refine seq_take ?_ (by rfl) (fun wx hSx => ?_) ?_
  rotate_left
  · (unfold SB at hSx; go_simp; (try with_reducible rfl))
  (try simp only [Act.put, List.setIfInBounds_toArray, List.set_cons_zero, List.set_cons_succ])
  refine seq_take ?_ (by rfl) (fun wx hSx => ?_) ?_
  rotate_left
  · (unfold SB at hSx; go_simp; (try with_reducible rfl))
  (try simp only [Act.put, List.setIfInBounds_toArray, List.set_cons_zero, List.set_cons_succ])
  refine seq_take ?_ (by rfl) (fun wx hSx => ?_) ?_
  rotate_left
  · (unfold SB at hSx; go_simp; (try with_reducible rfl))
  (try simp only [Act.put, List.setIfInBounds_toArray, List.set_cons_zero, List.set_cons_succ])
  refine seq_take ?_ (by rfl) (fun wx hSx => ?_) ?_
  rotate_left
  · (unfold SB at hSx; go_simp; (try with_reducible rfl))
  (try simp only [Act.put, List.setIfInBounds_toArray, List.set_cons_zero, List.set_cons_succ])
  refine seq_take ?_ (by rfl) (fun wx hSx => ?_) ?_
  rotate_left
  · (unfold SB at hSx; go_simp; (try with_reducible rfl))
  (try simp only [Act.put, List.setIfInBounds_toArray, List.set_cons_zero, List.set_cons_succ])
  refine seq_take ?_ (by rfl) (fun wx hSx => ?_) ?_
  rotate_left
  · (unfold SB at hSx; go_simp; (try with_reducible rfl))
  (try simp only [Act.put, List.setIfInBounds_toArray, List.set_cons_zero, List.set_cons_succ])
  refine seq_take ?_ (by rfl) (fun wx hSx => ?_) ?_
  rotate_left
  · (unfold SB at hSx; go_simp; (try with_reducible rfl))
  (try simp only [Act.put, List.setIfInBounds_toArray, List.set_cons_zero, List.set_cons_succ])
  refine seq_take ?_ (by rfl) (fun wx hSx => ?_) ?_
  rotate_left
  · (unfold SB at hSx; go_simp; (try with_reducible rfl))
  (try simp only [Act.put, List.setIfInBounds_toArray, List.set_cons_zero, List.set_cons_succ])
  refine seq_run (by rfl) (fun K hK => ?_)
  go_simp
  refine hK.out _ _ ?_ (fun hHeld => ?_)
  · (repeat (first | (with_reducible exact SB.refl) | (with_reducible exact hHeld) | (with_reducible refine SB.drew ?_) | (with_reducible refine SB.drewN ?_ _) | ((with_reducible refine SB.alloc ?_ ?_ _); (rotate_left); (first | omega | (simp <;> omega))) | ((with_reducible refine SB.setCell ?_ ?_ _); (rotate_left); (focus (simp; done))) | ((with_reducible refine SB.below ?_ hbS ?_); (rotate_left); (first | omega | (simp <;> omega))) | (with_reducible refine SB.undrew ?_) | ((with_reducible refine SB.congr ?_ ?_); (rotate_left); (focus (simp; done))) | ((with_reducible refine SB.realloc ?_ ?_ ?_); (rotate_left); (focus (simp; done)); (focus (simp; done)))))
  clear hK K
  (try simp only [Act.put, List.setIfInBounds_toArray, List.set_cons_zero, List.set_cons_succ])
  refine seq_take ?_ (by rfl) (fun wx hSx => ?_) ?_
  rotate_left
  · (unfold SB at hSx; go_simp; (try with_reducible rfl))
  (try simp only [Act.put, List.setIfInBounds_toArray, List.set_cons_zero, List.set_cons_succ])
  refine seq_end ?_
  go_wp2_with fail
  refine bodyPost_ret (by simp [results, Try.results43, go_sem, *] <;> rfl) rfl ⟨?_, ?_⟩
  · simp only [i64w]
    rw [HJ.out.1, ← HJ.out.2.1, decide_eq_decide.2 HJ.out.2.2]
  (repeat (first | (with_reducible exact Below.refl _ _) | (with_reducible assumption) | ((with_reducible refine Below.alloc ?_ ?_ _); (rotate_left); (first | omega | (simp <;> omega))) | ((with_reducible refine Below.setCell ?_ ?_ _); (rotate_left); (first | omega | (simp <;> omega))) | (with_reducible refine Below.drew ?_) | (with_reducible refine below_drewN ?_ _)))
set_option maxHeartbeats 400000 in
theorem rjoinA0 (m : Int) (hm : MIn m) (hl : (IntKind.u64.wrap (notU (loW m) + 1) == 0) = true) (ht : hiW m < 9223372036854775808) (w : World) :
    Calls Try.prog 43 #[.bool true, .agg #[.int .u64 (hiW m), .int .u64 (loW m)]] w fun e w' =>
      e = .returned (.tuple #[.agg #[.int .i64 (hiW (wrap128 (-m))), .int .u64 (loW (wrap128 (-m)))], .bool (decide (WIn (-m)))]) ∧ Below w.heap.size w w' := by
  obtain ⟨a1, a2⟩ := hi_mbd hm; obtain ⟨c1, c2⟩ := lo_bd m
  have HJ := hide (join_neg hm)
  have e1 := xor_maxU' _ c1 c2
  have e2 := xor_maxU' _ a1 a2
  have n1 := notU_bd a1 a2
  go_enter Try.func43, Try.ntmps43
  go_wp2_with fail
  refine wp_region_seq (SB (w.heap.size + 2) [w.heap.size + 1] _) [true, true, true, true, true, true, true, true, true] (by kernel_rfl) (by kernel_rfl) rfl (by kernel_rfl) (fun _ _ d _ _ h => by cases d <;> exact h) SB.refl.drew (fun hHeld => ?_)
  refine seq_take ?_ (by rfl) (fun wx hSx => ?_) ?_
  rotate_left
  · (unfold SB at hSx; go_simp; (try with_reducible rfl))
  (try simp only [Act.put, List.setIfInBounds_toArray, List.set_cons_zero, List.set_cons_succ])
  refine seq_take ?_ (by rfl) (fun wx hSx => ?_) ?_
  rotate_left
  · (unfold SB at hSx; go_simp; (try with_reducible rfl))
  (try simp only [Act.put, List.setIfInBounds_toArray, List.set_cons_zero, List.set_cons_succ])
  refine seq_take ?_ (by rfl) (fun wx hSx => ?_) ?_
  rotate_left
  · (unfold SB at hSx; go_simp; (try with_reducible rfl))
  (try simp only [Act.put, List.setIfInBounds_toArray, List.set_cons_zero, List.set_cons_succ])
  refine seq_take ?_ (by rfl) (fun wx hSx => ?_) ?_
  rotate_left
  · (unfold SB at hSx; go_simp; (try with_reducible rfl))
  (try simp only [Act.put, List.setIfInBounds_toArray, List.set_cons_zero, List.set_cons_succ])
  refine seq_take ?_ (by rfl) (fun wx hSx => ?_) ?_
  rotate_left
  · (unfold SB at hSx; go_simp; (try with_reducible rfl))
  (try simp only [Act.put, List.setIfInBounds_toArray, List.set_cons_zero, List.set_cons_succ])
  refine seq_take ?_ (by rfl) (fun wx hSx => ?_) ?_
  rotate_left
  · (unfold SB at hSx; go_simp; (try with_reducible rfl))
  (try simp only [Act.put, List.setIfInBounds_toArray, List.set_cons_zero, List.set_cons_succ])
  refine seq_take ?_ (by rfl) (fun wx hSx => ?_) ?_
  rotate_left
  · (unfold SB at hSx; go_simp; (try with_reducible rfl))
  (try simp only [Act.put, List.setIfInBounds_toArray, List.set_cons_zero, List.set_cons_succ])
  refine seq_take ?_ (by rfl) (fun wx hSx => ?_) ?_
  rotate_left
  · (unfold SB at hSx; go_simp; (try with_reducible rfl))
  (try simp only [Act.put, List.setIfInBounds_toArray, List.set_cons_zero, List.set_cons_succ])
  refine seq_take ?_ (by rfl) (fun wx hSx => ?_) ?_
  rotate_left
  · (unfold SB at hSx; go_simp; (try with_reducible rfl))
  (try simp only [Act.put, List.setIfInBounds_toArray, List.set_cons_zero, List.set_cons_succ])
  refine seq_end ?_
  go_wp2_with fail
  refine wp_region_seq (SB (w.heap.size + 2) [w.heap.size + 1] _) [true, true, true, true, true, true, true, true, true, true, true, true, true, true, true, true, true, false, true] (by kernel_rfl) (by kernel_rfl) rfl (by kernel_rfl) (fun _ _ d _ _ h => by cases d <;> exact h) SB.refl.drew (fun hHeld => ?_)
  refine seq_take ?_ (by rfl) (fun wx hSx => ?_) ?_
  rotate_left
  · (unfold SB at hSx; go_simp; (try with_reducible rfl))
  (try simp only [Act.put, List.setIfInBounds_toArray, List.set_cons_zero, List.set_cons_succ])
  refine seq_take ?_ (by rfl) (fun wx hSx => ?_) ?_
  rotate_left
  · (unfold SB at hSx; go_simp; (try with_reducible rfl))
  (try simp only [Act.put, List.setIfInBounds_toArray, List.set_cons_zero, List.set_cons_succ])
  refine seq_take ?_ (by rfl) (fun wx hSx => ?_) ?_
  rotate_left
  · (unfold SB at hSx; go_simp; (try with_reducible rfl))
  (try simp only [Act.put, List.setIfInBounds_toArray, List.set_cons_zero, List.set_cons_succ])
  refine seq_take ?_ (by rfl) (fun wx hSx => ?_) ?_
  rotate_left
  · (unfold SB at hSx; go_simp; (try with_reducible rfl))
  (try simp only [Act.put, List.setIfInBounds_toArray, List.set_cons_zero, List.set_cons_succ])
  refine seq_take ?_ (by rfl) (fun wx hSx => ?_) ?_
  rotate_left
  · (unfold SB at hSx; go_simp; (try with_reducible rfl))
  (try simp only [Act.put, List.setIfInBounds_toArray, List.set_cons_zero, List.set_cons_succ])
  refine seq_take ?_ (by rfl) (fun wx hSx => ?_) ?_
  rotate_left
  · (unfold SB at hSx; go_simp; (try with_reducible rfl))
  (try simp only [Act.put, List.setIfInBounds_toArray, List.set_cons_zero, List.set_cons_succ])
  refine seq_take ?_ (by rfl) (fun wx hSx => ?_) ?_
  rotate_left
  · (unfold SB at hSx; go_simp; (try with_reducible rfl))
  (try simp only [Act.put, List.setIfInBounds_toArray, List.set_cons_zero, List.set_cons_succ])
  refine seq_take ?_ (by rfl) (fun wx hSx => ?_) ?_
  rotate_left
  · (unfold SB at hSx; go_simp; (try with_reducible rfl))
  (try simp only [Act.put, List.setIfInBounds_toArray, List.set_cons_zero, List.set_cons_succ])
  refine seq_skip (by rfl) ?_
  (try simp only [Act.put, List.setIfInBounds_toArray, List.set_cons_zero, List.set_cons_succ])
  refine seq_skip (by rfl) ?_
  (try simp only [Act.put, List.setIfInBounds_toArray, List.set_cons_zero, List.set_cons_succ])
  refine seq_skip (by rfl) ?_
  (try simp only [Act.put, List.setIfInBounds_toArray, List.set_cons_zero, List.set_cons_succ])
  refine seq_skip (by rfl) ?_
  (try simp only [Act.put, List.setIfInBounds_toArray, List.set_cons_zero, List.set_cons_succ])
  refine seq_skip (by rfl) ?_
  (try simp only [Act.put, List.setIfInBounds_toArray, List.set_cons_zero, List.set_cons_succ])
  refine seq_skip (by rfl) ?_
  (try simp only [Act.put, List.setIfInBounds_toArray, List.set_cons_zero, List.set_cons_succ])
  refine seq_skip (by rfl) ?_
  (try simp only [Act.put, List.setIfInBounds_toArray, List.set_cons_zero, List.set_cons_succ])
  refine seq_skip (by rfl) ?_
  (try simp only [Act.put, List.setIfInBounds_toArray, List.set_cons_zero, List.set_cons_succ])
  refine seq_take ?_ (by rfl) (fun wx hSx => ?_) ?_
  rotate_left
  · (unfold SB at hSx; go_simp; (try with_reducible rfl))
  (try simp only [Act.put, List.setIfInBounds_toArray, List.set_cons_zero, List.set_cons_succ])
  refine seq_run (by rfl) (fun K hK => ?_)
  go_simp
  refine hK.out _ _ ?_ (fun hHeld => ?_)
  · (repeat (first | (with_reducible exact SB.refl) | (with_reducible exact hHeld) | (with_reducible refine SB.drew ?_) | (with_reducible refine SB.drewN ?_ _) | ((with_reducible refine SB.alloc ?_ ?_ _); (rotate_left); (first | omega | (simp <;> omega))) | ((with_reducible refine SB.setCell ?_ ?_ _); (rotate_left); (focus (simp; done))) | ((with_reducible refine SB.below ?_ hbS ?_); (rotate_left); (first | omega | (simp <;> omega))) | (with_reducible refine SB.undrew ?_) | ((with_reducible refine SB.congr ?_ ?_); (rotate_left); (focus (simp; done))) | ((with_reducible refine SB.realloc ?_ ?_ ?_); (rotate_left); (focus (simp; done)); (focus (simp; done)))))
  clear hK K
  (try simp only [Act.put, List.setIfInBounds_toArray, List.set_cons_zero, List.set_cons_succ])
  refine seq_take ?_ (by rfl) (fun wx hSx => ?_) ?_
  rotate_left
  · (unfold SB at hSx; go_simp; (try with_reducible rfl))
  (try simp only [Act.put, List.setIfInBounds_toArray, List.set_cons_zero, List.set_cons_succ])
  refine seq_end ?_
  go_wp2_with fail
  refine bodyPost_ret (by simp [results, Try.results43, go_sem, *] <;> rfl) rfl ⟨?_, ?_⟩
  · have hh := HJ.out.1 (by simpa using hl)
    simp only [i64w]
    rw [hh.1, hh.2.1, decide_eq_true (HJ.out.2.2.1 (by omega))]
  (repeat (first | (with_reducible exact Below.refl _ _) | (with_reducible assumption) | ((with_reducible refine Below.alloc ?_ ?_ _); (rotate_left); (first | omega | (simp <;> omega))) | ((with_reducible refine Below.setCell ?_ ?_ _); (rotate_left); (first | omega | (simp <;> omega))) | (with_reducible refine Below.drew ?_) | (with_reducible refine below_drewN ?_ _)))
set_option maxHeartbeats 400000 in
theorem rjoinB0 (m : Int) (hm : MIn m) (hl : (IntKind.u64.wrap (notU (loW m) + 1) == 0) = true) (ht : 9223372036854775808 ≤ hiW m) (ht1 : hiW m ≤ 9223372036854775808) (w : World) :
    Calls Try.prog 43 #[.bool true, .agg #[.int .u64 (hiW m), .int .u64 (loW m)]] w fun e w' =>
      e = .returned (.tuple #[.agg #[.int .i64 (hiW (wrap128 (-m))), .int .u64 (loW (wrap128 (-m)))], .bool (decide (WIn (-m)))]) ∧ Below w.heap.size w w' := by
  obtain ⟨a1, a2⟩ := hi_mbd hm; obtain ⟨c1, c2⟩ := lo_bd m
  have HJ := hide (join_neg hm)
  have e1 := xor_maxU' _ c1 c2
  have e2 := xor_maxU' _ a1 a2
  have n1 := notU_bd a1 a2
  have hd : decide (hiW m < 9223372036854775808) = false := decide_eq_false (by omega)
  have he : (hiW m == 9223372036854775808) = true := beq_iff_eq.2 (by omega)
  have hq : (loW m == 0) = true := beq_iff_eq.2 (HJ.out.1 (by simpa using hl)).2.2
  go_enter Try.func43, Try.ntmps43
  go_wp2_with fail
  refine wp_region_seq (SB (w.heap.size + 2) [w.heap.size + 1] _) [true, true, true, true, true, true, true, true, true] (by kernel_rfl) (by kernel_rfl) rfl (by kernel_rfl) (fun _ _ d _ _ h => by cases d <;> exact h) SB.refl.drew (fun hHeld => ?_)
  refine seq_take ?_ (by rfl) (fun wx hSx => ?_) ?_
  rotate_left
  · (unfold SB at hSx; go_simp; (try with_reducible rfl))
  (try simp only [Act.put, List.setIfInBounds_toArray, List.set_cons_zero, List.set_cons_succ])
  refine seq_take ?_ (by rfl) (fun wx hSx => ?_) ?_
  rotate_left
  · (unfold SB at hSx; go_simp; (try with_reducible rfl))
  (try simp only [Act.put, List.setIfInBounds_toArray, List.set_cons_zero, List.set_cons_succ])
  refine seq_take ?_ (by rfl) (fun wx hSx => ?_) ?_
  rotate_left
  · (unfold SB at hSx; go_simp; (try with_reducible rfl))
  (try simp only [Act.put, List.setIfInBounds_toArray, List.set_cons_zero, List.set_cons_succ])
  refine seq_take ?_ (by rfl) (fun wx hSx => ?_) ?_
  rotate_left
  · (unfold SB at hSx; go_simp; (try with_reducible rfl))
  (try simp only [Act.put, List.setIfInBounds_toArray, List.set_cons_zero, List.set_cons_succ])
  refine seq_take ?_ (by rfl) (fun wx hSx => ?_) ?_
  rotate_left
  · (unfold SB at hSx; go_simp; (try with_reducible rfl))
  (try simp only [Act.put, List.setIfInBounds_toArray, List.set_cons_zero, List.set_cons_succ])
  refine seq_take ?_ (by rfl) (fun wx hSx => ?_) ?_
  rotate_left
  · (unfold SB at hSx; go_simp; (try with_reducible rfl))
  (try simp only [Act.put, List.setIfInBounds_toArray, List.set_cons_zero, List.set_cons_succ])
  refine seq_take ?_ (by rfl) (fun wx hSx => ?_) ?_
  rotate_left
  · (unfold SB at hSx; go_simp; (try with_reducible rfl))
  (try simp only [Act.put, List.setIfInBounds_toArray, List.set_cons_zero, List.set_cons_succ])
  refine seq_take ?_ (by rfl) (fun wx hSx => ?_) ?_
  rotate_left
  · (unfold SB at hSx; go_simp; (try with_reducible rfl))
  (try simp only [Act.put, List.setIfInBounds_toArray, List.set_cons_zero, List.set_cons_succ])
  refine seq_take ?_ (by rfl) (fun wx hSx => ?_) ?_
  rotate_left
  · (unfold SB at hSx; go_simp; (try with_reducible rfl))
  (try simp only [Act.put, List.setIfInBounds_toArray, List.set_cons_zero, List.set_cons_succ])
  refine seq_end ?_
  go_wp2_with fail
  refine wp_region_seq (SB (w.heap.size + 2) [w.heap.size + 1] _) [true, true, true, true, true, true, true, true, true, true, true, true, true, true, true, true, true, false, true] (by kernel_rfl) (by kernel_rfl) rfl (by kernel_rfl) (fun _ _ d _ _ h => by cases d <;> exact h) SB.refl.drew (fun hHeld => ?_)
  refine seq_take ?_ (by rfl) (fun wx hSx => ?_) ?_
  rotate_left
  · (unfold SB at hSx; go_simp; (try with_reducible rfl))
  (try simp only [Act.put, List.setIfInBounds_toArray, List.set_cons_zero, List.set_cons_succ])
  refine seq_take ?_ (by rfl) (fun wx hSx => ?_) ?_
  rotate_left
  · (unfold SB at hSx; go_simp; (try with_reducible rfl))
  (try simp only [Act.put, List.setIfInBounds_toArray, List.set_cons_zero, List.set_cons_succ])
  refine seq_take ?_ (by rfl) (fun wx hSx => ?_) ?_
  rotate_left
  · (unfold SB at hSx; go_simp; (try with_reducible rfl))
  (try simp only [Act.put, List.setIfInBounds_toArray, List.set_cons_zero, List.set_cons_succ])
  refine seq_take ?_ (by rfl) (fun wx hSx => ?_) ?_
  rotate_left
  · (unfold SB at hSx; go_simp; (try with_reducible rfl))
  (try simp only [Act.put, List.setIfInBounds_toArray, List.set_cons_zero, List.set_cons_succ])
  refine seq_take ?_ (by rfl) (fun wx hSx => ?_) ?_
  rotate_left
  · (unfold SB at hSx; go_simp; (try with_reducible rfl))
  (try simp only [Act.put, List.setIfInBounds_toArray, List.set_cons_zero, List.set_cons_succ])
  refine seq_take ?_ (by rfl) (fun wx hSx => ?_) ?_
  rotate_left
  · (unfold SB at hSx; go_simp; (try with_reducible rfl))
  (try simp only [Act.put, List.setIfInBounds_toArray, List.set_cons_zero, List.set_cons_succ])
  refine seq_take ?_ (by rfl) (fun wx hSx => ?_) ?_
  rotate_left
  · (unfold SB at hSx; go_simp; (try with_reducible rfl))
  (try simp only [Act.put, List.setIfInBounds_toArray, List.set_cons_zero, List.set_cons_succ])
  refine seq_take ?_ (by rfl) (fun wx hSx => ?_) ?_
  rotate_left
  · (unfold SB at hSx; go_simp; (try with_reducible rfl))
  (try simp only [Act.put, List.setIfInBounds_toArray, List.set_cons_zero, List.set_cons_succ])
  refine seq_take ?_ (by rfl) (fun wx hSx => ?_) ?_
  rotate_left
  · (unfold SB at hSx; go_simp; (try with_reducible rfl))
  (try simp only [Act.put, List.setIfInBounds_toArray, List.set_cons_zero, List.set_cons_succ])
  refine seq_take ?_ (by rfl) (fun wx hSx => ?_) ?_
  rotate_left
  · (unfold SB at hSx; go_simp; (try with_reducible rfl))
  (try simp only [Act.put, List.setIfInBounds_toArray, List.set_cons_zero, List.set_cons_succ])
  refine seq_take ?_ (by rfl) (fun wx hSx => ?_) ?_
  rotate_left
  · (unfold SB at hSx; go_simp; (try with_reducible rfl))
  (try simp only [Act.put, List.setIfInBounds_toArray, List.set_cons_zero, List.set_cons_succ])
  refine seq_take ?_ (by rfl) (fun wx hSx => ?_) ?_
  rotate_left
  · (unfold SB at hSx; go_simp; (try with_reducible rfl))
  (try simp only [Act.put, List.setIfInBounds_toArray, List.set_cons_zero, List.set_cons_succ])
  refine seq_take ?_ (by rfl) (fun wx hSx => ?_) ?_
  rotate_left
  · (unfold SB at hSx; go_simp; (try with_reducible rfl))
  (try simp only [Act.put, List.setIfInBounds_toArray, List.set_cons_zero, List.set_cons_succ])
  refine seq_take ?_ (by rfl) (fun wx hSx => ?_) ?_
  rotate_left
  · (unfold SB at hSx; go_simp; (try with_reducible rfl))
  (try simp only [Act.put, List.setIfInBounds_toArray, List.set_cons_zero, List.set_cons_succ])
  refine seq_take ?_ (by rfl) (fun wx hSx => ?_) ?_
  rotate_left
  · (unfold SB at hSx; go_simp; (try with_reducible rfl))
  (try simp only [Act.put, List.setIfInBounds_toArray, List.set_cons_zero, List.set_cons_succ])
  refine seq_take ?_ (by rfl) (fun wx hSx => ?_) ?_
  rotate_left
  · (unfold SB at hSx; go_simp; (try with_reducible rfl))
  (try simp only [Act.put, List.setIfInBounds_toArray, List.set_cons_zero, List.set_cons_succ])
  refine seq_take ?_ (by rfl) (fun wx hSx => ?_) ?_
  rotate_left
  · (unfold SB at hSx; go_simp; (try with_reducible rfl))
  (try simp only [Act.put, List.setIfInBounds_toArray, List.set_cons_zero, List.set_cons_succ])
  refine seq_run (by rfl) (fun K hK => ?_)
  go_simp
  refine hK.out _ _ ?_ (fun hHeld => ?_)
  · (repeat (first | (with_reducible exact SB.refl) | (with_reducible exact hHeld) | (with_reducible refine SB.drew ?_) | (with_reducible refine SB.drewN ?_ _) | ((with_reducible refine SB.alloc ?_ ?_ _); (rotate_left); (first | omega | (simp <;> omega))) | ((with_reducible refine SB.setCell ?_ ?_ _); (rotate_left); (focus (simp; done))) | ((with_reducible refine SB.below ?_ hbS ?_); (rotate_left); (first | omega | (simp <;> omega))) | (with_reducible refine SB.undrew ?_) | ((with_reducible refine SB.congr ?_ ?_); (rotate_left); (focus (simp; done))) | ((with_reducible refine SB.realloc ?_ ?_ ?_); (rotate_left); (focus (simp; done)); (focus (simp; done)))))
  clear hK K
  (try simp only [Act.put, List.setIfInBounds_toArray, List.set_cons_zero, List.set_cons_succ])
  refine seq_take ?_ (by rfl) (fun wx hSx => ?_) ?_
  rotate_left
  · (unfold SB at hSx; go_simp; (try with_reducible rfl))
  (try simp only [Act.put, List.setIfInBounds_toArray, List.set_cons_zero, List.set_cons_succ])
  refine seq_end ?_
  go_wp2_with fail
  refine bodyPost_ret (by simp [results, Try.results43, go_sem, *] <;> rfl) rfl ⟨?_, ?_⟩
  · have hh := HJ.out.1 (by simpa using hl)
    simp only [i64w]
    rw [hh.1, hh.2.1, decide_eq_true (HJ.out.2.2.1 (by omega))]
  (repeat (first | (with_reducible exact Below.refl _ _) | (with_reducible assumption) | ((with_reducible refine Below.alloc ?_ ?_ _); (rotate_left); (first | omega | (simp <;> omega))) | ((with_reducible refine Below.setCell ?_ ?_ _); (rotate_left); (first | omega | (simp <;> omega))) | (with_reducible refine Below.drew ?_) | (with_reducible refine below_drewN ?_ _)))
set_option maxHeartbeats 400000 in
theorem rjoinC0 (m : Int) (hm : MIn m) (hl : (IntKind.u64.wrap (notU (loW m) + 1) == 0) = true) (ht : 9223372036854775808 < hiW m) (w : World) :
    Calls Try.prog 43 #[.bool true, .agg #[.int .u64 (hiW m), .int .u64 (loW m)]] w fun e w' =>
      e = .returned (.tuple #[.agg #[.int .i64 (hiW (wrap128 (-m))), .int .u64 (loW (wrap128 (-m)))], .bool (decide (WIn (-m)))]) ∧ Below w.heap.size w w' := by
  obtain ⟨a1, a2⟩ := hi_mbd hm; obtain ⟨c1, c2⟩ := lo_bd m
  have HJ := hide (join_neg hm)
  have e1 := xor_maxU' _ c1 c2
  have e2 := xor_maxU' _ a1 a2
  have n1 := notU_bd a1 a2
  have hd : decide (hiW m < 9223372036854775808) = false := decide_eq_false (by omega)
  have he : (hiW m == 9223372036854775808) = false := beq_eq_false_iff_ne.2 (by omega)
  go_enter Try.func43, Try.ntmps43
  go_wp2_with fail
  refine wp_region_seq (SB (w.heap.size + 2) [w.heap.size + 1] _) [true, true, true, true, true, true, true, true, true] (by kernel_rfl) (by kernel_rfl) rfl (by kernel_rfl) (fun _ _ d _ _ h => by cases d <;> exact h) SB.refl.drew (fun hHeld => ?_)
  refine seq_take ?_ (by rfl) (fun wx hSx => ?_) ?_
  rotate_left
  · (unfold SB at hSx; go_simp; (try with_reducible rfl))
  (try simp only [Act.put, List.setIfInBounds_toArray, List.set_cons_zero, List.set_cons_succ])
  refine seq_take ?_ (by rfl) (fun wx hSx => ?_) ?_
  rotate_left
  · (unfold SB at hSx; go_simp; (try with_reducible rfl))
  (try simp only [Act.put, List.setIfInBounds_toArray, List.set_cons_zero, List.set_cons_succ])
  refine seq_take ?_ (by rfl) (fun wx hSx => ?_) ?_
  rotate_left
  · (unfold SB at hSx; go_simp; (try with_reducible rfl))
  (try simp only [Act.put, List.setIfInBounds_toArray, List.set_cons_zero, List.set_cons_succ])
  refine seq_take ?_ (by rfl) (fun wx hSx => ?_) ?_
  rotate_left
  · (unfold SB at hSx; go_simp; (try with_reducible rfl))
  (try simp only [Act.put, List.setIfInBounds_toArray, List.set_cons_zero, List.set_cons_succ])
  refine seq_take ?_ (by rfl) (fun wx hSx => ?_) ?_
  rotate_left
  · (unfold SB at hSx; go_simp; (try with_reducible rfl))
  (try simp only [Act.put, List.setIfInBounds_toArray, List.set_cons_zero, List.set_cons_succ])
  refine seq_take ?_ (by rfl) (fun wx hSx => ?_) ?_
  rotate_left
  · (unfold SB at hSx; go_simp; (try with_reducible rfl))
  (try simp only [Act.put, List.setIfInBounds_toArray, List.set_cons_zero, List.set_cons_succ])
  refine seq_take ?_ (by rfl) (fun wx hSx => ?_) ?_
  rotate_left
  · (unfold SB at hSx; go_simp; (try with_reducible rfl))
  (try simp only [Act.put, List.setIfInBounds_toArray, List.set_cons_zero, List.set_cons_succ])
  refine seq_take ?_ (by rfl) (fun wx hSx => ?_) ?_
  rotate_left
  · (unfold SB at hSx; go_simp; (try with_reducible rfl))
  (try simp only [Act.put, List.setIfInBounds_toArray, List.set_cons_zero, List.set_cons_succ])
  refine seq_take ?_ (by rfl) (fun wx hSx => ?_) ?_
  rotate_left
  · (unfold SB at hSx; go_simp; (try with_reducible rfl))
  (try simp only [Act.put, List.setIfInBounds_toArray, List.set_cons_zero, List.set_cons_succ])
  refine seq_end ?_
  go_wp2_with fail
  refine wp_region_seq (SB (w.heap.size + 2) [w.heap.size + 1] _) [true, true, true, true, true, true, true, true, true, true, true, true, true, true, true, true, true, false, true] (by kernel_rfl) (by kernel_rfl) rfl (by kernel_rfl) (fun _ _ d _ _ h => by cases d <;> exact h) SB.refl.drew (fun hHeld => ?_)
  refine seq_take ?_ (by rfl) (fun wx hSx => ?_) ?_
  rotate_left
  · (unfold SB at hSx; go_simp; (try with_reducible rfl))
  (try simp only [Act.put, List.setIfInBounds_toArray, List.set_cons_zero, List.set_cons_succ])
  refine seq_take ?_ (by rfl) (fun wx hSx => ?_) ?_
  rotate_left
  · (unfold SB at hSx; go_simp; (try with_reducible rfl))
  (try simp only [Act.put, List.setIfInBounds_toArray, List.set_cons_zero, List.set_cons_succ])
  refine seq_take ?_ (by rfl) (fun wx hSx => ?_) ?_
  rotate_left
  · (unfold SB at hSx; go_simp; (try with_reducible rfl))
  (try simp only [Act.put, List.setIfInBounds_toArray, List.set_cons_zero, List.set_cons_succ])
  refine seq_take ?_ (by rfl) (fun wx hSx => ?_) ?_
  rotate_left
  · (unfold SB at hSx; go_simp; (try with_reducible rfl))
  (try simp only [Act.put, List.setIfInBounds_toArray, List.set_cons_zero, List.set_cons_succ])
  refine seq_take ?_ (by rfl) (fun wx hSx => ?_) ?_
  rotate_left
  · (unfold SB at hSx; go_simp; (try with_reducible rfl))
  (try simp only [Act.put, List.setIfInBounds_toArray, List.set_cons_zero, List.set_cons_succ])
  refine seq_take ?_ (by rfl) (fun wx hSx => ?_) ?_
  rotate_left
  · (unfold SB at hSx; go_simp; (try with_reducible rfl))
  (try simp only [Act.put, List.setIfInBounds_toArray, List.set_cons_zero, List.set_cons_succ])
  refine seq_take ?_ (by rfl) (fun wx hSx => ?_) ?_
  rotate_left
  · (unfold SB at hSx; go_simp; (try with_reducible rfl))
  (try simp only [Act.put, List.setIfInBounds_toArray, List.set_cons_zero, List.set_cons_succ])
  refine seq_take ?_ (by rfl) (fun wx hSx => ?_) ?_
  rotate_left
  · (unfold SB at hSx; go_simp; (try with_reducible rfl))
  (try simp only [Act.put, List.setIfInBounds_toArray, List.set_cons_zero, List.set_cons_succ])
  refine seq_take ?_ (by rfl) (fun wx hSx => ?_) ?_
  rotate_left
  · (unfold SB at hSx; go_simp; (try with_reducible rfl))
  (try simp only [Act.put, List.setIfInBounds_toArray, List.set_cons_zero, List.set_cons_succ])
  refine seq_take ?_ (by rfl) (fun wx hSx => ?_) ?_
  rotate_left
  · (unfold SB at hSx; go_simp; (try with_reducible rfl))
  (try simp only [Act.put, List.setIfInBounds_toArray, List.set_cons_zero, List.set_cons_succ])
  refine seq_take ?_ (by rfl) (fun wx hSx => ?_) ?_
  rotate_left
  · (unfold SB at hSx; go_simp; (try with_reducible rfl))
  (try simp only [Act.put, List.setIfInBounds_toArray, List.set_cons_zero, List.set_cons_succ])
  refine seq_take ?_ (by rfl) (fun wx hSx => ?_) ?_
  rotate_left
  · (unfold SB at hSx; go_simp; (try with_reducible rfl))
  (try simp only [Act.put, List.setIfInBounds_toArray, List.set_cons_zero, List.set_cons_succ])
  refine seq_skip (by rfl) ?_
  (try simp only [Act.put, List.setIfInBounds_toArray, List.set_cons_zero, List.set_cons_succ])
  refine seq_skip (by rfl) ?_
  (try simp only [Act.put, List.setIfInBounds_toArray, List.set_cons_zero, List.set_cons_succ])
  refine seq_skip (by rfl) ?_
  (try simp only [Act.put, List.setIfInBounds_toArray, List.set_cons_zero, List.set_cons_succ])
  refine seq_take ?_ (by rfl) (fun wx hSx => ?_) ?_
  rotate_left
  · (unfold SB at hSx; go_simp; (try with_reducible rfl))
  (try simp only [Act.put, List.setIfInBounds_toArray, List.set_cons_zero, List.set_cons_succ])
  refine seq_take ?_ (by rfl) (fun wx hSx => ?_) ?_
  rotate_left
  · (unfold SB at hSx; go_simp; (try with_reducible rfl))
  (try simp only [Act.put, List.setIfInBounds_toArray, List.set_cons_zero, List.set_cons_succ])
  refine seq_run (by rfl) (fun K hK => ?_)
  go_simp
  refine hK.out _ _ ?_ (fun hHeld => ?_)
  · (repeat (first | (with_reducible exact SB.refl) | (with_reducible exact hHeld) | (with_reducible refine SB.drew ?_) | (with_reducible refine SB.drewN ?_ _) | ((with_reducible refine SB.alloc ?_ ?_ _); (rotate_left); (first | omega | (simp <;> omega))) | ((with_reducible refine SB.setCell ?_ ?_ _); (rotate_left); (focus (simp; done))) | ((with_reducible refine SB.below ?_ hbS ?_); (rotate_left); (first | omega | (simp <;> omega))) | (with_reducible refine SB.undrew ?_) | ((with_reducible refine SB.congr ?_ ?_); (rotate_left); (focus (simp; done))) | ((with_reducible refine SB.realloc ?_ ?_ ?_); (rotate_left); (focus (simp; done)); (focus (simp; done)))))
  clear hK K
  (try simp only [Act.put, List.setIfInBounds_toArray, List.set_cons_zero, List.set_cons_succ])
  refine seq_take ?_ (by rfl) (fun wx hSx => ?_) ?_
  rotate_left
  · (unfold SB at hSx; go_simp; (try with_reducible rfl))
  (try simp only [Act.put, List.setIfInBounds_toArray, List.set_cons_zero, List.set_cons_succ])
  refine seq_end ?_
  go_wp2_with fail
  refine bodyPost_ret (by simp [results, Try.results43, go_sem, *] <;> rfl) rfl ⟨?_, ?_⟩
  · have hh := HJ.out.1 (by simpa using hl)
    simp only [i64w]
    rw [hh.1, hh.2.1, decide_eq_false (fun hw => by have := HJ.out.2.2.2 hw; have := hh.2.2; omega)]
  (repeat (first | (with_reducible exact Below.refl _ _) | (with_reducible assumption) | ((with_reducible refine Below.alloc ?_ ?_ _); (rotate_left); (first | omega | (simp <;> omega))) | ((with_reducible refine Below.setCell ?_ ?_ _); (rotate_left); (first | omega | (simp <;> omega))) | (with_reducible refine Below.drew ?_) | (with_reducible refine below_drewN ?_ _)))
set_option maxHeartbeats 400000 in
theorem rjoinA1 (m : Int) (hm : MIn m) (hl : (IntKind.u64.wrap (notU (loW m) + 1) == 0) = false) (ht : hiW m < 9223372036854775808) (w : World) :
    Calls Try.prog 43 #[.bool true, .agg #[.int .u64 (hiW m), .int .u64 (loW m)]] w fun e w' =>
      e = .returned (.tuple #[.agg #[.int .i64 (hiW (wrap128 (-m))), .int .u64 (loW (wrap128 (-m)))], .bool (decide (WIn (-m)))]) ∧ Below w.heap.size w w' := by
  obtain ⟨a1, a2⟩ := hi_mbd hm; obtain ⟨c1, c2⟩ := lo_bd m
  have HJ := hide (join_neg hm)
  have e1 := xor_maxU' _ c1 c2
  have e2 := xor_maxU' _ a1 a2
  have n1 := notU_bd a1 a2
  go_enter Try.func43, Try.ntmps43
  go_wp2_with fail
  refine wp_region_seq (SB (w.heap.size + 2) [w.heap.size + 1] _) [true, true, true, true, true, true, true, true, true] (by kernel_rfl) (by kernel_rfl) rfl (by kernel_rfl) (fun _ _ d _ _ h => by cases d <;> exact h) SB.refl.drew (fun hHeld => ?_)
  refine seq_take ?_ (by rfl) (fun wx hSx => ?_) ?_
  rotate_left
  · (unfold SB at hSx; go_simp; (try with_reducible rfl))
  (try simp only [Act.put, List.setIfInBounds_toArray, List.set_cons_zero, List.set_cons_succ])
  refine seq_take ?_ (by rfl) (fun wx hSx => ?_) ?_
  rotate_left
  · (unfold SB at hSx; go_simp; (try with_reducible rfl))
  (try simp only [Act.put, List.setIfInBounds_toArray, List.set_cons_zero, List.set_cons_succ])
  refine seq_take ?_ (by rfl) (fun wx hSx => ?_) ?_
  rotate_left
  · (unfold SB at hSx; go_simp; (try with_reducible rfl))
  (try simp only [Act.put, List.setIfInBounds_toArray, List.set_cons_zero, List.set_cons_succ])
  refine seq_take ?_ (by rfl) (fun wx hSx => ?_) ?_
  rotate_left
  · (unfold SB at hSx; go_simp; (try with_reducible rfl))
  (try simp only [Act.put, List.setIfInBounds_toArray, List.set_cons_zero, List.set_cons_succ])
  refine seq_take ?_ (by rfl) (fun wx hSx => ?_) ?_
  rotate_left
  · (unfold SB at hSx; go_simp; (try with_reducible rfl))
  (try simp only [Act.put, List.setIfInBounds_toArray, List.set_cons_zero, List.set_cons_succ])
  refine seq_take ?_ (by rfl) (fun wx hSx => ?_) ?_
  rotate_left
  · (unfold SB at hSx; go_simp; (try with_reducible rfl))
  (try simp only [Act.put, List.setIfInBounds_toArray, List.set_cons_zero, List.set_cons_succ])
  refine seq_take ?_ (by rfl) (fun wx hSx => ?_) ?_
  rotate_left
  · (unfold SB at hSx; go_simp; (try with_reducible rfl))
  (try simp only [Act.put, List.setIfInBounds_toArray, List.set_cons_zero, List.set_cons_succ])
  refine seq_take ?_ (by rfl) (fun wx hSx => ?_) ?_
  rotate_left
  · (unfold SB at hSx; go_simp; (try with_reducible rfl))
  (try simp only [Act.put, List.setIfInBounds_toArray, List.set_cons_zero, List.set_cons_succ])
  refine seq_take ?_ (by rfl) (fun wx hSx => ?_) ?_
  rotate_left
  · (unfold SB at hSx; go_simp; (try with_reducible rfl))
  (try simp only [Act.put, List.setIfInBounds_toArray, List.set_cons_zero, List.set_cons_succ])
  refine seq_end ?_
  go_wp2_with fail
  refine wp_region_seq (SB (w.heap.size + 2) [w.heap.size + 1] _) [true, true, true, true, true, true, true, true, true, true, true, true, true, true, true, true, true, false, true] (by kernel_rfl) (by kernel_rfl) rfl (by kernel_rfl) (fun _ _ d _ _ h => by cases d <;> exact h) SB.refl.drew (fun hHeld => ?_)
  refine seq_take ?_ (by rfl) (fun wx hSx => ?_) ?_
  rotate_left
  · (unfold SB at hSx; go_simp; (try with_reducible rfl))
  (try simp only [Act.put, List.setIfInBounds_toArray, List.set_cons_zero, List.set_cons_succ])
  refine seq_take ?_ (by rfl) (fun wx hSx => ?_) ?_
  rotate_left
  · (unfold SB at hSx; go_simp; (try with_reducible rfl))
  (try simp only [Act.put, List.setIfInBounds_toArray, List.set_cons_zero, List.set_cons_succ])
  refine seq_take ?_ (by rfl) (fun wx hSx => ?_) ?_
  rotate_left
  · (unfold SB at hSx; go_simp; (try with_reducible rfl))
  (try simp only [Act.put, List.setIfInBounds_toArray, List.set_cons_zero, List.set_cons_succ])
  refine seq_take ?_ (by rfl) (fun wx hSx => ?_) ?_
  rotate_left
  · (unfold SB at hSx; go_simp; (try with_reducible rfl))
  (try simp only [Act.put, List.setIfInBounds_toArray, List.set_cons_zero, List.set_cons_succ])
  refine seq_take ?_ (by rfl) (fun wx hSx => ?_) ?_
  rotate_left
  · (unfold SB at hSx; go_simp; (try with_reducible rfl))
  (try simp only [Act.put, List.setIfInBounds_toArray, List.set_cons_zero, List.set_cons_succ])
  refine seq_take ?_ (by rfl) (fun wx hSx => ?_) ?_
  rotate_left
  · (unfold SB at hSx; go_simp; (try with_reducible rfl))
  (try simp only [Act.put, List.setIfInBounds_toArray, List.set_cons_zero, List.set_cons_succ])
  refine seq_take ?_ (by rfl) (fun wx hSx => ?_) ?_
  rotate_left
  · (unfold SB at hSx; go_simp; (try with_reducible rfl))
  (try simp only [Act.put, List.setIfInBounds_toArray, List.set_cons_zero, List.set_cons_succ])
  refine seq_take ?_ (by rfl) (fun wx hSx => ?_) ?_
  rotate_left
  · (unfold SB at hSx; go_simp; (try with_reducible rfl))
  (try simp only [Act.put, List.setIfInBounds_toArray, List.set_cons_zero, List.set_cons_succ])
  refine seq_skip (by rfl) ?_
  (try simp only [Act.put, List.setIfInBounds_toArray, List.set_cons_zero, List.set_cons_succ])
  refine seq_skip (by rfl) ?_
  (try simp only [Act.put, List.setIfInBounds_toArray, List.set_cons_zero, List.set_cons_succ])
  refine seq_skip (by rfl) ?_
  (try simp only [Act.put, List.setIfInBounds_toArray, List.set_cons_zero, List.set_cons_succ])
  refine seq_skip (by rfl) ?_
  (try simp only [Act.put, List.setIfInBounds_toArray, List.set_cons_zero, List.set_cons_succ])
  refine seq_skip (by rfl) ?_
  (try simp only [Act.put, List.setIfInBounds_toArray, List.set_cons_zero, List.set_cons_succ])
  refine seq_skip (by rfl) ?_
  (try simp only [Act.put, List.setIfInBounds_toArray, List.set_cons_zero, List.set_cons_succ])
  refine seq_skip (by rfl) ?_
  (try simp only [Act.put, List.setIfInBounds_toArray, List.set_cons_zero, List.set_cons_succ])
  refine seq_skip (by rfl) ?_
  (try simp only [Act.put, List.setIfInBounds_toArray, List.set_cons_zero, List.set_cons_succ])
  refine seq_take ?_ (by rfl) (fun wx hSx => ?_) ?_
  rotate_left
  · (unfold SB at hSx; go_simp; (try with_reducible rfl))
  (try simp only [Act.put, List.setIfInBounds_toArray, List.set_cons_zero, List.set_cons_succ])
  refine seq_run (by rfl) (fun K hK => ?_)
  go_simp
  refine hK.out _ _ ?_ (fun hHeld => ?_)
  · (repeat (first | (with_reducible exact SB.refl) | (with_reducible exact hHeld) | (with_reducible refine SB.drew ?_) | (with_reducible refine SB.drewN ?_ _) | ((with_reducible refine SB.alloc ?_ ?_ _); (rotate_left); (first | omega | (simp <;> omega))) | ((with_reducible refine SB.setCell ?_ ?_ _); (rotate_left); (focus (simp; done))) | ((with_reducible refine SB.below ?_ hbS ?_); (rotate_left); (first | omega | (simp <;> omega))) | (with_reducible refine SB.undrew ?_) | ((with_reducible refine SB.congr ?_ ?_); (rotate_left); (focus (simp; done))) | ((with_reducible refine SB.realloc ?_ ?_ ?_); (rotate_left); (focus (simp; done)); (focus (simp; done)))))
  clear hK K
  (try simp only [Act.put, List.setIfInBounds_toArray, List.set_cons_zero, List.set_cons_succ])
  refine seq_take ?_ (by rfl) (fun wx hSx => ?_) ?_
  rotate_left
  · (unfold SB at hSx; go_simp; (try with_reducible rfl))
  (try simp only [Act.put, List.setIfInBounds_toArray, List.set_cons_zero, List.set_cons_succ])
  refine seq_end ?_
  go_wp2_with fail
  refine bodyPost_ret (by simp [results, Try.results43, go_sem, *] <;> rfl) rfl ⟨?_, ?_⟩
  · have hh := HJ.out.2.1 (by simpa using hl)
    simp only [i64w]
    rw [hh.1, hh.2.1, decide_eq_true (HJ.out.2.2.1 (by omega))]
  (repeat (first | (with_reducible exact Below.refl _ _) | (with_reducible assumption) | ((with_reducible refine Below.alloc ?_ ?_ _); (rotate_left); (first | omega | (simp <;> omega))) | ((with_reducible refine Below.setCell ?_ ?_ _); (rotate_left); (first | omega | (simp <;> omega))) | (with_reducible refine Below.drew ?_) | (with_reducible refine below_drewN ?_ _)))
set_option maxHeartbeats 400000 in
theorem rjoinB1 (m : Int) (hm : MIn m) (hl : (IntKind.u64.wrap (notU (loW m) + 1) == 0) = false) (ht : 9223372036854775808 ≤ hiW m) (ht1 : hiW m ≤ 9223372036854775808) (w : World) :
    Calls Try.prog 43 #[.bool true, .agg #[.int .u64 (hiW m), .int .u64 (loW m)]] w fun e w' =>
      e = .returned (.tuple #[.agg #[.int .i64 (hiW (wrap128 (-m))), .int .u64 (loW (wrap128 (-m)))], .bool (decide (WIn (-m)))]) ∧ Below w.heap.size w w' := by
  obtain ⟨a1, a2⟩ := hi_mbd hm; obtain ⟨c1, c2⟩ := lo_bd m
  have HJ := hide (join_neg hm)
  have e1 := xor_maxU' _ c1 c2
  have e2 := xor_maxU' _ a1 a2
  have n1 := notU_bd a1 a2
  have hd : decide (hiW m < 9223372036854775808) = false := decide_eq_false (by omega)
  have he : (hiW m == 9223372036854775808) = true := beq_iff_eq.2 (by omega)
  have hq : (loW m == 0) = false := beq_eq_false_iff_ne.2 (HJ.out.2.1 (by simpa using hl)).2.2
  go_enter Try.func43, Try.ntmps43
  go_wp2_with fail
  refine wp_region_seq (SB (w.heap.size + 2) [w.heap.size + 1] _) [true, true, true, true, true, true, true, true, true] (by kernel_rfl) (by kernel_rfl) rfl (by kernel_rfl) (fun _ _ d _ _ h => by cases d <;> exact h) SB.refl.drew (fun hHeld => ?_)
  refine seq_take ?_ (by rfl) (fun wx hSx => ?_) ?_
  rotate_left
  · (unfold SB at hSx; go_simp; (try with_reducible rfl))
  (try simp only [Act.put, List.setIfInBounds_toArray, List.set_cons_zero, List.set_cons_succ])
  refine seq_take ?_ (by rfl) (fun wx hSx => ?_) ?_
  rotate_left
  · (unfold SB at hSx; go_simp; (try with_reducible rfl))
  (try simp only [Act.put, List.setIfInBounds_toArray, List.set_cons_zero, List.set_cons_succ])
  refine seq_take ?_ (by rfl) (fun wx hSx => ?_) ?_
  rotate_left
  · (unfold SB at hSx; go_simp; (try with_reducible rfl))
  (try simp only [Act.put, List.setIfInBounds_toArray, List.set_cons_zero, List.set_cons_succ])
  refine seq_take ?_ (by rfl) (fun wx hSx => ?_) ?_
  rotate_left
  · (unfold SB at hSx; go_simp; (try with_reducible rfl))
  (try simp only [Act.put, List.setIfInBounds_toArray, List.set_cons_zero, List.set_cons_succ])
  refine seq_take ?_ (by rfl) (fun wx hSx => ?_) ?_
  rotate_left
  · (unfold SB at hSx; go_simp; (try with_reducible rfl))
  (try simp only [Act.put, List.setIfInBounds_toArray, List.set_cons_zero, List.set_cons_succ])
  refine seq_take ?_ (by rfl) (fun wx hSx => ?_) ?_
  rotate_left
  · (unfold SB at hSx; go_simp; (try with_reducible rfl))
  (try simp only [Act.put, List.setIfInBounds_toArray, List.set_cons_zero, List.set_cons_succ])
  refine seq_take ?_ (by rfl) (fun wx hSx => ?_) ?_
  rotate_left
  · (unfold SB at hSx; go_simp; (try with_reducible rfl))
  (try simp only [Act.put, List.setIfInBounds_toArray, List.set_cons_zero, List.set_cons_succ])
  refine seq_take ?_ (by rfl) (fun wx hSx => ?_) ?_
  rotate_left
  · (unfold SB at hSx; go_simp; (try with_reducible rfl))
  (try simp only [Act.put, List.setIfInBounds_toArray, List.set_cons_zero, List.set_cons_succ])
  refine seq_take ?_ (by rfl) (fun wx hSx => ?_) ?_
  rotate_left
  · (unfold SB at hSx; go_simp; (try with_reducible rfl))
  (try simp only [Act.put, List.setIfInBounds_toArray, List.set_cons_zero, List.set_cons_succ])
  refine seq_end ?_
  go_wp2_with fail
  refine wp_region_seq (SB (w.heap.size + 2) [w.heap.size + 1] _) [true, true, true, true, true, true, true, true, true, true, true, true, true, true, true, true, true, false, true] (by kernel_rfl) (by kernel_rfl) rfl (by kernel_rfl) (fun _ _ d _ _ h => by cases d <;> exact h) SB.refl.drew (fun hHeld => ?_)
  refine seq_take ?_ (by rfl) (fun wx hSx => ?_) ?_
  rotate_left
  · (unfold SB at hSx; go_simp; (try with_reducible rfl))
  (try simp only [Act.put, List.setIfInBounds_toArray, List.set_cons_zero, List.set_cons_succ])
  refine seq_take ?_ (by rfl) (fun wx hSx => ?_) ?_
  rotate_left
  · (unfold SB at hSx; go_simp; (try with_reducible rfl))
  (try simp only [Act.put, List.setIfInBounds_toArray, List.set_cons_zero, List.set_cons_succ])
  refine seq_take ?_ (by rfl) (fun wx hSx => ?_) ?_
  rotate_left
  · (unfold SB at hSx; go_simp; (try with_reducible rfl))
  (try simp only [Act.put, List.setIfInBounds_toArray, List.set_cons_zero, List.set_cons_succ])
  refine seq_take ?_ (by rfl) (fun wx hSx => ?_) ?_
  rotate_left
  · (unfold SB at hSx; go_simp; (try with_reducible rfl))
  (try simp only [Act.put, List.setIfInBounds_toArray, List.set_cons_zero, List.set_cons_succ])
  refine seq_take ?_ (by rfl) (fun wx hSx => ?_) ?_
  rotate_left
  · (unfold SB at hSx; go_simp; (try with_reducible rfl))
  (try simp only [Act.put, List.setIfInBounds_toArray, List.set_cons_zero, List.set_cons_succ])
  refine seq_take ?_ (by rfl) (fun wx hSx => ?_) ?_
  rotate_left
  · (unfold SB at hSx; go_simp; (try with_reducible rfl))
  (try simp only [Act.put, List.setIfInBounds_toArray, List.set_cons_zero, List.set_cons_succ])
  refine seq_take ?_ (by rfl) (fun wx hSx => ?_) ?_
  rotate_left
  · (unfold SB at hSx; go_simp; (try with_reducible rfl))
  (try simp only [Act.put, List.setIfInBounds_toArray, List.set_cons_zero, List.set_cons_succ])
  refine seq_take ?_ (by rfl) (fun wx hSx => ?_) ?_
  rotate_left
  · (unfold SB at hSx; go_simp; (try with_reducible rfl))
  (try simp only [Act.put, List.setIfInBounds_toArray, List.set_cons_zero, List.set_cons_succ])
  refine seq_take ?_ (by rfl) (fun wx hSx => ?_) ?_
  rotate_left
  · (unfold SB at hSx; go_simp; (try with_reducible rfl))
  (try simp only [Act.put, List.setIfInBounds_toArray, List.set_cons_zero, List.set_cons_succ])
  refine seq_take ?_ (by rfl) (fun wx hSx => ?_) ?_
  rotate_left
  · (unfold SB at hSx; go_simp; (try with_reducible rfl))
  (try simp only [Act.put, List.setIfInBounds_toArray, List.set_cons_zero, List.set_cons_succ])
  refine seq_take ?_ (by rfl) (fun wx hSx => ?_) ?_
  rotate_left
  · (unfold SB at hSx; go_simp; (try with_reducible rfl))
  (try simp only [Act.put, List.setIfInBounds_toArray, List.set_cons_zero, List.set_cons_succ])
  refine seq_take ?_ (by rfl) (fun wx hSx => ?_) ?_
  rotate_left
  · (unfold SB at hSx; go_simp; (try with_reducible rfl))
  (try simp only [Act.put, List.setIfInBounds_toArray, List.set_cons_zero, List.set_cons_succ])
  refine seq_take ?_ (by rfl) (fun wx hSx => ?_) ?_
  rotate_left
  · (unfold SB at hSx; go_simp; (try with_reducible rfl))
  (try simp only [Act.put, List.setIfInBounds_toArray, List.set_cons_zero, List.set_cons_succ])
  refine seq_take ?_ (by rfl) (fun wx hSx => ?_) ?_
  rotate_left
  · (unfold SB at hSx; go_simp; (try with_reducible rfl))
  (try simp only [Act.put, List.setIfInBounds_toArray, List.set_cons_zero, List.set_cons_succ])
  refine seq_take ?_ (by rfl) (fun wx hSx => ?_) ?_
  rotate_left
  · (unfold SB at hSx; go_simp; (try with_reducible rfl))
  (try simp only [Act.put, List.setIfInBounds_toArray, List.set_cons_zero, List.set_cons_succ])
  refine seq_take ?_ (by rfl) (fun wx hSx => ?_) ?_
  rotate_left
  · (unfold SB at hSx; go_simp; (try with_reducible rfl))
  (try simp only [Act.put, List.setIfInBounds_toArray, List.set_cons_zero, List.set_cons_succ])
  refine seq_take ?_ (by rfl) (fun wx hSx => ?_) ?_
  rotate_left
  · (unfold SB at hSx; go_simp; (try with_reducible rfl))
  (try simp only [Act.put, List.setIfInBounds_toArray, List.set_cons_zero, List.set_cons_succ])
  refine seq_run (by rfl) (fun K hK => ?_)
  go_simp
  refine hK.out _ _ ?_ (fun hHeld => ?_)
  · (repeat (first | (with_reducible exact SB.refl) | (with_reducible exact hHeld) | (with_reducible refine SB.drew ?_) | (with_reducible refine SB.drewN ?_ _) | ((with_reducible refine SB.alloc ?_ ?_ _); (rotate_left); (first | omega | (simp <;> omega))) | ((with_reducible refine SB.setCell ?_ ?_ _); (rotate_left); (focus (simp; done))) | ((with_reducible refine SB.below ?_ hbS ?_); (rotate_left); (first | omega | (simp <;> omega))) | (with_reducible refine SB.undrew ?_) | ((with_reducible refine SB.congr ?_ ?_); (rotate_left); (focus (simp; done))) | ((with_reducible refine SB.realloc ?_ ?_ ?_); (rotate_left); (focus (simp; done)); (focus (simp; done)))))
  clear hK K
  (try simp only [Act.put, List.setIfInBounds_toArray, List.set_cons_zero, List.set_cons_succ])
  refine seq_take ?_ (by rfl) (fun wx hSx => ?_) ?_
  rotate_left
  · (unfold SB at hSx; go_simp; (try with_reducible rfl))
  (try simp only [Act.put, List.setIfInBounds_toArray, List.set_cons_zero, List.set_cons_succ])
  refine seq_end ?_
  go_wp2_with fail
  refine bodyPost_ret (by simp [results, Try.results43, go_sem, *] <;> rfl) rfl ⟨?_, ?_⟩
  · have hh := HJ.out.2.1 (by simpa using hl)
    simp only [i64w]
    rw [hh.1, hh.2.1, decide_eq_false (fun hw => by have := HJ.out.2.2.2 hw; have := hh.2.2; omega)]
  (repeat (first | (with_reducible exact Below.refl _ _) | (with_reducible assumption) | ((with_reducible refine Below.alloc ?_ ?_ _); (rotate_left); (first | omega | (simp <;> omega))) | ((with_reducible refine Below.setCell ?_ ?_ _); (rotate_left); (first | omega | (simp <;> omega))) | (with_reducible refine Below.drew ?_) | (with_reducible refine below_drewN ?_ _)))
set_option maxHeartbeats 400000 in
theorem rjoinC1 (m : Int) (hm : MIn m) (hl : (IntKind.u64.wrap (notU (loW m) + 1) == 0) = false) (ht : 9223372036854775808 < hiW m) (w : World) :
    Calls Try.prog 43 #[.bool true, .agg #[.int .u64 (hiW m), .int .u64 (loW m)]] w fun e w' =>
      e = .returned (.tuple #[.agg #[.int .i64 (hiW (wrap128 (-m))), .int .u64 (loW (wrap128 (-m)))], .bool (decide (WIn (-m)))]) ∧ Below w.heap.size w w' := by
  obtain ⟨a1, a2⟩ := hi_mbd hm; obtain ⟨c1, c2⟩ := lo_bd m
  have HJ := hide (join_neg hm)
  have e1 := xor_maxU' _ c1 c2
  have e2 := xor_maxU' _ a1 a2
  have n1 := notU_bd a1 a2
  have hd : decide (hiW m < 9223372036854775808) = false := decide_eq_false (by omega)
  have he : (hiW m == 9223372036854775808) = false := beq_eq_false_iff_ne.2 (by omega)
  go_enter Try.func43, Try.ntmps43
  go_wp2_with fail
  refine wp_region_seq (SB (w.heap.size + 2) [w.heap.size + 1] _) [true, true, true, true, true, true, true, true, true] (by kernel_rfl) (by kernel_rfl) rfl (by kernel_rfl) (fun _ _ d _ _ h => by cases d <;> exact h) SB.refl.drew (fun hHeld => ?_)
  refine seq_take ?_ (by rfl) (fun wx hSx => ?_) ?_
  rotate_left
  · (unfold SB at hSx; go_simp; (try with_reducible rfl))
  (try simp only [Act.put, List.setIfInBounds_toArray, List.set_cons_zero, List.set_cons_succ])
  refine seq_take ?_ (by rfl) (fun wx hSx => ?_) ?_
  rotate_left
  · (unfold SB at hSx; go_simp; (try with_reducible rfl))
  (try simp only [Act.put, List.setIfInBounds_toArray, List.set_cons_zero, List.set_cons_succ])
  refine seq_take ?_ (by rfl) (fun wx hSx => ?_) ?_
  rotate_left
  · (unfold SB at hSx; go_simp; (try with_reducible rfl))
  (try simp only [Act.put, List.setIfInBounds_toArray, List.set_cons_zero, List.set_cons_succ])
  refine seq_take ?_ (by rfl) (fun wx hSx => ?_) ?_
  rotate_left
  · (unfold SB at hSx; go_simp; (try with_reducible rfl))
  (try simp only [Act.put, List.setIfInBounds_toArray, List.set_cons_zero, List.set_cons_succ])
  refine seq_take ?_ (by rfl) (fun wx hSx => ?_) ?_
  rotate_left
  · (unfold SB at hSx; go_simp; (try with_reducible rfl))
  (try simp only [Act.put, List.setIfInBounds_toArray, List.set_cons_zero, List.set_cons_succ])
  refine seq_take ?_ (by rfl) (fun wx hSx => ?_) ?_
  rotate_left
  · (unfold SB at hSx; go_simp; (try with_reducible rfl))
  (try simp only [Act.put, List.setIfInBounds_toArray, List.set_cons_zero, List.set_cons_succ])
  refine seq_take ?_ (by rfl) (fun wx hSx => ?_) ?_
  rotate_left
  · (unfold SB at hSx; go_simp; (try with_reducible rfl))
  (try simp only [Act.put, List.setIfInBounds_toArray, List.set_cons_zero, List.set_cons_succ])
  refine seq_take ?_ (by rfl) (fun wx hSx => ?_) ?_
  rotate_left
  · (unfold SB at hSx; go_simp; (try with_reducible rfl))
  (try simp only [Act.put, List.setIfInBounds_toArray, List.set_cons_zero, List.set_cons_succ])
  refine seq_take ?_ (by rfl) (fun wx hSx => ?_) ?_
  rotate_left
  · (unfold SB at hSx; go_simp; (try with_reducible rfl))
  (try simp only [Act.put, List.setIfInBounds_toArray, List.set_cons_zero, List.set_cons_succ])
  refine seq_end ?_
  go_wp2_with fail
  refine wp_region_seq (SB (w.heap.size + 2) [w.heap.size + 1] _) [true, true, true, true, true, true, true, true, true, true, true, true, true, true, true, true, true, false, true] (by kernel_rfl) (by kernel_rfl) rfl (by kernel_rfl) (fun _ _ d _ _ h => by cases d <;> exact h) SB.refl.drew (fun hHeld => ?_)
  refine seq_take ?_ (by rfl) (fun wx hSx => ?_) ?_
  rotate_left
  · (unfold SB at hSx; go_simp; (try with_reducible rfl))
  (try simp only [Act.put, List.setIfInBounds_toArray, List.set_cons_zero, List.set_cons_succ])
  refine seq_take ?_ (by rfl) (fun wx hSx => ?_) ?_
  rotate_left
  · (unfold SB at hSx; go_simp; (try with_reducible rfl))
  (try simp only [Act.put, List.setIfInBounds_toArray, List.set_cons_zero, List.set_cons_succ])
  refine seq_take ?_ (by rfl) (fun wx hSx => ?_) ?_
  rotate_left
  · (unfold SB at hSx; go_simp; (try with_reducible rfl))
  (try simp only [Act.put, List.setIfInBounds_toArray, List.set_cons_zero, List.set_cons_succ])
  refine seq_take ?_ (by rfl) (fun wx hSx => ?_) ?_
  rotate_left
  · (unfold SB at hSx; go_simp; (try with_reducible rfl))
  (try simp only [Act.put, List.setIfInBounds_toArray, List.set_cons_zero, List.set_cons_succ])
  refine seq_take ?_ (by rfl) (fun wx hSx => ?_) ?_
  rotate_left
  · (unfold SB at hSx; go_simp; (try with_reducible rfl))
  (try simp only [Act.put, List.setIfInBounds_toArray, List.set_cons_zero, List.set_cons_succ])
  refine seq_take ?_ (by rfl) (fun wx hSx => ?_) ?_
  rotate_left
  · (unfold SB at hSx; go_simp; (try with_reducible rfl))
  (try simp only [Act.put, List.setIfInBounds_toArray, List.set_cons_zero, List.set_cons_succ])
  refine seq_take ?_ (by rfl) (fun wx hSx => ?_) ?_
  rotate_left
  · (unfold SB at hSx; go_simp; (try with_reducible rfl))
  (try simp only [Act.put, List.setIfInBounds_toArray, List.set_cons_zero, List.set_cons_succ])
  refine seq_take ?_ (by rfl) (fun wx hSx => ?_) ?_
  rotate_left
  · (unfold SB at hSx; go_simp; (try with_reducible rfl))
  (try simp only [Act.put, List.setIfInBounds_toArray, List.set_cons_zero, List.set_cons_succ])
  refine seq_take ?_ (by rfl) (fun wx hSx => ?_) ?_
  rotate_left
  · (unfold SB at hSx; go_simp; (try with_reducible rfl))
  (try simp only [Act.put, List.setIfInBounds_toArray, List.set_cons_zero, List.set_cons_succ])
  refine seq_take ?_ (by rfl) (fun wx hSx => ?_) ?_
  rotate_left
  · (unfold SB at hSx; go_simp; (try with_reducible rfl))
  (try simp only [Act.put, List.setIfInBounds_toArray, List.set_cons_zero, List.set_cons_succ])
  refine seq_take ?_ (by rfl) (fun wx hSx => ?_) ?_
  rotate_left
  · (unfold SB at hSx; go_simp; (try with_reducible rfl))
  (try simp only [Act.put, List.setIfInBounds_toArray, List.set_cons_zero, List.set_cons_succ])
  refine seq_take ?_ (by rfl) (fun wx hSx => ?_) ?_
  rotate_left
  · (unfold SB at hSx; go_simp; (try with_reducible rfl))
  (try simp only [Act.put, List.setIfInBounds_toArray, List.set_cons_zero, List.set_cons_succ])
  refine seq_skip (by rfl) ?_
  (try simp only [Act.put, List.setIfInBounds_toArray, List.set_cons_zero, List.set_cons_succ])
  refine seq_skip (by rfl) ?_
  (try simp only [Act.put, List.setIfInBounds_toArray, List.set_cons_zero, List.set_cons_succ])
  refine seq_skip (by rfl) ?_
  (try simp only [Act.put, List.setIfInBounds_toArray, List.set_cons_zero, List.set_cons_succ])
  refine seq_take ?_ (by rfl) (fun wx hSx => ?_) ?_
  rotate_left
  · (unfold SB at hSx; go_simp; (try with_reducible rfl))
  (try simp only [Act.put, List.setIfInBounds_toArray, List.set_cons_zero, List.set_cons_succ])
  refine seq_take ?_ (by rfl) (fun wx hSx => ?_) ?_
  rotate_left
  · (unfold SB at hSx; go_simp; (try with_reducible rfl))
  (try simp only [Act.put, List.setIfInBounds_toArray, List.set_cons_zero, List.set_cons_succ])
  refine seq_run (by rfl) (fun K hK => ?_)
  go_simp
  refine hK.out _ _ ?_ (fun hHeld => ?_)
  · (repeat (first | (with_reducible exact SB.refl) | (with_reducible exact hHeld) | (with_reducible refine SB.drew ?_) | (with_reducible refine SB.drewN ?_ _) | ((with_reducible refine SB.alloc ?_ ?_ _); (rotate_left); (first | omega | (simp <;> omega))) | ((with_reducible refine SB.setCell ?_ ?_ _); (rotate_left); (focus (simp; done))) | ((with_reducible refine SB.below ?_ hbS ?_); (rotate_left); (first | omega | (simp <;> omega))) | (with_reducible refine SB.undrew ?_) | ((with_reducible refine SB.congr ?_ ?_); (rotate_left); (focus (simp; done))) | ((with_reducible refine SB.realloc ?_ ?_ ?_); (rotate_left); (focus (simp; done)); (focus (simp; done)))))
  clear hK K
  (try simp only [Act.put, List.setIfInBounds_toArray, List.set_cons_zero, List.set_cons_succ])
  refine seq_take ?_ (by rfl) (fun wx hSx => ?_) ?_
  rotate_left
  · (unfold SB at hSx; go_simp; (try with_reducible rfl))
  (try simp only [Act.put, List.setIfInBounds_toArray, List.set_cons_zero, List.set_cons_succ])
  refine seq_end ?_
  go_wp2_with fail
  refine bodyPost_ret (by simp [results, Try.results43, go_sem, *] <;> rfl) rfl ⟨?_, ?_⟩
  · have hh := HJ.out.2.1 (by simpa using hl)
    simp only [i64w]
    rw [hh.1, hh.2.1, decide_eq_false (fun hw => by have := HJ.out.2.2.2 hw; have := hh.2.2; omega)]
  (repeat (first | (with_reducible exact Below.refl _ _) | (with_reducible assumption) | ((with_reducible refine Below.alloc ?_ ?_ _); (rotate_left); (first | omega | (simp <;> omega))) | ((with_reducible refine Below.setCell ?_ ?_ _); (rotate_left); (first | omega | (simp <;> omega))) | (with_reducible refine Below.drew ?_) | (with_reducible refine below_drewN ?_ _)))
/-- The number with a sign and a magnitude, and whether there is one. -/
theorem rjoin_any (neg : Bool) (m : Int) (hm : MIn m) (w : World) :
    Calls Try.prog 43 #[.bool neg, .agg #[.int .u64 (hiW m), .int .u64 (loW m)]] w fun e w' =>
      e = .returned (.tuple #[.agg #[.int .i64 (hiW (wrap128 (sgn neg m))), .int .u64 (loW (wrap128 (sgn neg m)))], .bool (decide (WIn (sgn neg m)))]) ∧ Below w.heap.size w w' := by
  cases neg
  · exact rjoin_pos m hm w
  · cases hl : (IntKind.u64.wrap (notU (loW m) + 1) == 0)
    · by_cases h1 : hiW m < 9223372036854775808
      · exact rjoinA1 m hm hl h1 w
      · by_cases h2 : hiW m ≤ 9223372036854775808
        · exact rjoinB1 m hm hl (by omega) h2 w
        · exact rjoinC1 m hm hl (by omega) w
    · by_cases h1 : hiW m < 9223372036854775808
      · exact rjoinA0 m hm hl h1 w
      · by_cases h2 : hiW m ≤ 9223372036854775808
        · exact rjoinB0 m hm hl (by omega) h2 w
        · exact rjoinC0 m hm hl (by omega) w
theorem rof_any (n : Int) (h1 : -9223372036854775808 ≤ n) (h2 : n ≤ 9223372036854775807) (w : World) :
    Calls Try.prog 25 #[.int .i64 n] w fun e w' => e = .returned (.agg #[.int .i64 (hiW n), .int .u64 (loW n)]) ∧ Below w.heap.size w w' := by
  have HO := hide (of_parts h1 h2)
  by_cases h : n < 0
  · rw [(HO.out.1 h).1, (HO.out.1 h).2]
    go_enter Try.func25, Try.ntmps25
    go_wp2_with fail
    refine bodyPost_ret (by simp [results, Try.results25, go_sem, *] <;> rfl) rfl ⟨?_, ?_⟩
    · rfl
    (repeat (first | (with_reducible exact Below.refl _ _) | (with_reducible assumption) | ((with_reducible refine Below.alloc ?_ ?_ _); (rotate_left); (first | omega | (simp <;> omega))) | ((with_reducible refine Below.setCell ?_ ?_ _); (rotate_left); (first | omega | (simp <;> omega))) | (with_reducible refine Below.drew ?_) | (with_reducible refine below_drewN ?_ _)))
  · have h := Int.not_lt.1 h
    rw [(HO.out.2 h).1, (HO.out.2 h).2]
    go_enter Try.func25, Try.ntmps25
    go_wp2_with fail
    refine bodyPost_ret (by simp [results, Try.results25, go_sem, *] <;> rfl) rfl ⟨?_, ?_⟩
    · rfl
    (repeat (first | (with_reducible exact Below.refl _ _) | (with_reducible assumption) | ((with_reducible refine Below.alloc ?_ ?_ _); (rotate_left); (first | omega | (simp <;> omega))) | ((with_reducible refine Below.setCell ?_ ?_ _); (rotate_left); (first | omega | (simp <;> omega))) | (with_reducible refine Below.drew ?_) | (with_reducible refine below_drewN ?_ _)))
theorem rsize_any (n : Int) (h1 : -9223372036854775808 ≤ n) (h2 : n ≤ 9223372036854775807) (w : World) :
    Calls Try.prog 42 #[.int .i64 n] w fun e w' => e = .returned (.int .u64 (absI n)) ∧ w = w' := by
  by_cases h : n < 0
  · have HS := hide (size_neg h1 h)
    have e1 := xor_maxU' (IntKind.u64.wrap n) (by rw [wrapU]; omega) (by rw [wrapU]; omega)
    go_enter Try.func42, Try.ntmps42
    go_wp2_with fail
    go_ret
    exact ⟨ret_int HS.out, rfl⟩
  · have h := Int.not_lt.1 h
    go_enter Try.func42, Try.ntmps42
    go_wp2_with fail
    go_ret
    exact ⟨ret_int (absI_pos h).symm, rfl⟩
end Go.Proofs.Ytjjclclianbnfaa
