/- Texts laid together: Ra Rb. -/
import Derived.Test.YtdjlaiilngechaaGreatDoorXWa
import Derived.Test.YtdjlaiilngechaaGreatDoorXNum
import Derived.Test.YtdjlaiilngechaaGreatDoorXReg
namespace Go.Proofs.YtdjlaiilngechaaGreatDoor
set_option maxRecDepth 4000
set_option linter.unusedSimpArgs false
set_option linter.unusedVariables false
open Go.RowKit
theorem ret_bool {a b : Bool} (h : a = b) : Ending.returned (.bool a) = .returned (.bool b) := by rw [h]
set_option maxHeartbeats 400000 in
theorem rsplit_any (x : Int) (hx : WIn x) (w : World) :
  Calls Tryz.prog 59 #[.agg #[.int .i64 (hiW x), .int .u64 (loW x)]] w fun e w' =>
   e = .returned (.tuple #[.bool (decide (x < 0)), .agg #[.int .u64 (hiW (absI x)), .int .u64 (loW (absI x))]]) ∧ Below w.heap.size w w' := by
 obtain ⟨a1, a2⟩ := hi_bd hx; obtain ⟨c1, c2⟩ := lo_bd x
 by_cases h : hiW x < 0
 ·have HS := hide (split_neg hx h)
  have e1 := xor_maxU' _ c1 c2
  have e2 := xor_maxU' (IntKind.u64.wrap (hiW x)) (by rw [wrapU]; omega) (by rw [wrapU]; omega)
  have HD := hide (show decide (x < 0) = true from decide_eq_true ((hi_sign x).1 h))
  rw [HD.out]
  go_enter Tryz.func59, Tryz.ntmps59
  go_wp2_with fail
  refine wp_region_seq (SB (w.heap.size + 2) [] _) [true, true, true, true, true, true, true] (by kernel_rfl) (by kernel_rfl) rfl (by kernel_rfl) (fun _ _ d _ _ h => by cases d <;> exact h) SB.refl.drew (fun hHeld => ?_)
  refine seq_take ?_ (by rfl) (fun wx hSx => ?_) ?_
  rotate_left
  ·(unfold SB at hSx; go_simp; (try with_reducible rfl))
  (try simp only [Act.put, putS])
  refine seq_take ?_ (by rfl) (fun wx hSx => ?_) ?_
  rotate_left
  ·(unfold SB at hSx; go_simp; (try with_reducible rfl))
  (try simp only [Act.put, putS])
  refine seq_take ?_ (by rfl) (fun wx hSx => ?_) ?_
  rotate_left
  ·(unfold SB at hSx; go_simp; (try with_reducible rfl))
  (try simp only [Act.put, putS])
  refine seq_take ?_ (by rfl) (fun wx hSx => ?_) ?_
  rotate_left
  ·(unfold SB at hSx; go_simp; (try with_reducible rfl))
  (try simp only [Act.put, putS])
  refine seq_take ?_ (by rfl) (fun wx hSx => ?_) ?_
  rotate_left
  ·(unfold SB at hSx; go_simp; (try with_reducible rfl))
  (try simp only [Act.put, putS])
  refine seq_take ?_ (by rfl) (fun wx hSx => ?_) ?_
  rotate_left
  ·(unfold SB at hSx; go_simp; (try with_reducible rfl))
  (try simp only [Act.put, putS])
  refine seq_take ?_ (by rfl) (fun wx hSx => ?_) ?_
  rotate_left
  ·(unfold SB at hSx; go_simp; (try with_reducible rfl))
  (try simp only [Act.put, putS])
  refine seq_end ?_
  go_wp2_with fail
  ·rename_i h1
   refine bodyPost_ret (by simp [results, Tryz.results59, go_sem, *] <;> rfl) rfl ⟨?_, ?_⟩
   ·have hh := HS.out.1 (by simpa using h1)
    rw [hh.1, hh.2]
   (repeat (first | (with_reducible first | exact Below.refl _ _ | assumption | refine Below.drew ?_) | ((with_reducible first | refine Below.alloc ?_ ?_ _ | refine Below.setCell ?_ ?_ _); rotate_left; (first | omega | (simp <;> omega)))))
  ·rename_i h1
   refine bodyPost_ret (by simp [results, Tryz.results59, go_sem, *] <;> rfl) rfl ⟨?_, ?_⟩
   ·have hh := HS.out.2 (by simpa using h1)
    rw [hh.1, hh.2]
   (repeat (first | (with_reducible first | exact Below.refl _ _ | assumption | refine Below.drew ?_) | ((with_reducible first | refine Below.alloc ?_ ?_ _ | refine Below.setCell ?_ ?_ _); rotate_left; (first | omega | (simp <;> omega)))))
 ·have h' := Int.not_lt.1 h
  clear h
  have HP := hide (abs_parts_pos hx h')
  have HD := hide (show decide (x < 0) = false from decide_eq_false (by have := hi_sign x; omega))
  rw [HD.out, HP.out]
  go_enter Tryz.func59, Tryz.ntmps59
  go_wp2_with fail
  refine wp_region_seq (SB (w.heap.size + 2) [] _) [true, true, true, true, true, true, true] (by kernel_rfl) (by kernel_rfl) rfl (by kernel_rfl) (fun _ _ d _ _ h => by cases d <;> exact h) SB.refl.drew (fun hHeld => ?_)
  refine seq_take ?_ (by rfl) (fun wx hSx => ?_) ?_
  rotate_left
  ·(unfold SB at hSx; go_simp; (try with_reducible rfl))
  (try simp only [Act.put, putS])
  refine seq_take ?_ (by rfl) (fun wx hSx => ?_) ?_
  rotate_left
  ·(unfold SB at hSx; go_simp; (try with_reducible rfl))
  (try simp only [Act.put, putS])
  refine seq_take ?_ (by rfl) (fun wx hSx => ?_) ?_
  rotate_left
  ·(unfold SB at hSx; go_simp; (try with_reducible rfl))
  (try simp only [Act.put, putS])
  refine seq_take ?_ (by rfl) (fun wx hSx => ?_) ?_
  rotate_left
  ·(unfold SB at hSx; go_simp; (try with_reducible rfl))
  (try simp only [Act.put, putS])
  refine seq_take ?_ (by rfl) (fun wx hSx => ?_) ?_
  rotate_left
  ·(unfold SB at hSx; go_simp; (try with_reducible rfl))
  (try simp only [Act.put, putS])
  refine seq_take ?_ (by rfl) (fun wx hSx => ?_) ?_
  rotate_left
  ·(unfold SB at hSx; go_simp; (try with_reducible rfl))
  (try simp only [Act.put, putS])
  refine seq_take ?_ (by rfl) (fun wx hSx => ?_) ?_
  rotate_left
  ·(unfold SB at hSx; go_simp; (try with_reducible rfl))
  (try simp only [Act.put, putS])
  refine seq_end ?_
  go_wp2_with fail
  refine bodyPost_ret (v := .tuple #[.bool false, .agg #[.int .u64 (hiW x), .int .u64 (loW x)]]) (by simp [results, Tryz.results59, go_sem, *]) rfl ⟨rfl, ?_⟩
  (repeat (first | (with_reducible first | exact Below.refl _ _ | assumption | refine Below.drew ?_) | ((with_reducible first | refine Below.alloc ?_ ?_ _ | refine Below.setCell ?_ ?_ _); rotate_left; (first | omega | (simp <;> omega)))))
set_option maxHeartbeats 400000 in
theorem rplus_any (a b : Int) (ha : MIn a) (hb0 : MIn b) (w : World) :
  Calls Tryz.prog 96 #[.agg #[.int .u64 (hiW a), .int .u64 (loW a)], .agg #[.int .u64 (hiW b), .int .u64 (loW b)]] w fun e w' =>
   e = .returned (.tuple #[.agg #[.int .u64 (hiW (mod128 (a + b))), .int .u64 (loW (mod128 (a + b)))], .bool (fitM (a + b))]) ∧ Below w.heap.size w w' := by
 obtain ⟨a1, a2⟩ := hi_mbd ha; obtain ⟨c1, c2⟩ := lo_bd a; obtain ⟨b1, b2⟩ := hi_mbd hb0; obtain ⟨d1, d2⟩ := lo_bd b
 have HP := hide (plus_parts ha hb0)
 go_enter Tryz.func96, Tryz.ntmps96
 go_wp2_with fail
 ·rename_i h1 h2
  refine bodyPost_ret (by simp [results, Tryz.results96, go_sem, *] <;> rfl) rfl ⟨?_, ?_⟩
  ·have hh := HP.out.1 h1
   rw [hh.1, hh.2.1]
   by_cases hf : a + b < 340282366920938463463374607431768211456
   ·rw [fitM_t hf, ← hh.1, decide_eq_true (hh.2.2.2 hf).2]
   ·rw [fitM_f hf, ← hh.1, decide_eq_false (fun h3 => hf (hh.2.2.1 ⟨h2, h3⟩))]
  (repeat (first | (with_reducible first | exact Below.refl _ _ | assumption | refine Below.drew ?_) | ((with_reducible first | refine Below.alloc ?_ ?_ _ | refine Below.setCell ?_ ?_ _); rotate_left; (first | omega | (simp <;> omega)))))
 ·rename_i h1 h2
  refine bodyPost_ret (by simp [results, Tryz.results96, go_sem, *] <;> rfl) rfl ⟨?_, ?_⟩
  ·have hh := HP.out.1 h1
   rw [hh.1, hh.2.1, fitM_f (fun hf => by have := (hh.2.2.2 hf).1; omega)]
  (repeat (first | (with_reducible first | exact Below.refl _ _ | assumption | refine Below.drew ?_) | ((with_reducible first | refine Below.alloc ?_ ?_ _ | refine Below.setCell ?_ ?_ _); rotate_left; (first | omega | (simp <;> omega)))))
 ·rename_i h1 h2
  refine bodyPost_ret (by simp [results, Tryz.results96, go_sem, *] <;> rfl) rfl ⟨?_, ?_⟩
  ·have hh := HP.out.2 (by omega)
   rw [hh.1, hh.2.1, fitM_t (hh.2.2.1 h2)]
  (repeat (first | (with_reducible first | exact Below.refl _ _ | assumption | refine Below.drew ?_) | ((with_reducible first | refine Below.alloc ?_ ?_ _ | refine Below.setCell ?_ ?_ _); rotate_left; (first | omega | (simp <;> omega)))))
 ·rename_i h1 h2
  refine bodyPost_ret (by simp [results, Tryz.results96, go_sem, *] <;> rfl) rfl ⟨?_, ?_⟩
  ·have hh := HP.out.2 (by omega)
   rw [hh.1, hh.2.1, fitM_f (fun hf => by have := hh.2.2.2 hf; omega)]
  (repeat (first | (with_reducible first | exact Below.refl _ _ | assumption | refine Below.drew ?_) | ((with_reducible first | refine Below.alloc ?_ ?_ _ | refine Below.setCell ?_ ?_ _); rotate_left; (first | omega | (simp <;> omega)))))
set_option maxHeartbeats 400000 in
theorem rminus_any (a b : Int) (ha : MIn a) (hb0 : MIn b) (hle : b ≤ a) (w : World) :
  Calls Tryz.prog 98 #[.agg #[.int .u64 (hiW a), .int .u64 (loW a)], .agg #[.int .u64 (hiW b), .int .u64 (loW b)]] w fun e w' =>
   e = .returned (.agg #[.int .u64 (hiW (a - b)), .int .u64 (loW (a - b))]) ∧ Below w.heap.size w w' := by
 obtain ⟨a1, a2⟩ := hi_mbd ha; obtain ⟨c1, c2⟩ := lo_bd a; obtain ⟨b1, b2⟩ := hi_mbd hb0; obtain ⟨d1, d2⟩ := lo_bd b
 have HP := hide (minus_parts ha hb0 hle)
 go_enter Tryz.func98, Tryz.ntmps98
 go_wp2_with fail
 ·rename_i h1
  refine bodyPost_ret (by simp [results, Tryz.results98, go_sem, *] <;> rfl) rfl ⟨?_, ?_⟩
  ·rw [(HP.out.1 h1).1, (HP.out.1 h1).2]
  (repeat (first | (with_reducible first | exact Below.refl _ _ | assumption | refine Below.drew ?_) | ((with_reducible first | refine Below.alloc ?_ ?_ _ | refine Below.setCell ?_ ?_ _); rotate_left; (first | omega | (simp <;> omega)))))
 ·rename_i h1
  refine bodyPost_ret (by simp [results, Tryz.results98, go_sem, *] <;> rfl) rfl ⟨?_, ?_⟩
  ·rw [(HP.out.2 (by omega)).1, ← (HP.out.2 (by omega)).2, wrapU, Int.emod_eq_of_lt (by omega) (by omega)]
  (repeat (first | (with_reducible first | exact Below.refl _ _ | assumption | refine Below.drew ?_) | ((with_reducible first | refine Below.alloc ?_ ?_ _ | refine Below.setCell ?_ ?_ _); rotate_left; (first | omega | (simp <;> omega)))))
set_option maxHeartbeats 400000 in
theorem rless_any (a b : Int) (w : World) :
  Calls Tryz.prog 97 #[.agg #[.int .u64 (hiW a), .int .u64 (loW a)], .agg #[.int .u64 (hiW b), .int .u64 (loW b)]] w fun e w' =>
   e = .returned (.bool (decide (a < b))) ∧ Below w.heap.size w w' := by
 have HP := hide (less_iff a b)
 go_enter Tryz.func97, Tryz.ntmps97
 go_wp2_with fail
 ·rename_i h1 h2
  go_ret
  exact ⟨ret_bool (decide_eq_decide.2 (by rw [HP.out]; omega)), by (repeat (first | (with_reducible first | exact Below.refl _ _ | assumption | refine Below.drew ?_) | ((with_reducible first | refine Below.alloc ?_ ?_ _ | refine Below.setCell ?_ ?_ _); rotate_left; (first | omega | (simp <;> omega)))))⟩
 ·rename_i h1 h2
  go_ret
  exact ⟨ret_bool (decide_eq_decide.2 (by rw [HP.out]; omega)), by (repeat (first | (with_reducible first | exact Below.refl _ _ | assumption | refine Below.drew ?_) | ((with_reducible first | refine Below.alloc ?_ ?_ _ | refine Below.setCell ?_ ?_ _); rotate_left; (first | omega | (simp <;> omega)))))⟩
 ·rename_i h1
  go_ret
  exact ⟨ret_bool (decide_eq_true (HP.out.2 (.inl h1))).symm, by (repeat (first | (with_reducible first | exact Below.refl _ _ | assumption | refine Below.drew ?_) | ((with_reducible first | refine Below.alloc ?_ ?_ _ | refine Below.setCell ?_ ?_ _); rotate_left; (first | omega | (simp <;> omega)))))⟩
end Go.Proofs.YtdjlaiilngechaaGreatDoor
namespace Go.Proofs.YtdjlaiilngechaaGreatDoor
set_option maxRecDepth 4000
set_option linter.unusedSimpArgs false
set_option linter.unusedVariables false
open Go.RowKit
set_option maxHeartbeats 400000 in
theorem rjoin_pos (m : Int) (hm : MIn m) (w : World) :
  Calls Tryz.prog 99 #[.bool false, .agg #[.int .u64 (hiW m), .int .u64 (loW m)]] w fun e w' =>
   e = .returned (.tuple #[.agg #[.int .i64 (hiW (wrap128 m)), .int .u64 (loW (wrap128 m))], .bool (decide (WIn m))]) ∧ Below w.heap.size w w' := by
 obtain ⟨a1, a2⟩ := hi_mbd hm; obtain ⟨c1, c2⟩ := lo_bd m
 have HJ := hide (join_pos hm)
 go_enter Tryz.func99, Tryz.ntmps99
 go_wp2_with fail
 refine wp_region_seq (SB (w.heap.size + 2) [w.heap.size + 1] _) [true, true, true, true, true, true, true, true, true, false, true] (by kernel_rfl) (by kernel_rfl) rfl (by kernel_rfl) (fun _ _ d _ _ h => by cases d <;> exact h) SB.refl.drew (fun hHeld => ?_)
 refine seq_take ?_ (by rfl) (fun wx hSx => ?_) ?_
 rotate_left
 ·(unfold SB at hSx; go_simp; (try with_reducible rfl))
 (try simp only [Act.put, putS])
 refine seq_take ?_ (by rfl) (fun wx hSx => ?_) ?_
 rotate_left
 ·(unfold SB at hSx; go_simp; (try with_reducible rfl))
 (try simp only [Act.put, putS])
 refine seq_take ?_ (by rfl) (fun wx hSx => ?_) ?_
 rotate_left
 ·(unfold SB at hSx; go_simp; (try with_reducible rfl))
 (try simp only [Act.put, putS])
 refine seq_take ?_ (by rfl) (fun wx hSx => ?_) ?_
 rotate_left
 ·(unfold SB at hSx; go_simp; (try with_reducible rfl))
 (try simp only [Act.put, putS])
 refine seq_take ?_ (by rfl) (fun wx hSx => ?_) ?_
 rotate_left
 ·(unfold SB at hSx; go_simp; (try with_reducible rfl))
 (try simp only [Act.put, putS])
 refine seq_take ?_ (by rfl) (fun wx hSx => ?_) ?_
 rotate_left
 ·(unfold SB at hSx; go_simp; (try with_reducible rfl))
 (try simp only [Act.put, putS])
 refine seq_take ?_ (by rfl) (fun wx hSx => ?_) ?_
 rotate_left
 ·(unfold SB at hSx; go_simp; (try with_reducible rfl))
 (try simp only [Act.put, putS])
 refine seq_take ?_ (by rfl) (fun wx hSx => ?_) ?_
 rotate_left
 ·(unfold SB at hSx; go_simp; (try with_reducible rfl))
 (try simp only [Act.put, putS])
 refine seq_take ?_ (by rfl) (fun wx hSx => ?_) ?_
 rotate_left
 ·(unfold SB at hSx; go_simp; (try with_reducible rfl))
 (try simp only [Act.put, putS])
 refine seq_run (by rfl) (fun K hK => ?_)
 go_simp
 refine hK.out _ _ ?_ (fun hHeld => ?_)
 ·exact sbT
 clear hK K
 (try simp only [Act.put, putS])
 refine seq_take ?_ (by rfl) (fun wx hSx => ?_) ?_
 rotate_left
 ·(unfold SB at hSx; go_simp; (try with_reducible rfl))
 (try simp only [Act.put, putS])
 refine seq_end ?_
 go_wp2_with fail
 refine bodyPost_ret (by simp [results, Tryz.results99, go_sem, *] <;> rfl) rfl ⟨?_, ?_⟩
 ·simp only [i64w]
  rw [HJ.out.1, ← HJ.out.2.1, decide_eq_decide.2 HJ.out.2.2]
 (repeat (first | (with_reducible first | exact Below.refl _ _ | assumption | refine Below.drew ?_) | ((with_reducible first | refine Below.alloc ?_ ?_ _ | refine Below.setCell ?_ ?_ _); rotate_left; (first | omega | (simp <;> omega)))))
set_option maxHeartbeats 400000 in
theorem rjoinA0 (m : Int) (hm : MIn m) (hl : (IntKind.u64.wrap (notU (loW m) + 1) == 0) = true) (ht : hiW m < 9223372036854775808) (w : World) :
  Calls Tryz.prog 99 #[.bool true, .agg #[.int .u64 (hiW m), .int .u64 (loW m)]] w fun e w' =>
   e = .returned (.tuple #[.agg #[.int .i64 (hiW (wrap128 (-m))), .int .u64 (loW (wrap128 (-m)))], .bool (decide (WIn (-m)))]) ∧ Below w.heap.size w w' := by
 obtain ⟨a1, a2⟩ := hi_mbd hm; obtain ⟨c1, c2⟩ := lo_bd m
 have HJ := hide (join_neg hm)
 have e1 := xor_maxU' _ c1 c2
 have e2 := xor_maxU' _ a1 a2
 have n1 := notU_bd a1 a2
 go_enter Tryz.func99, Tryz.ntmps99
 go_wp2_with fail
 refine wp_region_seq (SB (w.heap.size + 2) [w.heap.size + 1] _) [true, true, true, true, true, true, true, true, true] (by kernel_rfl) (by kernel_rfl) rfl (by kernel_rfl) (fun _ _ d _ _ h => by cases d <;> exact h) SB.refl.drew (fun hHeld => ?_)
 refine seq_take ?_ (by rfl) (fun wx hSx => ?_) ?_
 rotate_left
 ·(unfold SB at hSx; go_simp; (try with_reducible rfl))
 (try simp only [Act.put, putS])
 refine seq_take ?_ (by rfl) (fun wx hSx => ?_) ?_
 rotate_left
 ·(unfold SB at hSx; go_simp; (try with_reducible rfl))
 (try simp only [Act.put, putS])
 refine seq_take ?_ (by rfl) (fun wx hSx => ?_) ?_
 rotate_left
 ·(unfold SB at hSx; go_simp; (try with_reducible rfl))
 (try simp only [Act.put, putS])
 refine seq_take ?_ (by rfl) (fun wx hSx => ?_) ?_
 rotate_left
 ·(unfold SB at hSx; go_simp; (try with_reducible rfl))
 (try simp only [Act.put, putS])
 refine seq_take ?_ (by rfl) (fun wx hSx => ?_) ?_
 rotate_left
 ·(unfold SB at hSx; go_simp; (try with_reducible rfl))
 (try simp only [Act.put, putS])
 refine seq_take ?_ (by rfl) (fun wx hSx => ?_) ?_
 rotate_left
 ·(unfold SB at hSx; go_simp; (try with_reducible rfl))
 (try simp only [Act.put, putS])
 refine seq_take ?_ (by rfl) (fun wx hSx => ?_) ?_
 rotate_left
 ·(unfold SB at hSx; go_simp; (try with_reducible rfl))
 (try simp only [Act.put, putS])
 refine seq_take ?_ (by rfl) (fun wx hSx => ?_) ?_
 rotate_left
 ·(unfold SB at hSx; go_simp; (try with_reducible rfl))
 (try simp only [Act.put, putS])
 refine seq_take ?_ (by rfl) (fun wx hSx => ?_) ?_
 rotate_left
 ·(unfold SB at hSx; go_simp; (try with_reducible rfl))
 (try simp only [Act.put, putS])
 refine seq_end ?_
 go_wp2_with fail
 refine wp_region_seq (SB (w.heap.size + 2) [w.heap.size + 1] _) [true, true, true, true, true, true, true, true, true, true, true, true, true, true, true, true, true, false, true] (by kernel_rfl) (by kernel_rfl) rfl (by kernel_rfl) (fun _ _ d _ _ h => by cases d <;> exact h) SB.refl.drew (fun hHeld => ?_)
 refine seq_take ?_ (by rfl) (fun wx hSx => ?_) ?_
 rotate_left
 ·(unfold SB at hSx; go_simp; (try with_reducible rfl))
 (try simp only [Act.put, putS])
 refine seq_take ?_ (by rfl) (fun wx hSx => ?_) ?_
 rotate_left
 ·(unfold SB at hSx; go_simp; (try with_reducible rfl))
 (try simp only [Act.put, putS])
 refine seq_take ?_ (by rfl) (fun wx hSx => ?_) ?_
 rotate_left
 ·(unfold SB at hSx; go_simp; (try with_reducible rfl))
 (try simp only [Act.put, putS])
 refine seq_take ?_ (by rfl) (fun wx hSx => ?_) ?_
 rotate_left
 ·(unfold SB at hSx; go_simp; (try with_reducible rfl))
 (try simp only [Act.put, putS])
 refine seq_take ?_ (by rfl) (fun wx hSx => ?_) ?_
 rotate_left
 ·(unfold SB at hSx; go_simp; (try with_reducible rfl))
 (try simp only [Act.put, putS])
 refine seq_take ?_ (by rfl) (fun wx hSx => ?_) ?_
 rotate_left
 ·(unfold SB at hSx; go_simp; (try with_reducible rfl))
 (try simp only [Act.put, putS])
 refine seq_take ?_ (by rfl) (fun wx hSx => ?_) ?_
 rotate_left
 ·(unfold SB at hSx; go_simp; (try with_reducible rfl))
 (try simp only [Act.put, putS])
 refine seq_take ?_ (by rfl) (fun wx hSx => ?_) ?_
 rotate_left
 ·(unfold SB at hSx; go_simp; (try with_reducible rfl))
 (try simp only [Act.put, putS])
 refine seq_skip (by rfl) ?_
 (try simp only [Act.put, putS])
 refine seq_skip (by rfl) ?_
 (try simp only [Act.put, putS])
 refine seq_skip (by rfl) ?_
 (try simp only [Act.put, putS])
 refine seq_skip (by rfl) ?_
 (try simp only [Act.put, putS])
 refine seq_skip (by rfl) ?_
 (try simp only [Act.put, putS])
 refine seq_skip (by rfl) ?_
 (try simp only [Act.put, putS])
 refine seq_skip (by rfl) ?_
 (try simp only [Act.put, putS])
 refine seq_skip (by rfl) ?_
 (try simp only [Act.put, putS])
 refine seq_take ?_ (by rfl) (fun wx hSx => ?_) ?_
 rotate_left
 ·(unfold SB at hSx; go_simp; (try with_reducible rfl))
 (try simp only [Act.put, putS])
 refine seq_run (by rfl) (fun K hK => ?_)
 go_simp
 refine hK.out _ _ ?_ (fun hHeld => ?_)
 ·exact sbT
 clear hK K
 (try simp only [Act.put, putS])
 refine seq_take ?_ (by rfl) (fun wx hSx => ?_) ?_
 rotate_left
 ·(unfold SB at hSx; go_simp; (try with_reducible rfl))
 (try simp only [Act.put, putS])
 refine seq_end ?_
 go_wp2_with fail
 refine bodyPost_ret (by simp [results, Tryz.results99, go_sem, *] <;> rfl) rfl ⟨?_, ?_⟩
 ·have hh := HJ.out.1 (by simpa using hl)
  simp only [i64w]
  rw [hh.1, hh.2.1, decide_eq_true (HJ.out.2.2.1 (by omega))]
 (repeat (first | (with_reducible first | exact Below.refl _ _ | assumption | refine Below.drew ?_) | ((with_reducible first | refine Below.alloc ?_ ?_ _ | refine Below.setCell ?_ ?_ _); rotate_left; (first | omega | (simp <;> omega)))))
set_option maxHeartbeats 400000 in
theorem rjoinB0 (m : Int) (hm : MIn m) (hl : (IntKind.u64.wrap (notU (loW m) + 1) == 0) = true) (ht : 9223372036854775808 ≤ hiW m) (ht1 : hiW m ≤ 9223372036854775808) (w : World) :
  Calls Tryz.prog 99 #[.bool true, .agg #[.int .u64 (hiW m), .int .u64 (loW m)]] w fun e w' =>
   e = .returned (.tuple #[.agg #[.int .i64 (hiW (wrap128 (-m))), .int .u64 (loW (wrap128 (-m)))], .bool (decide (WIn (-m)))]) ∧ Below w.heap.size w w' := by
 obtain ⟨a1, a2⟩ := hi_mbd hm; obtain ⟨c1, c2⟩ := lo_bd m
 have HJ := hide (join_neg hm)
 have e1 := xor_maxU' _ c1 c2
 have e2 := xor_maxU' _ a1 a2
 have n1 := notU_bd a1 a2
 have hd : decide (hiW m < 9223372036854775808) = false := decide_eq_false (by omega)
 have he : (hiW m == 9223372036854775808) = true := beq_iff_eq.2 (by omega)
 have hq : (loW m == 0) = true := beq_iff_eq.2 (HJ.out.1 (by simpa using hl)).2.2
 go_enter Tryz.func99, Tryz.ntmps99
 go_wp2_with fail
 refine wp_region_seq (SB (w.heap.size + 2) [w.heap.size + 1] _) [true, true, true, true, true, true, true, true, true] (by kernel_rfl) (by kernel_rfl) rfl (by kernel_rfl) (fun _ _ d _ _ h => by cases d <;> exact h) SB.refl.drew (fun hHeld => ?_)
 refine seq_take ?_ (by rfl) (fun wx hSx => ?_) ?_
 rotate_left
 ·(unfold SB at hSx; go_simp; (try with_reducible rfl))
 (try simp only [Act.put, putS])
 refine seq_take ?_ (by rfl) (fun wx hSx => ?_) ?_
 rotate_left
 ·(unfold SB at hSx; go_simp; (try with_reducible rfl))
 (try simp only [Act.put, putS])
 refine seq_take ?_ (by rfl) (fun wx hSx => ?_) ?_
 rotate_left
 ·(unfold SB at hSx; go_simp; (try with_reducible rfl))
 (try simp only [Act.put, putS])
 refine seq_take ?_ (by rfl) (fun wx hSx => ?_) ?_
 rotate_left
 ·(unfold SB at hSx; go_simp; (try with_reducible rfl))
 (try simp only [Act.put, putS])
 refine seq_take ?_ (by rfl) (fun wx hSx => ?_) ?_
 rotate_left
 ·(unfold SB at hSx; go_simp; (try with_reducible rfl))
 (try simp only [Act.put, putS])
 refine seq_take ?_ (by rfl) (fun wx hSx => ?_) ?_
 rotate_left
 ·(unfold SB at hSx; go_simp; (try with_reducible rfl))
 (try simp only [Act.put, putS])
 refine seq_take ?_ (by rfl) (fun wx hSx => ?_) ?_
 rotate_left
 ·(unfold SB at hSx; go_simp; (try with_reducible rfl))
 (try simp only [Act.put, putS])
 refine seq_take ?_ (by rfl) (fun wx hSx => ?_) ?_
 rotate_left
 ·(unfold SB at hSx; go_simp; (try with_reducible rfl))
 (try simp only [Act.put, putS])
 refine seq_take ?_ (by rfl) (fun wx hSx => ?_) ?_
 rotate_left
 ·(unfold SB at hSx; go_simp; (try with_reducible rfl))
 (try simp only [Act.put, putS])
 refine seq_end ?_
 go_wp2_with fail
 refine wp_region_seq (SB (w.heap.size + 2) [w.heap.size + 1] _) [true, true, true, true, true, true, true, true, true, true, true, true, true, true, true, true, true, false, true] (by kernel_rfl) (by kernel_rfl) rfl (by kernel_rfl) (fun _ _ d _ _ h => by cases d <;> exact h) SB.refl.drew (fun hHeld => ?_)
 refine seq_take ?_ (by rfl) (fun wx hSx => ?_) ?_
 rotate_left
 ·(unfold SB at hSx; go_simp; (try with_reducible rfl))
 (try simp only [Act.put, putS])
 refine seq_take ?_ (by rfl) (fun wx hSx => ?_) ?_
 rotate_left
 ·(unfold SB at hSx; go_simp; (try with_reducible rfl))
 (try simp only [Act.put, putS])
 refine seq_take ?_ (by rfl) (fun wx hSx => ?_) ?_
 rotate_left
 ·(unfold SB at hSx; go_simp; (try with_reducible rfl))
 (try simp only [Act.put, putS])
 refine seq_take ?_ (by rfl) (fun wx hSx => ?_) ?_
 rotate_left
 ·(unfold SB at hSx; go_simp; (try with_reducible rfl))
 (try simp only [Act.put, putS])
 refine seq_take ?_ (by rfl) (fun wx hSx => ?_) ?_
 rotate_left
 ·(unfold SB at hSx; go_simp; (try with_reducible rfl))
 (try simp only [Act.put, putS])
 refine seq_take ?_ (by rfl) (fun wx hSx => ?_) ?_
 rotate_left
 ·(unfold SB at hSx; go_simp; (try with_reducible rfl))
 (try simp only [Act.put, putS])
 refine seq_take ?_ (by rfl) (fun wx hSx => ?_) ?_
 rotate_left
 ·(unfold SB at hSx; go_simp; (try with_reducible rfl))
 (try simp only [Act.put, putS])
 refine seq_take ?_ (by rfl) (fun wx hSx => ?_) ?_
 rotate_left
 ·(unfold SB at hSx; go_simp; (try with_reducible rfl))
 (try simp only [Act.put, putS])
 refine seq_take ?_ (by rfl) (fun wx hSx => ?_) ?_
 rotate_left
 ·(unfold SB at hSx; go_simp; (try with_reducible rfl))
 (try simp only [Act.put, putS])
 refine seq_take ?_ (by rfl) (fun wx hSx => ?_) ?_
 rotate_left
 ·(unfold SB at hSx; go_simp; (try with_reducible rfl))
 (try simp only [Act.put, putS])
 refine seq_take ?_ (by rfl) (fun wx hSx => ?_) ?_
 rotate_left
 ·(unfold SB at hSx; go_simp; (try with_reducible rfl))
 (try simp only [Act.put, putS])
 refine seq_take ?_ (by rfl) (fun wx hSx => ?_) ?_
 rotate_left
 ·(unfold SB at hSx; go_simp; (try with_reducible rfl))
 (try simp only [Act.put, putS])
 refine seq_take ?_ (by rfl) (fun wx hSx => ?_) ?_
 rotate_left
 ·(unfold SB at hSx; go_simp; (try with_reducible rfl))
 (try simp only [Act.put, putS])
 refine seq_take ?_ (by rfl) (fun wx hSx => ?_) ?_
 rotate_left
 ·(unfold SB at hSx; go_simp; (try with_reducible rfl))
 (try simp only [Act.put, putS])
 refine seq_take ?_ (by rfl) (fun wx hSx => ?_) ?_
 rotate_left
 ·(unfold SB at hSx; go_simp; (try with_reducible rfl))
 (try simp only [Act.put, putS])
 refine seq_take ?_ (by rfl) (fun wx hSx => ?_) ?_
 rotate_left
 ·(unfold SB at hSx; go_simp; (try with_reducible rfl))
 (try simp only [Act.put, putS])
 refine seq_take ?_ (by rfl) (fun wx hSx => ?_) ?_
 rotate_left
 ·(unfold SB at hSx; go_simp; (try with_reducible rfl))
 (try simp only [Act.put, putS])
 refine seq_run (by rfl) (fun K hK => ?_)
 go_simp
 refine hK.out _ _ ?_ (fun hHeld => ?_)
 ·exact sbT
 clear hK K
 (try simp only [Act.put, putS])
 refine seq_take ?_ (by rfl) (fun wx hSx => ?_) ?_
 rotate_left
 ·(unfold SB at hSx; go_simp; (try with_reducible rfl))
 (try simp only [Act.put, putS])
 refine seq_end ?_
 go_wp2_with fail
 refine bodyPost_ret (by simp [results, Tryz.results99, go_sem, *] <;> rfl) rfl ⟨?_, ?_⟩
 ·have hh := HJ.out.1 (by simpa using hl)
  simp only [i64w]
  rw [hh.1, hh.2.1, decide_eq_true (HJ.out.2.2.1 (by omega))]
 (repeat (first | (with_reducible first | exact Below.refl _ _ | assumption | refine Below.drew ?_) | ((with_reducible first | refine Below.alloc ?_ ?_ _ | refine Below.setCell ?_ ?_ _); rotate_left; (first | omega | (simp <;> omega)))))
set_option maxHeartbeats 400000 in
theorem rjoinC0 (m : Int) (hm : MIn m) (hl : (IntKind.u64.wrap (notU (loW m) + 1) == 0) = true) (ht : 9223372036854775808 < hiW m) (w : World) :
  Calls Tryz.prog 99 #[.bool true, .agg #[.int .u64 (hiW m), .int .u64 (loW m)]] w fun e w' =>
   e = .returned (.tuple #[.agg #[.int .i64 (hiW (wrap128 (-m))), .int .u64 (loW (wrap128 (-m)))], .bool (decide (WIn (-m)))]) ∧ Below w.heap.size w w' := by
 obtain ⟨a1, a2⟩ := hi_mbd hm; obtain ⟨c1, c2⟩ := lo_bd m
 have HJ := hide (join_neg hm)
 have e1 := xor_maxU' _ c1 c2
 have e2 := xor_maxU' _ a1 a2
 have n1 := notU_bd a1 a2
 have hd : decide (hiW m < 9223372036854775808) = false := decide_eq_false (by omega)
 have he : (hiW m == 9223372036854775808) = false := beq_eq_false_iff_ne.2 (by omega)
 go_enter Tryz.func99, Tryz.ntmps99
 go_wp2_with fail
 refine wp_region_seq (SB (w.heap.size + 2) [w.heap.size + 1] _) [true, true, true, true, true, true, true, true, true] (by kernel_rfl) (by kernel_rfl) rfl (by kernel_rfl) (fun _ _ d _ _ h => by cases d <;> exact h) SB.refl.drew (fun hHeld => ?_)
 refine seq_take ?_ (by rfl) (fun wx hSx => ?_) ?_
 rotate_left
 ·(unfold SB at hSx; go_simp; (try with_reducible rfl))
 (try simp only [Act.put, putS])
 refine seq_take ?_ (by rfl) (fun wx hSx => ?_) ?_
 rotate_left
 ·(unfold SB at hSx; go_simp; (try with_reducible rfl))
 (try simp only [Act.put, putS])
 refine seq_take ?_ (by rfl) (fun wx hSx => ?_) ?_
 rotate_left
 ·(unfold SB at hSx; go_simp; (try with_reducible rfl))
 (try simp only [Act.put, putS])
 refine seq_take ?_ (by rfl) (fun wx hSx => ?_) ?_
 rotate_left
 ·(unfold SB at hSx; go_simp; (try with_reducible rfl))
 (try simp only [Act.put, putS])
 refine seq_take ?_ (by rfl) (fun wx hSx => ?_) ?_
 rotate_left
 ·(unfold SB at hSx; go_simp; (try with_reducible rfl))
 (try simp only [Act.put, putS])
 refine seq_take ?_ (by rfl) (fun wx hSx => ?_) ?_
 rotate_left
 ·(unfold SB at hSx; go_simp; (try with_reducible rfl))
 (try simp only [Act.put, putS])
 refine seq_take ?_ (by rfl) (fun wx hSx => ?_) ?_
 rotate_left
 ·(unfold SB at hSx; go_simp; (try with_reducible rfl))
 (try simp only [Act.put, putS])
 refine seq_take ?_ (by rfl) (fun wx hSx => ?_) ?_
 rotate_left
 ·(unfold SB at hSx; go_simp; (try with_reducible rfl))
 (try simp only [Act.put, putS])
 refine seq_take ?_ (by rfl) (fun wx hSx => ?_) ?_
 rotate_left
 ·(unfold SB at hSx; go_simp; (try with_reducible rfl))
 (try simp only [Act.put, putS])
 refine seq_end ?_
 go_wp2_with fail
 refine wp_region_seq (SB (w.heap.size + 2) [w.heap.size + 1] _) [true, true, true, true, true, true, true, true, true, true, true, true, true, true, true, true, true, false, true] (by kernel_rfl) (by kernel_rfl) rfl (by kernel_rfl) (fun _ _ d _ _ h => by cases d <;> exact h) SB.refl.drew (fun hHeld => ?_)
 refine seq_take ?_ (by rfl) (fun wx hSx => ?_) ?_
 rotate_left
 ·(unfold SB at hSx; go_simp; (try with_reducible rfl))
 (try simp only [Act.put, putS])
 refine seq_take ?_ (by rfl) (fun wx hSx => ?_) ?_
 rotate_left
 ·(unfold SB at hSx; go_simp; (try with_reducible rfl))
 (try simp only [Act.put, putS])
 refine seq_take ?_ (by rfl) (fun wx hSx => ?_) ?_
 rotate_left
 ·(unfold SB at hSx; go_simp; (try with_reducible rfl))
 (try simp only [Act.put, putS])
 refine seq_take ?_ (by rfl) (fun wx hSx => ?_) ?_
 rotate_left
 ·(unfold SB at hSx; go_simp; (try with_reducible rfl))
 (try simp only [Act.put, putS])
 refine seq_take ?_ (by rfl) (fun wx hSx => ?_) ?_
 rotate_left
 ·(unfold SB at hSx; go_simp; (try with_reducible rfl))
 (try simp only [Act.put, putS])
 refine seq_take ?_ (by rfl) (fun wx hSx => ?_) ?_
 rotate_left
 ·(unfold SB at hSx; go_simp; (try with_reducible rfl))
 (try simp only [Act.put, putS])
 refine seq_take ?_ (by rfl) (fun wx hSx => ?_) ?_
 rotate_left
 ·(unfold SB at hSx; go_simp; (try with_reducible rfl))
 (try simp only [Act.put, putS])
 refine seq_take ?_ (by rfl) (fun wx hSx => ?_) ?_
 rotate_left
 ·(unfold SB at hSx; go_simp; (try with_reducible rfl))
 (try simp only [Act.put, putS])
 refine seq_take ?_ (by rfl) (fun wx hSx => ?_) ?_
 rotate_left
 ·(unfold SB at hSx; go_simp; (try with_reducible rfl))
 (try simp only [Act.put, putS])
 refine seq_take ?_ (by rfl) (fun wx hSx => ?_) ?_
 rotate_left
 ·(unfold SB at hSx; go_simp; (try with_reducible rfl))
 (try simp only [Act.put, putS])
 refine seq_take ?_ (by rfl) (fun wx hSx => ?_) ?_
 rotate_left
 ·(unfold SB at hSx; go_simp; (try with_reducible rfl))
 (try simp only [Act.put, putS])
 refine seq_take ?_ (by rfl) (fun wx hSx => ?_) ?_
 rotate_left
 ·(unfold SB at hSx; go_simp; (try with_reducible rfl))
 (try simp only [Act.put, putS])
 refine seq_skip (by rfl) ?_
 (try simp only [Act.put, putS])
 refine seq_skip (by rfl) ?_
 (try simp only [Act.put, putS])
 refine seq_skip (by rfl) ?_
 (try simp only [Act.put, putS])
 refine seq_take ?_ (by rfl) (fun wx hSx => ?_) ?_
 rotate_left
 ·(unfold SB at hSx; go_simp; (try with_reducible rfl))
 (try simp only [Act.put, putS])
 refine seq_take ?_ (by rfl) (fun wx hSx => ?_) ?_
 rotate_left
 ·(unfold SB at hSx; go_simp; (try with_reducible rfl))
 (try simp only [Act.put, putS])
 refine seq_run (by rfl) (fun K hK => ?_)
 go_simp
 refine hK.out _ _ ?_ (fun hHeld => ?_)
 ·exact sbT
 clear hK K
 (try simp only [Act.put, putS])
 refine seq_take ?_ (by rfl) (fun wx hSx => ?_) ?_
 rotate_left
 ·(unfold SB at hSx; go_simp; (try with_reducible rfl))
 (try simp only [Act.put, putS])
 refine seq_end ?_
 go_wp2_with fail
 refine bodyPost_ret (by simp [results, Tryz.results99, go_sem, *] <;> rfl) rfl ⟨?_, ?_⟩
 ·have hh := HJ.out.1 (by simpa using hl)
  simp only [i64w]
  rw [hh.1, hh.2.1, decide_eq_false (fun hw => by have := HJ.out.2.2.2 hw; have := hh.2.2; omega)]
 (repeat (first | (with_reducible first | exact Below.refl _ _ | assumption | refine Below.drew ?_) | ((with_reducible first | refine Below.alloc ?_ ?_ _ | refine Below.setCell ?_ ?_ _); rotate_left; (first | omega | (simp <;> omega)))))
set_option maxHeartbeats 400000 in
theorem rjoinA1 (m : Int) (hm : MIn m) (hl : (IntKind.u64.wrap (notU (loW m) + 1) == 0) = false) (ht : hiW m < 9223372036854775808) (w : World) :
  Calls Tryz.prog 99 #[.bool true, .agg #[.int .u64 (hiW m), .int .u64 (loW m)]] w fun e w' =>
   e = .returned (.tuple #[.agg #[.int .i64 (hiW (wrap128 (-m))), .int .u64 (loW (wrap128 (-m)))], .bool (decide (WIn (-m)))]) ∧ Below w.heap.size w w' := by
 obtain ⟨a1, a2⟩ := hi_mbd hm; obtain ⟨c1, c2⟩ := lo_bd m
 have HJ := hide (join_neg hm)
 have e1 := xor_maxU' _ c1 c2
 have e2 := xor_maxU' _ a1 a2
 have n1 := notU_bd a1 a2
 go_enter Tryz.func99, Tryz.ntmps99
 go_wp2_with fail
 refine wp_region_seq (SB (w.heap.size + 2) [w.heap.size + 1] _) [true, true, true, true, true, true, true, true, true] (by kernel_rfl) (by kernel_rfl) rfl (by kernel_rfl) (fun _ _ d _ _ h => by cases d <;> exact h) SB.refl.drew (fun hHeld => ?_)
 refine seq_take ?_ (by rfl) (fun wx hSx => ?_) ?_
 rotate_left
 ·(unfold SB at hSx; go_simp; (try with_reducible rfl))
 (try simp only [Act.put, putS])
 refine seq_take ?_ (by rfl) (fun wx hSx => ?_) ?_
 rotate_left
 ·(unfold SB at hSx; go_simp; (try with_reducible rfl))
 (try simp only [Act.put, putS])
 refine seq_take ?_ (by rfl) (fun wx hSx => ?_) ?_
 rotate_left
 ·(unfold SB at hSx; go_simp; (try with_reducible rfl))
 (try simp only [Act.put, putS])
 refine seq_take ?_ (by rfl) (fun wx hSx => ?_) ?_
 rotate_left
 ·(unfold SB at hSx; go_simp; (try with_reducible rfl))
 (try simp only [Act.put, putS])
 refine seq_take ?_ (by rfl) (fun wx hSx => ?_) ?_
 rotate_left
 ·(unfold SB at hSx; go_simp; (try with_reducible rfl))
 (try simp only [Act.put, putS])
 refine seq_take ?_ (by rfl) (fun wx hSx => ?_) ?_
 rotate_left
 ·(unfold SB at hSx; go_simp; (try with_reducible rfl))
 (try simp only [Act.put, putS])
 refine seq_take ?_ (by rfl) (fun wx hSx => ?_) ?_
 rotate_left
 ·(unfold SB at hSx; go_simp; (try with_reducible rfl))
 (try simp only [Act.put, putS])
 refine seq_take ?_ (by rfl) (fun wx hSx => ?_) ?_
 rotate_left
 ·(unfold SB at hSx; go_simp; (try with_reducible rfl))
 (try simp only [Act.put, putS])
 refine seq_take ?_ (by rfl) (fun wx hSx => ?_) ?_
 rotate_left
 ·(unfold SB at hSx; go_simp; (try with_reducible rfl))
 (try simp only [Act.put, putS])
 refine seq_end ?_
 go_wp2_with fail
 refine wp_region_seq (SB (w.heap.size + 2) [w.heap.size + 1] _) [true, true, true, true, true, true, true, true, true, true, true, true, true, true, true, true, true, false, true] (by kernel_rfl) (by kernel_rfl) rfl (by kernel_rfl) (fun _ _ d _ _ h => by cases d <;> exact h) SB.refl.drew (fun hHeld => ?_)
 refine seq_take ?_ (by rfl) (fun wx hSx => ?_) ?_
 rotate_left
 ·(unfold SB at hSx; go_simp; (try with_reducible rfl))
 (try simp only [Act.put, putS])
 refine seq_take ?_ (by rfl) (fun wx hSx => ?_) ?_
 rotate_left
 ·(unfold SB at hSx; go_simp; (try with_reducible rfl))
 (try simp only [Act.put, putS])
 refine seq_take ?_ (by rfl) (fun wx hSx => ?_) ?_
 rotate_left
 ·(unfold SB at hSx; go_simp; (try with_reducible rfl))
 (try simp only [Act.put, putS])
 refine seq_take ?_ (by rfl) (fun wx hSx => ?_) ?_
 rotate_left
 ·(unfold SB at hSx; go_simp; (try with_reducible rfl))
 (try simp only [Act.put, putS])
 refine seq_take ?_ (by rfl) (fun wx hSx => ?_) ?_
 rotate_left
 ·(unfold SB at hSx; go_simp; (try with_reducible rfl))
 (try simp only [Act.put, putS])
 refine seq_take ?_ (by rfl) (fun wx hSx => ?_) ?_
 rotate_left
 ·(unfold SB at hSx; go_simp; (try with_reducible rfl))
 (try simp only [Act.put, putS])
 refine seq_take ?_ (by rfl) (fun wx hSx => ?_) ?_
 rotate_left
 ·(unfold SB at hSx; go_simp; (try with_reducible rfl))
 (try simp only [Act.put, putS])
 refine seq_take ?_ (by rfl) (fun wx hSx => ?_) ?_
 rotate_left
 ·(unfold SB at hSx; go_simp; (try with_reducible rfl))
 (try simp only [Act.put, putS])
 refine seq_skip (by rfl) ?_
 (try simp only [Act.put, putS])
 refine seq_skip (by rfl) ?_
 (try simp only [Act.put, putS])
 refine seq_skip (by rfl) ?_
 (try simp only [Act.put, putS])
 refine seq_skip (by rfl) ?_
 (try simp only [Act.put, putS])
 refine seq_skip (by rfl) ?_
 (try simp only [Act.put, putS])
 refine seq_skip (by rfl) ?_
 (try simp only [Act.put, putS])
 refine seq_skip (by rfl) ?_
 (try simp only [Act.put, putS])
 refine seq_skip (by rfl) ?_
 (try simp only [Act.put, putS])
 refine seq_take ?_ (by rfl) (fun wx hSx => ?_) ?_
 rotate_left
 ·(unfold SB at hSx; go_simp; (try with_reducible rfl))
 (try simp only [Act.put, putS])
 refine seq_run (by rfl) (fun K hK => ?_)
 go_simp
 refine hK.out _ _ ?_ (fun hHeld => ?_)
 ·exact sbT
 clear hK K
 (try simp only [Act.put, putS])
 refine seq_take ?_ (by rfl) (fun wx hSx => ?_) ?_
 rotate_left
 ·(unfold SB at hSx; go_simp; (try with_reducible rfl))
 (try simp only [Act.put, putS])
 refine seq_end ?_
 go_wp2_with fail
 refine bodyPost_ret (by simp [results, Tryz.results99, go_sem, *] <;> rfl) rfl ⟨?_, ?_⟩
 ·have hh := HJ.out.2.1 (by simpa using hl)
  simp only [i64w]
  rw [hh.1, hh.2.1, decide_eq_true (HJ.out.2.2.1 (by omega))]
 (repeat (first | (with_reducible first | exact Below.refl _ _ | assumption | refine Below.drew ?_) | ((with_reducible first | refine Below.alloc ?_ ?_ _ | refine Below.setCell ?_ ?_ _); rotate_left; (first | omega | (simp <;> omega)))))
set_option maxHeartbeats 400000 in
theorem rjoinB1 (m : Int) (hm : MIn m) (hl : (IntKind.u64.wrap (notU (loW m) + 1) == 0) = false) (ht : 9223372036854775808 ≤ hiW m) (ht1 : hiW m ≤ 9223372036854775808) (w : World) :
  Calls Tryz.prog 99 #[.bool true, .agg #[.int .u64 (hiW m), .int .u64 (loW m)]] w fun e w' =>
   e = .returned (.tuple #[.agg #[.int .i64 (hiW (wrap128 (-m))), .int .u64 (loW (wrap128 (-m)))], .bool (decide (WIn (-m)))]) ∧ Below w.heap.size w w' := by
 obtain ⟨a1, a2⟩ := hi_mbd hm; obtain ⟨c1, c2⟩ := lo_bd m
 have HJ := hide (join_neg hm)
 have e1 := xor_maxU' _ c1 c2
 have e2 := xor_maxU' _ a1 a2
 have n1 := notU_bd a1 a2
 have hd : decide (hiW m < 9223372036854775808) = false := decide_eq_false (by omega)
 have he : (hiW m == 9223372036854775808) = true := beq_iff_eq.2 (by omega)
 have hq : (loW m == 0) = false := beq_eq_false_iff_ne.2 (HJ.out.2.1 (by simpa using hl)).2.2
 go_enter Tryz.func99, Tryz.ntmps99
 go_wp2_with fail
 refine wp_region_seq (SB (w.heap.size + 2) [w.heap.size + 1] _) [true, true, true, true, true, true, true, true, true] (by kernel_rfl) (by kernel_rfl) rfl (by kernel_rfl) (fun _ _ d _ _ h => by cases d <;> exact h) SB.refl.drew (fun hHeld => ?_)
 refine seq_take ?_ (by rfl) (fun wx hSx => ?_) ?_
 rotate_left
 ·(unfold SB at hSx; go_simp; (try with_reducible rfl))
 (try simp only [Act.put, putS])
 refine seq_take ?_ (by rfl) (fun wx hSx => ?_) ?_
 rotate_left
 ·(unfold SB at hSx; go_simp; (try with_reducible rfl))
 (try simp only [Act.put, putS])
 refine seq_take ?_ (by rfl) (fun wx hSx => ?_) ?_
 rotate_left
 ·(unfold SB at hSx; go_simp; (try with_reducible rfl))
 (try simp only [Act.put, putS])
 refine seq_take ?_ (by rfl) (fun wx hSx => ?_) ?_
 rotate_left
 ·(unfold SB at hSx; go_simp; (try with_reducible rfl))
 (try simp only [Act.put, putS])
 refine seq_take ?_ (by rfl) (fun wx hSx => ?_) ?_
 rotate_left
 ·(unfold SB at hSx; go_simp; (try with_reducible rfl))
 (try simp only [Act.put, putS])
 refine seq_take ?_ (by rfl) (fun wx hSx => ?_) ?_
 rotate_left
 ·(unfold SB at hSx; go_simp; (try with_reducible rfl))
 (try simp only [Act.put, putS])
 refine seq_take ?_ (by rfl) (fun wx hSx => ?_) ?_
 rotate_left
 ·(unfold SB at hSx; go_simp; (try with_reducible rfl))
 (try simp only [Act.put, putS])
 refine seq_take ?_ (by rfl) (fun wx hSx => ?_) ?_
 rotate_left
 ·(unfold SB at hSx; go_simp; (try with_reducible rfl))
 (try simp only [Act.put, putS])
 refine seq_take ?_ (by rfl) (fun wx hSx => ?_) ?_
 rotate_left
 ·(unfold SB at hSx; go_simp; (try with_reducible rfl))
 (try simp only [Act.put, putS])
 refine seq_end ?_
 go_wp2_with fail
 refine wp_region_seq (SB (w.heap.size + 2) [w.heap.size + 1] _) [true, true, true, true, true, true, true, true, true, true, true, true, true, true, true, true, true, false, true] (by kernel_rfl) (by kernel_rfl) rfl (by kernel_rfl) (fun _ _ d _ _ h => by cases d <;> exact h) SB.refl.drew (fun hHeld => ?_)
 refine seq_take ?_ (by rfl) (fun wx hSx => ?_) ?_
 rotate_left
 ·(unfold SB at hSx; go_simp; (try with_reducible rfl))
 (try simp only [Act.put, putS])
 refine seq_take ?_ (by rfl) (fun wx hSx => ?_) ?_
 rotate_left
 ·(unfold SB at hSx; go_simp; (try with_reducible rfl))
 (try simp only [Act.put, putS])
 refine seq_take ?_ (by rfl) (fun wx hSx => ?_) ?_
 rotate_left
 ·(unfold SB at hSx; go_simp; (try with_reducible rfl))
 (try simp only [Act.put, putS])
 refine seq_take ?_ (by rfl) (fun wx hSx => ?_) ?_
 rotate_left
 ·(unfold SB at hSx; go_simp; (try with_reducible rfl))
 (try simp only [Act.put, putS])
 refine seq_take ?_ (by rfl) (fun wx hSx => ?_) ?_
 rotate_left
 ·(unfold SB at hSx; go_simp; (try with_reducible rfl))
 (try simp only [Act.put, putS])
 refine seq_take ?_ (by rfl) (fun wx hSx => ?_) ?_
 rotate_left
 ·(unfold SB at hSx; go_simp; (try with_reducible rfl))
 (try simp only [Act.put, putS])
 refine seq_take ?_ (by rfl) (fun wx hSx => ?_) ?_
 rotate_left
 ·(unfold SB at hSx; go_simp; (try with_reducible rfl))
 (try simp only [Act.put, putS])
 refine seq_take ?_ (by rfl) (fun wx hSx => ?_) ?_
 rotate_left
 ·(unfold SB at hSx; go_simp; (try with_reducible rfl))
 (try simp only [Act.put, putS])
 refine seq_take ?_ (by rfl) (fun wx hSx => ?_) ?_
 rotate_left
 ·(unfold SB at hSx; go_simp; (try with_reducible rfl))
 (try simp only [Act.put, putS])
 refine seq_take ?_ (by rfl) (fun wx hSx => ?_) ?_
 rotate_left
 ·(unfold SB at hSx; go_simp; (try with_reducible rfl))
 (try simp only [Act.put, putS])
 refine seq_take ?_ (by rfl) (fun wx hSx => ?_) ?_
 rotate_left
 ·(unfold SB at hSx; go_simp; (try with_reducible rfl))
 (try simp only [Act.put, putS])
 refine seq_take ?_ (by rfl) (fun wx hSx => ?_) ?_
 rotate_left
 ·(unfold SB at hSx; go_simp; (try with_reducible rfl))
 (try simp only [Act.put, putS])
 refine seq_take ?_ (by rfl) (fun wx hSx => ?_) ?_
 rotate_left
 ·(unfold SB at hSx; go_simp; (try with_reducible rfl))
 (try simp only [Act.put, putS])
 refine seq_take ?_ (by rfl) (fun wx hSx => ?_) ?_
 rotate_left
 ·(unfold SB at hSx; go_simp; (try with_reducible rfl))
 (try simp only [Act.put, putS])
 refine seq_take ?_ (by rfl) (fun wx hSx => ?_) ?_
 rotate_left
 ·(unfold SB at hSx; go_simp; (try with_reducible rfl))
 (try simp only [Act.put, putS])
 refine seq_take ?_ (by rfl) (fun wx hSx => ?_) ?_
 rotate_left
 ·(unfold SB at hSx; go_simp; (try with_reducible rfl))
 (try simp only [Act.put, putS])
 refine seq_take ?_ (by rfl) (fun wx hSx => ?_) ?_
 rotate_left
 ·(unfold SB at hSx; go_simp; (try with_reducible rfl))
 (try simp only [Act.put, putS])
 refine seq_run (by rfl) (fun K hK => ?_)
 go_simp
 refine hK.out _ _ ?_ (fun hHeld => ?_)
 ·exact sbT
 clear hK K
 (try simp only [Act.put, putS])
 refine seq_take ?_ (by rfl) (fun wx hSx => ?_) ?_
 rotate_left
 ·(unfold SB at hSx; go_simp; (try with_reducible rfl))
 (try simp only [Act.put, putS])
 refine seq_end ?_
 go_wp2_with fail
 refine bodyPost_ret (by simp [results, Tryz.results99, go_sem, *] <;> rfl) rfl ⟨?_, ?_⟩
 ·have hh := HJ.out.2.1 (by simpa using hl)
  simp only [i64w]
  rw [hh.1, hh.2.1, decide_eq_false (fun hw => by have := HJ.out.2.2.2 hw; have := hh.2.2; omega)]
 (repeat (first | (with_reducible first | exact Below.refl _ _ | assumption | refine Below.drew ?_) | ((with_reducible first | refine Below.alloc ?_ ?_ _ | refine Below.setCell ?_ ?_ _); rotate_left; (first | omega | (simp <;> omega)))))
set_option maxHeartbeats 400000 in
theorem rjoinC1 (m : Int) (hm : MIn m) (hl : (IntKind.u64.wrap (notU (loW m) + 1) == 0) = false) (ht : 9223372036854775808 < hiW m) (w : World) :
  Calls Tryz.prog 99 #[.bool true, .agg #[.int .u64 (hiW m), .int .u64 (loW m)]] w fun e w' =>
   e = .returned (.tuple #[.agg #[.int .i64 (hiW (wrap128 (-m))), .int .u64 (loW (wrap128 (-m)))], .bool (decide (WIn (-m)))]) ∧ Below w.heap.size w w' := by
 obtain ⟨a1, a2⟩ := hi_mbd hm; obtain ⟨c1, c2⟩ := lo_bd m
 have HJ := hide (join_neg hm)
 have e1 := xor_maxU' _ c1 c2
 have e2 := xor_maxU' _ a1 a2
 have n1 := notU_bd a1 a2
 have hd : decide (hiW m < 9223372036854775808) = false := decide_eq_false (by omega)
 have he : (hiW m == 9223372036854775808) = false := beq_eq_false_iff_ne.2 (by omega)
 go_enter Tryz.func99, Tryz.ntmps99
 go_wp2_with fail
 refine wp_region_seq (SB (w.heap.size + 2) [w.heap.size + 1] _) [true, true, true, true, true, true, true, true, true] (by kernel_rfl) (by kernel_rfl) rfl (by kernel_rfl) (fun _ _ d _ _ h => by cases d <;> exact h) SB.refl.drew (fun hHeld => ?_)
 refine seq_take ?_ (by rfl) (fun wx hSx => ?_) ?_
 rotate_left
 ·(unfold SB at hSx; go_simp; (try with_reducible rfl))
 (try simp only [Act.put, putS])
 refine seq_take ?_ (by rfl) (fun wx hSx => ?_) ?_
 rotate_left
 ·(unfold SB at hSx; go_simp; (try with_reducible rfl))
 (try simp only [Act.put, putS])
 refine seq_take ?_ (by rfl) (fun wx hSx => ?_) ?_
 rotate_left
 ·(unfold SB at hSx; go_simp; (try with_reducible rfl))
 (try simp only [Act.put, putS])
 refine seq_take ?_ (by rfl) (fun wx hSx => ?_) ?_
 rotate_left
 ·(unfold SB at hSx; go_simp; (try with_reducible rfl))
 (try simp only [Act.put, putS])
 refine seq_take ?_ (by rfl) (fun wx hSx => ?_) ?_
 rotate_left
 ·(unfold SB at hSx; go_simp; (try with_reducible rfl))
 (try simp only [Act.put, putS])
 refine seq_take ?_ (by rfl) (fun wx hSx => ?_) ?_
 rotate_left
 ·(unfold SB at hSx; go_simp; (try with_reducible rfl))
 (try simp only [Act.put, putS])
 refine seq_take ?_ (by rfl) (fun wx hSx => ?_) ?_
 rotate_left
 ·(unfold SB at hSx; go_simp; (try with_reducible rfl))
 (try simp only [Act.put, putS])
 refine seq_take ?_ (by rfl) (fun wx hSx => ?_) ?_
 rotate_left
 ·(unfold SB at hSx; go_simp; (try with_reducible rfl))
 (try simp only [Act.put, putS])
 refine seq_take ?_ (by rfl) (fun wx hSx => ?_) ?_
 rotate_left
 ·(unfold SB at hSx; go_simp; (try with_reducible rfl))
 (try simp only [Act.put, putS])
 refine seq_end ?_
 go_wp2_with fail
 refine wp_region_seq (SB (w.heap.size + 2) [w.heap.size + 1] _) [true, true, true, true, true, true, true, true, true, true, true, true, true, true, true, true, true, false, true] (by kernel_rfl) (by kernel_rfl) rfl (by kernel_rfl) (fun _ _ d _ _ h => by cases d <;> exact h) SB.refl.drew (fun hHeld => ?_)
 refine seq_take ?_ (by rfl) (fun wx hSx => ?_) ?_
 rotate_left
 ·(unfold SB at hSx; go_simp; (try with_reducible rfl))
 (try simp only [Act.put, putS])
 refine seq_take ?_ (by rfl) (fun wx hSx => ?_) ?_
 rotate_left
 ·(unfold SB at hSx; go_simp; (try with_reducible rfl))
 (try simp only [Act.put, putS])
 refine seq_take ?_ (by rfl) (fun wx hSx => ?_) ?_
 rotate_left
 ·(unfold SB at hSx; go_simp; (try with_reducible rfl))
 (try simp only [Act.put, putS])
 refine seq_take ?_ (by rfl) (fun wx hSx => ?_) ?_
 rotate_left
 ·(unfold SB at hSx; go_simp; (try with_reducible rfl))
 (try simp only [Act.put, putS])
 refine seq_take ?_ (by rfl) (fun wx hSx => ?_) ?_
 rotate_left
 ·(unfold SB at hSx; go_simp; (try with_reducible rfl))
 (try simp only [Act.put, putS])
 refine seq_take ?_ (by rfl) (fun wx hSx => ?_) ?_
 rotate_left
 ·(unfold SB at hSx; go_simp; (try with_reducible rfl))
 (try simp only [Act.put, putS])
 refine seq_take ?_ (by rfl) (fun wx hSx => ?_) ?_
 rotate_left
 ·(unfold SB at hSx; go_simp; (try with_reducible rfl))
 (try simp only [Act.put, putS])
 refine seq_take ?_ (by rfl) (fun wx hSx => ?_) ?_
 rotate_left
 ·(unfold SB at hSx; go_simp; (try with_reducible rfl))
 (try simp only [Act.put, putS])
 refine seq_take ?_ (by rfl) (fun wx hSx => ?_) ?_
 rotate_left
 ·(unfold SB at hSx; go_simp; (try with_reducible rfl))
 (try simp only [Act.put, putS])
 refine seq_take ?_ (by rfl) (fun wx hSx => ?_) ?_
 rotate_left
 ·(unfold SB at hSx; go_simp; (try with_reducible rfl))
 (try simp only [Act.put, putS])
 refine seq_take ?_ (by rfl) (fun wx hSx => ?_) ?_
 rotate_left
 ·(unfold SB at hSx; go_simp; (try with_reducible rfl))
 (try simp only [Act.put, putS])
 refine seq_take ?_ (by rfl) (fun wx hSx => ?_) ?_
 rotate_left
 ·(unfold SB at hSx; go_simp; (try with_reducible rfl))
 (try simp only [Act.put, putS])
 refine seq_skip (by rfl) ?_
 (try simp only [Act.put, putS])
 refine seq_skip (by rfl) ?_
 (try simp only [Act.put, putS])
 refine seq_skip (by rfl) ?_
 (try simp only [Act.put, putS])
 refine seq_take ?_ (by rfl) (fun wx hSx => ?_) ?_
 rotate_left
 ·(unfold SB at hSx; go_simp; (try with_reducible rfl))
 (try simp only [Act.put, putS])
 refine seq_take ?_ (by rfl) (fun wx hSx => ?_) ?_
 rotate_left
 ·(unfold SB at hSx; go_simp; (try with_reducible rfl))
 (try simp only [Act.put, putS])
 refine seq_run (by rfl) (fun K hK => ?_)
 go_simp
 refine hK.out _ _ ?_ (fun hHeld => ?_)
 ·exact sbT
 clear hK K
 (try simp only [Act.put, putS])
 refine seq_take ?_ (by rfl) (fun wx hSx => ?_) ?_
 rotate_left
 ·(unfold SB at hSx; go_simp; (try with_reducible rfl))
 (try simp only [Act.put, putS])
 refine seq_end ?_
 go_wp2_with fail
 refine bodyPost_ret (by simp [results, Tryz.results99, go_sem, *] <;> rfl) rfl ⟨?_, ?_⟩
 ·have hh := HJ.out.2.1 (by simpa using hl)
  simp only [i64w]
  rw [hh.1, hh.2.1, decide_eq_false (fun hw => by have := HJ.out.2.2.2 hw; have := hh.2.2; omega)]
 (repeat (first | (with_reducible first | exact Below.refl _ _ | assumption | refine Below.drew ?_) | ((with_reducible first | refine Below.alloc ?_ ?_ _ | refine Below.setCell ?_ ?_ _); rotate_left; (first | omega | (simp <;> omega)))))
/-- The number with a sign and a magnitude, and whether there is one. -/
theorem rjoin_any (neg : Bool) (m : Int) (hm : MIn m) (w : World) :
  Calls Tryz.prog 99 #[.bool neg, .agg #[.int .u64 (hiW m), .int .u64 (loW m)]] w fun e w' =>
   e = .returned (.tuple #[.agg #[.int .i64 (hiW (wrap128 (sgn neg m))), .int .u64 (loW (wrap128 (sgn neg m)))], .bool (decide (WIn (sgn neg m)))]) ∧ Below w.heap.size w w' := by
 cases neg
 ·exact rjoin_pos m hm w
 ·cases hl : (IntKind.u64.wrap (notU (loW m) + 1) == 0)
  ·by_cases h1 : hiW m < 9223372036854775808
   ·exact rjoinA1 m hm hl h1 w
   ·by_cases h2 : hiW m ≤ 9223372036854775808
    ·exact rjoinB1 m hm hl (by omega) h2 w
    ·exact rjoinC1 m hm hl (by omega) w
  ·by_cases h1 : hiW m < 9223372036854775808
   ·exact rjoinA0 m hm hl h1 w
   ·by_cases h2 : hiW m ≤ 9223372036854775808
    ·exact rjoinB0 m hm hl (by omega) h2 w
    ·exact rjoinC0 m hm hl (by omega) w
theorem rof_any (n : Int) (h1 : -9223372036854775808 ≤ n) (h2 : n ≤ 9223372036854775807) (w : World) :
  Calls Tryz.prog 63 #[.int .i64 n] w fun e w' => e = .returned (.agg #[.int .i64 (hiW n), .int .u64 (loW n)]) ∧ Below w.heap.size w w' := by
 have HO := hide (of_parts h1 h2)
 by_cases h : n < 0
 ·rw [(HO.out.1 h).1, (HO.out.1 h).2]
  go_enter Tryz.func63, Tryz.ntmps63
  go_wp2_with fail
  refine bodyPost_ret (by simp [results, Tryz.results63, go_sem, *] <;> rfl) rfl ⟨?_, ?_⟩
  ·rfl
  (repeat (first | (with_reducible first | exact Below.refl _ _ | assumption | refine Below.drew ?_) | ((with_reducible first | refine Below.alloc ?_ ?_ _ | refine Below.setCell ?_ ?_ _); rotate_left; (first | omega | (simp <;> omega)))))
 ·have h := Int.not_lt.1 h
  rw [(HO.out.2 h).1, (HO.out.2 h).2]
  go_enter Tryz.func63, Tryz.ntmps63
  go_wp2_with fail
  refine bodyPost_ret (by simp [results, Tryz.results63, go_sem, *] <;> rfl) rfl ⟨?_, ?_⟩
  ·rfl
  (repeat (first | (with_reducible first | exact Below.refl _ _ | assumption | refine Below.drew ?_) | ((with_reducible first | refine Below.alloc ?_ ?_ _ | refine Below.setCell ?_ ?_ _); rotate_left; (first | omega | (simp <;> omega)))))
theorem rsize_any (n : Int) (h1 : -9223372036854775808 ≤ n) (h2 : n ≤ 9223372036854775807) (w : World) :
  Calls Tryz.prog 101 #[.int .i64 n] w fun e w' => e = .returned (.int .u64 (absI n)) ∧ w = w' := by
 by_cases h : n < 0
 ·have HS := hide (size_neg h1 h)
  have e1 := xor_maxU' (IntKind.u64.wrap n) (by rw [wrapU]; omega) (by rw [wrapU]; omega)
  go_enter Tryz.func101, Tryz.ntmps101
  go_wp2_with fail
  go_ret
  exact ⟨ret_int HS.out, rfl⟩
 ·have h := Int.not_lt.1 h
  go_enter Tryz.func101, Tryz.ntmps101
  go_wp2_with fail
  go_ret
  exact ⟨ret_int (absI_pos h).symm, rfl⟩
end Go.Proofs.YtdjlaiilngechaaGreatDoor
