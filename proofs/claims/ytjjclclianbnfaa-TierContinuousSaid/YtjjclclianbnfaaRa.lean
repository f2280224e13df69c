/- Contracts of the reference for numbers of 128 bits, 1. -/
import Derived.Test.YtjjclclianbnfaaWb
import Derived.Test.YtjjclclianbnfaaRefM
import Derived.Test.YtjjclclianbnfaaReg
namespace Go.Proofs.Ytjjclclianbnfaa
open Go.RowKit

theorem ret_bool {a b : Bool} (h : a = b) : Ending.returned (.bool a) = .returned (.bool b) := by rw [h]
set_option maxHeartbeats 400000 in
theorem rsplit_any (x : Int) (hx : WIn x) (w : World) :
    Calls Try.prog 32 #[.agg #[.int .i64 (hiW x), .int .u64 (loW x)]] w fun e w' =>
      e = .returned (.tuple #[.bool (decide (x < 0)), .agg #[.int .u64 (hiW (absI x)), .int .u64 (loW (absI x))]]) ∧ Below w.heap.size w w' := by
  obtain ⟨a1, a2⟩ := hi_bd hx; obtain ⟨c1, c2⟩ := lo_bd x
  by_cases h : hiW x < 0
  · have HS := hide (split_neg hx h)
    have e1 := xor_maxU' _ c1 c2
    have e2 := xor_maxU' (IntKind.u64.wrap (hiW x)) (by rw [wrapU]; omega) (by rw [wrapU]; omega)
    have HD := hide (show decide (x < 0) = true from decide_eq_true ((hi_sign x).1 h))
    rw [HD.out]
    go_enter Try.func32, Try.ntmps32
    go_wp2_with fail
    refine wp_region_seq (SB (w.heap.size + 2) [] _) [true, true, true, true, true, true, true] (by kernel_rfl) (by kernel_rfl) rfl (by kernel_rfl) (fun _ _ d _ _ h => by cases d <;> exact h) SB.refl.drew (fun hHeld => ?_)
    refine seq_take ?_ (by rfl) (fun wx hSx => ?_) ?_
    rotate_left
    · (unfold SB at hSx; go_simp; (try with_reducible rfl))
    (try simp only [Act.put, List.setIfInBounds_toArray, List.set_cons_zero, List.set_cons_succ])
    refine seq_take ?_ (by rfl) (fun wx hSx => ?_) ?_
    rotate_left
    · (unfold SB at hSx; go_simp; (try with_reducible rfl))
    (try simp only [Act.put, List.setIfInBounds_toArray, List.set_cons_zero, List.set_cons_succ])
    refine seq_take ?_ (by rfl) (fun wx hSx => ?_) ?_
    rotate_left
    · (unfold SB at hSx; go_simp; (try with_reducible rfl))
    (try simp only [Act.put, List.setIfInBounds_toArray, List.set_cons_zero, List.set_cons_succ])
    refine seq_take ?_ (by rfl) (fun wx hSx => ?_) ?_
    rotate_left
    · (unfold SB at hSx; go_simp; (try with_reducible rfl))
    (try simp only [Act.put, List.setIfInBounds_toArray, List.set_cons_zero, List.set_cons_succ])
    refine seq_take ?_ (by rfl) (fun wx hSx => ?_) ?_
    rotate_left
    · (unfold SB at hSx; go_simp; (try with_reducible rfl))
    (try simp only [Act.put, List.setIfInBounds_toArray, List.set_cons_zero, List.set_cons_succ])
    refine seq_take ?_ (by rfl) (fun wx hSx => ?_) ?_
    rotate_left
    · (unfold SB at hSx; go_simp; (try with_reducible rfl))
    (try simp only [Act.put, List.setIfInBounds_toArray, List.set_cons_zero, List.set_cons_succ])
    refine seq_take ?_ (by rfl) (fun wx hSx => ?_) ?_
    rotate_left
    · (unfold SB at hSx; go_simp; (try with_reducible rfl))
    (try simp only [Act.put, List.setIfInBounds_toArray, List.set_cons_zero, List.set_cons_succ])
    refine seq_end ?_
    go_wp2_with fail
    · rename_i h1
      refine bodyPost_ret (by simp [results, Try.results32, go_sem, *] <;> rfl) rfl ⟨?_, ?_⟩
      · have hh := HS.out.1 (by simpa using h1)
        rw [hh.1, hh.2]
      (repeat (first | (with_reducible exact Below.refl _ _) | (with_reducible assumption) | ((with_reducible refine Below.alloc ?_ ?_ _); (rotate_left); (first | omega | (simp <;> omega))) | ((with_reducible refine Below.setCell ?_ ?_ _); (rotate_left); (first | omega | (simp <;> omega))) | (with_reducible refine Below.drew ?_) | (with_reducible refine below_drewN ?_ _)))
    · rename_i h1
      refine bodyPost_ret (by simp [results, Try.results32, go_sem, *] <;> rfl) rfl ⟨?_, ?_⟩
      · have hh := HS.out.2 (by simpa using h1)
        rw [hh.1, hh.2]
      (repeat (first | (with_reducible exact Below.refl _ _) | (with_reducible assumption) | ((with_reducible refine Below.alloc ?_ ?_ _); (rotate_left); (first | omega | (simp <;> omega))) | ((with_reducible refine Below.setCell ?_ ?_ _); (rotate_left); (first | omega | (simp <;> omega))) | (with_reducible refine Below.drew ?_) | (with_reducible refine below_drewN ?_ _)))
  · have h' := Int.not_lt.1 h
    clear h
    have HP := hide (abs_parts_pos hx h')
    have HD := hide (show decide (x < 0) = false from decide_eq_false (by have := hi_sign x; omega))
    rw [HD.out, HP.out]
    go_enter Try.func32, Try.ntmps32
    go_wp2_with fail
    refine wp_region_seq (SB (w.heap.size + 2) [] _) [true, true, true, true, true, true, true] (by kernel_rfl) (by kernel_rfl) rfl (by kernel_rfl) (fun _ _ d _ _ h => by cases d <;> exact h) SB.refl.drew (fun hHeld => ?_)
    refine seq_take ?_ (by rfl) (fun wx hSx => ?_) ?_
    rotate_left
    · (unfold SB at hSx; go_simp; (try with_reducible rfl))
    (try simp only [Act.put, List.setIfInBounds_toArray, List.set_cons_zero, List.set_cons_succ])
    refine seq_take ?_ (by rfl) (fun wx hSx => ?_) ?_
    rotate_left
    · (unfold SB at hSx; go_simp; (try with_reducible rfl))
    (try simp only [Act.put, List.setIfInBounds_toArray, List.set_cons_zero, List.set_cons_succ])
    refine seq_take ?_ (by rfl) (fun wx hSx => ?_) ?_
    rotate_left
    · (unfold SB at hSx; go_simp; (try with_reducible rfl))
    (try simp only [Act.put, List.setIfInBounds_toArray, List.set_cons_zero, List.set_cons_succ])
    refine seq_take ?_ (by rfl) (fun wx hSx => ?_) ?_
    rotate_left
    · (unfold SB at hSx; go_simp; (try with_reducible rfl))
    (try simp only [Act.put, List.setIfInBounds_toArray, List.set_cons_zero, List.set_cons_succ])
    refine seq_take ?_ (by rfl) (fun wx hSx => ?_) ?_
    rotate_left
    · (unfold SB at hSx; go_simp; (try with_reducible rfl))
    (try simp only [Act.put, List.setIfInBounds_toArray, List.set_cons_zero, List.set_cons_succ])
    refine seq_take ?_ (by rfl) (fun wx hSx => ?_) ?_
    rotate_left
    · (unfold SB at hSx; go_simp; (try with_reducible rfl))
    (try simp only [Act.put, List.setIfInBounds_toArray, List.set_cons_zero, List.set_cons_succ])
    refine seq_take ?_ (by rfl) (fun wx hSx => ?_) ?_
    rotate_left
    · (unfold SB at hSx; go_simp; (try with_reducible rfl))
    (try simp only [Act.put, List.setIfInBounds_toArray, List.set_cons_zero, List.set_cons_succ])
    refine seq_end ?_
    go_wp2_with fail
    refine bodyPost_ret (v := .tuple #[.bool false, .agg #[.int .u64 (hiW x), .int .u64 (loW x)]]) (by simp [results, Try.results32, go_sem, *]) rfl ⟨rfl, ?_⟩
    (repeat (first | (with_reducible exact Below.refl _ _) | (with_reducible assumption) | ((with_reducible refine Below.alloc ?_ ?_ _); (rotate_left); (first | omega | (simp <;> omega))) | ((with_reducible refine Below.setCell ?_ ?_ _); (rotate_left); (first | omega | (simp <;> omega))) | (with_reducible refine Below.drew ?_) | (with_reducible refine below_drewN ?_ _)))
set_option maxHeartbeats 400000 in
theorem rplus_any (a b : Int) (ha : MIn a) (hb0 : MIn b) (w : World) :
    Calls Try.prog 44 #[.agg #[.int .u64 (hiW a), .int .u64 (loW a)], .agg #[.int .u64 (hiW b), .int .u64 (loW b)]] w fun e w' =>
      e = .returned (.tuple #[.agg #[.int .u64 (hiW (mod128 (a + b))), .int .u64 (loW (mod128 (a + b)))], .bool (fitM (a + b))]) ∧ Below w.heap.size w w' := by
  obtain ⟨a1, a2⟩ := hi_mbd ha; obtain ⟨c1, c2⟩ := lo_bd a; obtain ⟨b1, b2⟩ := hi_mbd hb0; obtain ⟨d1, d2⟩ := lo_bd b
  have HP := hide (plus_parts ha hb0)
  go_enter Try.func44, Try.ntmps44
  go_wp2_with fail
  · rename_i h1 h2
    refine bodyPost_ret (by simp [results, Try.results44, go_sem, *] <;> rfl) rfl ⟨?_, ?_⟩
    · have hh := HP.out.1 h1
      rw [hh.1, hh.2.1]
      by_cases hf : a + b < 340282366920938463463374607431768211456
      · rw [fitM_t hf, ← hh.1, decide_eq_true (hh.2.2.2 hf).2]
      · rw [fitM_f hf, ← hh.1, decide_eq_false (fun h3 => hf (hh.2.2.1 ⟨h2, h3⟩))]
    (repeat (first | (with_reducible exact Below.refl _ _) | (with_reducible assumption) | ((with_reducible refine Below.alloc ?_ ?_ _); (rotate_left); (first | omega | (simp <;> omega))) | ((with_reducible refine Below.setCell ?_ ?_ _); (rotate_left); (first | omega | (simp <;> omega))) | (with_reducible refine Below.drew ?_) | (with_reducible refine below_drewN ?_ _)))
  · rename_i h1 h2
    refine bodyPost_ret (by simp [results, Try.results44, go_sem, *] <;> rfl) rfl ⟨?_, ?_⟩
    · have hh := HP.out.1 h1
      rw [hh.1, hh.2.1, fitM_f (fun hf => by have := (hh.2.2.2 hf).1; omega)]
    (repeat (first | (with_reducible exact Below.refl _ _) | (with_reducible assumption) | ((with_reducible refine Below.alloc ?_ ?_ _); (rotate_left); (first | omega | (simp <;> omega))) | ((with_reducible refine Below.setCell ?_ ?_ _); (rotate_left); (first | omega | (simp <;> omega))) | (with_reducible refine Below.drew ?_) | (with_reducible refine below_drewN ?_ _)))
  · rename_i h1 h2
    refine bodyPost_ret (by simp [results, Try.results44, go_sem, *] <;> rfl) rfl ⟨?_, ?_⟩
    · have hh := HP.out.2 (by omega)
      rw [hh.1, hh.2.1, fitM_t (hh.2.2.1 h2)]
    (repeat (first | (with_reducible exact Below.refl _ _) | (with_reducible assumption) | ((with_reducible refine Below.alloc ?_ ?_ _); (rotate_left); (first | omega | (simp <;> omega))) | ((with_reducible refine Below.setCell ?_ ?_ _); (rotate_left); (first | omega | (simp <;> omega))) | (with_reducible refine Below.drew ?_) | (with_reducible refine below_drewN ?_ _)))
  · rename_i h1 h2
    refine bodyPost_ret (by simp [results, Try.results44, go_sem, *] <;> rfl) rfl ⟨?_, ?_⟩
    · have hh := HP.out.2 (by omega)
      rw [hh.1, hh.2.1, fitM_f (fun hf => by have := hh.2.2.2 hf; omega)]
    (repeat (first | (with_reducible exact Below.refl _ _) | (with_reducible assumption) | ((with_reducible refine Below.alloc ?_ ?_ _); (rotate_left); (first | omega | (simp <;> omega))) | ((with_reducible refine Below.setCell ?_ ?_ _); (rotate_left); (first | omega | (simp <;> omega))) | (with_reducible refine Below.drew ?_) | (with_reducible refine below_drewN ?_ _)))
set_option maxHeartbeats 400000 in
theorem rminus_any (a b : Int) (ha : MIn a) (hb0 : MIn b) (hle : b ≤ a) (w : World) :
    Calls Try.prog 46 #[.agg #[.int .u64 (hiW a), .int .u64 (loW a)], .agg #[.int .u64 (hiW b), .int .u64 (loW b)]] w fun e w' =>
      e = .returned (.agg #[.int .u64 (hiW (a - b)), .int .u64 (loW (a - b))]) ∧ Below w.heap.size w w' := by
  obtain ⟨a1, a2⟩ := hi_mbd ha; obtain ⟨c1, c2⟩ := lo_bd a; obtain ⟨b1, b2⟩ := hi_mbd hb0; obtain ⟨d1, d2⟩ := lo_bd b
  have HP := hide (minus_parts ha hb0 hle)
  go_enter Try.func46, Try.ntmps46
  go_wp2_with fail
  · rename_i h1
    refine bodyPost_ret (by simp [results, Try.results46, go_sem, *] <;> rfl) rfl ⟨?_, ?_⟩
    · rw [(HP.out.1 h1).1, (HP.out.1 h1).2]
    (repeat (first | (with_reducible exact Below.refl _ _) | (with_reducible assumption) | ((with_reducible refine Below.alloc ?_ ?_ _); (rotate_left); (first | omega | (simp <;> omega))) | ((with_reducible refine Below.setCell ?_ ?_ _); (rotate_left); (first | omega | (simp <;> omega))) | (with_reducible refine Below.drew ?_) | (with_reducible refine below_drewN ?_ _)))
  · rename_i h1
    refine bodyPost_ret (by simp [results, Try.results46, go_sem, *] <;> rfl) rfl ⟨?_, ?_⟩
    · rw [(HP.out.2 (by omega)).1, ← (HP.out.2 (by omega)).2, wrapU, Int.emod_eq_of_lt (by omega) (by omega)]
    (repeat (first | (with_reducible exact Below.refl _ _) | (with_reducible assumption) | ((with_reducible refine Below.alloc ?_ ?_ _); (rotate_left); (first | omega | (simp <;> omega))) | ((with_reducible refine Below.setCell ?_ ?_ _); (rotate_left); (first | omega | (simp <;> omega))) | (with_reducible refine Below.drew ?_) | (with_reducible refine below_drewN ?_ _)))
set_option maxHeartbeats 400000 in
theorem rless_any (a b : Int) (w : World) :
    Calls Try.prog 45 #[.agg #[.int .u64 (hiW a), .int .u64 (loW a)], .agg #[.int .u64 (hiW b), .int .u64 (loW b)]] w fun e w' =>
      e = .returned (.bool (decide (a < b))) ∧ Below w.heap.size w w' := by
  have HP := hide (less_iff a b)
  go_enter Try.func45, Try.ntmps45
  go_wp2_with fail
  · rename_i h1 h2
    go_ret
    exact ⟨ret_bool (decide_eq_decide.2 (by rw [HP.out]; omega)), by (repeat (first | (with_reducible exact Below.refl _ _) | (with_reducible assumption) | ((with_reducible refine Below.alloc ?_ ?_ _); (rotate_left); (first | omega | (simp <;> omega))) | ((with_reducible refine Below.setCell ?_ ?_ _); (rotate_left); (first | omega | (simp <;> omega))) | (with_reducible refine Below.drew ?_) | (with_reducible refine below_drewN ?_ _)))⟩
  · rename_i h1 h2
    go_ret
    exact ⟨ret_bool (decide_eq_decide.2 (by rw [HP.out]; omega)), by (repeat (first | (with_reducible exact Below.refl _ _) | (with_reducible assumption) | ((with_reducible refine Below.alloc ?_ ?_ _); (rotate_left); (first | omega | (simp <;> omega))) | ((with_reducible refine Below.setCell ?_ ?_ _); (rotate_left); (first | omega | (simp <;> omega))) | (with_reducible refine Below.drew ?_) | (with_reducible refine below_drewN ?_ _)))⟩
  · rename_i h1
    go_ret
    exact ⟨ret_bool (decide_eq_true (HP.out.2 (.inl h1))).symm, by (repeat (first | (with_reducible exact Below.refl _ _) | (with_reducible assumption) | ((with_reducible refine Below.alloc ?_ ?_ _); (rotate_left); (first | omega | (simp <;> omega))) | ((with_reducible refine Below.setCell ?_ ?_ _); (rotate_left); (first | omega | (simp <;> omega))) | (with_reducible refine Below.drew ?_) | (with_reducible refine below_drewN ?_ _)))⟩
end Go.Proofs.Ytjjclclianbnfaa
