/- Contracts of package shard and its reference, 6: Tasks. -/
import Derived.Test.YtapfofnicbhoeaaDoorPairM
import Derived.Test.YtapfofnicbhoeaaDoorShE
namespace Go.Proofs.YtapfofnicbhoeaaDoor
open Go.RowKit

/-- The first m tasks of the stages of n shards. -/
def tkl (n m : Nat) : List (Int × Int) := (List.range m).map fun i => (1 + ((i / n : Nat) : Int), ((i % n : Nat) : Int))
theorem tkl_len (n m : Nat) : (tkl n m).length = m := by simp [tkl]
theorem tkl_succ {n k s : Nat} (h : s < n) : tkl n (k * n + s + 1) = tkl n (k * n + s) ++ [(1 + (k : Int), (s : Int))] := by
  unfold tkl
  rw [List.range_succ, List.map_append]
  have e1 : (k * n + s) / n = k := by rw [Nat.add_comm, Nat.add_mul_div_right _ _ (by omega), Nat.div_eq_of_lt h]; omega
  have e2 : (k * n + s) % n = s := by rw [Nat.add_comm, Nat.add_mul_mod_self_right, Nat.mod_eq_of_lt h]
  rw [List.map_singleton, e1, e2]
/-- The tasks of n shards. -/
def tks (N : Int) : List (Int × Int) := if good8 N then tkl N.toNat (8 * N.toNat) ++ [(9, 0)] else []
theorem tks_good {N : Nat} (h : good8 (N : Int) = true) : tks N = tkl N (8 * N) ++ [(9, 0)] := by unfold tks; rw [if_pos h]; simp
theorem tks_bad {N : Int} (h : good8 N = false) : tks N = [] := by unfold tks; rw [h]; rfl
theorem task_info : (Tryd.prog.info? 36).map (fun i => (i.zero, i.size, i.bytes)) = some (some (.agg #[.int .i64 0, .int .i64 0]), 2, 16) := by kernel_rfl
def TkOut (e : TypeId) (N : Nat) (w : World) (v9 v3 : Value) (wr : World) : Prop :=
  ∃ k : Nat, k ≤ 8 ∧ v9 = .int .i64 k ∧ wr.ownsRow w.heap.size e 2 v3 (k * N) (flat (tkl N (k * N))) ∧ Below w.heap.size w wr
def TkOutR (e : TypeId) (N : Nat) (w : World) (v9 v3 : Value) (wr : World) : Prop :=
  ∃ k : Nat, k ≤ 8 ∧ v9 = .int .i64 (1 + k) ∧ wr.ownsRow w.heap.size e 2 v3 (k * N) (flat (tkl N (k * N))) ∧ Below w.heap.size w wr
def TkIn (e : TypeId) (N k : Nat) (w : World) (v13 v3 : Value) (wr : World) : Prop :=
  ∃ s : Nat, s ≤ N ∧ v13 = .int .i64 s ∧ wr.ownsRow w.heap.size e 2 v3 (k * N + s) (flat (tkl N (k * N + s))) ∧ Below w.heap.size w wr
theorem km_le {k N : Nat} (hk : k < 8) (hN : N ≤ 8) : k * N ≤ 56 := by
  have h1 : k * N ≤ 7 * 8 := Nat.mul_le_mul (by omega) hN
  omega
theorem km_succ (k N : Nat) : (k + 1) * N = k * N + N := by rw [Nat.add_mul, Nat.one_mul]
set_option maxHeartbeats 1000000 in
theorem tasks_good (N : Nat) (h1 : 1 ≤ N) (h8 : N ≤ 8) (w : World) :
    Calls Tryd.prog 14 #[.int .i64 N] w (SlRet (tks N) w) := by
  obtain ⟨i0, hi0, hz00, hz1, hz2⟩ := info_parts task_info
  have hg : good8 (N : Int) = true := good8_iff.2 (by omega)
  have HG := hide hg
  have HS := hide (tks_good hg)
  clear hg
  go_enter Tryd.func14, Tryd.ntmps14
  go_wp2_with fail
  refine (number_any _ _).mono ?_
  rintro e w1 ⟨rfl, rfl⟩
  rw [HG.out]
  go_wp2_with fail
  go_loopw [9, 3] (fun v9 v3 wr => TkOut 36 N w v9 v3 wr) (fun v _ _ => 8 - (intOf v).toNat)
  case atStart => exact ⟨0, by omega, rfl, by rw [Nat.zero_mul]; exact ⟨rfl, .inl ⟨rfl, rfl⟩⟩, by (repeat (first | (with_reducible exact Below.refl _ _) | (with_reducible assumption) | ((with_reducible refine Below.alloc ?_ ?_ _); (rotate_left); (first | omega | (simp <;> omega))) | ((with_reducible refine Below.setCell ?_ ?_ _); (rotate_left); (first | omega | (simp <;> omega))) | (with_reducible refine Below.drew ?_) | (with_reducible refine below_drewN ?_ _)))⟩
  case round =>
    obtain ⟨k, hk, rfl, hown, hB⟩ := hrel
    obtain ⟨wo, rfl⟩ : ∃ wo, wo = wr := ⟨wr, rfl⟩
    have hzB := hB.size
    by_cases hlt : k < 8
    · have hm1 : (k : Int) < 8 := by omega
      have hkm := km_le hlt h8
      go_wp2_with fail
      go_loopw [13, 3] (fun v13 v3 wi => TkIn 36 N k w v13 v3 wi) (fun v _ _ => N - (intOf v).toNat)
      case atStart => exact ⟨0, by omega, rfl, hown, hB⟩
      case round =>
        obtain ⟨s, hs, rfl, hin, hBi⟩ := hrel
        have hzi := hBi.size
        by_cases hlt2 : s < N
        · have hm2 : (s : Int) < N := by omega
          have HT := hide (tkl_succ (k := k) hlt2)
          go_wp2_with (at_builtin; go_loud (refine wpList_append_own2 _ rfl (.tmp 16) (.tmp 21) 33 rfl w.heap.size 36 i0 (.agg #[.int .i64 0, .int .i64 0]) 2 16 Tryd.underlying33 hi0 hz00 hz1 hz2 rfl (by decide) _ _ _ rfl (hin.alloc _) ⟨wr.heap.size, 0, none⟩ 1 1 [.int .i64 (1 + (k : Int)), .int .i64 s] rfl rfl (news2 (by simp [go_sem]) (by simp [go_sem])) one2 (by simp only [maxLen]; omega) (by omega) (by simp; omega) ?_); intro A1 c1 w2 ho hg hv)
          go_roundw
          case rel => exact ⟨s + 1, by omega, by go_num, by rw [← Nat.add_assoc, HT.out, flat_append, flat_one]; exact ho, (hBi.alloc (by omega) _).grown hg (by simp; omega) (own_ge hin)⟩
          case measure => simp [intOf]; omega
        · obtain rfl : s = N := by omega
          go_wp2_with fail
          go_roundw
          case rel => exact ⟨k + 1, by omega, by go_num, by rw [km_succ]; exact hin, hBi⟩
          case measure => simp [intOf]; omega
    · obtain rfl : k = 8 := by omega
      have hl := tkl_len N (8 * N)
      go_wp2_with (at_builtin; go_loud (refine wpList_append_own2 _ rfl (.tmp 25) (.tmp 27) 33 rfl w.heap.size 36 i0 (.agg #[.int .i64 0, .int .i64 0]) 2 16 Tryd.underlying33 hi0 hz00 hz1 hz2 rfl (by decide) _ _ _ rfl (hown.alloc _) ⟨wo.heap.size, 0, none⟩ 1 1 [.int .i64 9, .int .i64 0] rfl rfl (news2 (by simp [go_sem]) (by simp [go_sem])) one2 (by simp only [maxLen]; omega) (by omega) (by simp; omega) ?_); intro A1 c1 w2 ho hg hv)
      go_ret
      have hb2 : Below w.heap.size w w2 := (hB.alloc (by omega) _).grown hg (by simp; omega) (own_ge hown)
      have ho2 : w2.ownsRow w.heap.size 36 2 (.slice A1 (8 * N + 1) c1) (tks N).length (flat (tks N)) := by
        rw [HS.out, List.length_append, hl, flat_append, flat_one]; exact ho
      obtain ⟨A', c', hv', hrow⟩ := own_row2 ho2
      exact ⟨A', c', by rw [← hv']; rfl, hrow, hb2⟩
theorem slRet_nil0 {w w' : World} {A : Option Addr} {c : Nat} (hB : Below w.heap.size w w') : SlRet [] w (.returned (.slice A 0 c)) w' := ⟨A, c, rfl, fun h => by simp at h, hB⟩
theorem tasks_any (N : Int) (w : World) :
    Calls Tryd.prog 14 #[.int .i64 N] w (SlRet (tks N) w) := by
  by_cases hg : good8 N = true
  · obtain ⟨M, rfl⟩ : ∃ M : Nat, N = M := ⟨N.toNat, by have := good8_iff.1 hg; omega⟩
    have := good8_iff.1 hg
    exact tasks_good M (by omega) (by omega) w
  · have HG := hide (show good8 N = false by simpa using hg)
    have HS := hide (tks_bad (show good8 N = false by simpa using hg))
    clear hg
    go_enter Tryd.func14, Tryd.ntmps14
    go_wp2_with fail
    refine (number_any _ _).mono ?_
    rintro e w1 ⟨rfl, rfl⟩
    rw [HG.out]
    go_wp2_with fail
    go_ret
    rw [HS.out]
    exact slRet_nil0 (by (repeat (first | (with_reducible exact Below.refl _ _) | (with_reducible assumption) | ((with_reducible refine Below.alloc ?_ ?_ _); (rotate_left); (first | omega | (simp <;> omega))) | ((with_reducible refine Below.setCell ?_ ?_ _); (rotate_left); (first | omega | (simp <;> omega))) | (with_reducible refine Below.drew ?_) | (with_reducible refine below_drewN ?_ _))))
set_option maxHeartbeats 1000000 in
theorem rtasks_good (N : Nat) (h1 : 1 ≤ N) (h8 : N ≤ 8) (w : World) :
    Calls Tryd.prog 15 #[.int .i64 N] w (SlRet (tks N) w) := by
  obtain ⟨i0, hi0, hz00, hz1, hz2⟩ := info_parts task_info
  have hg : good8 (N : Int) = true := good8_iff.2 (by omega)
  have HG := hide hg
  have HS := hide (tks_good hg)
  clear hg
  go_enter Tryd.func15, Tryd.ntmps15
  go_wp2_with fail
  refine (rgood_any _ _).mono ?_
  rintro e w1 ⟨rfl, rfl⟩
  rw [HG.out]
  go_wp2_with fail
  go_loopw [4, 3] (fun v9 v3 wr => TkOutR 36 N w v9 v3 wr) (fun v _ _ => 9 - (intOf v).toNat)
  case atStart => exact ⟨0, by omega, rfl, by rw [Nat.zero_mul]; exact owns_empty w _ (Nat.le_refl _) _ _, by (repeat (first | (with_reducible exact Below.refl _ _) | (with_reducible assumption) | ((with_reducible refine Below.alloc ?_ ?_ _); (rotate_left); (first | omega | (simp <;> omega))) | ((with_reducible refine Below.setCell ?_ ?_ _); (rotate_left); (first | omega | (simp <;> omega))) | (with_reducible refine Below.drew ?_) | (with_reducible refine below_drewN ?_ _)))⟩
  case round =>
    obtain ⟨k, hk, rfl, hown, hB⟩ := hrel
    obtain ⟨wo, rfl⟩ : ∃ wo, wo = wr := ⟨wr, rfl⟩
    have hzB := hB.size
    by_cases hlt : k < 8
    · have hm1 : 1 + (k : Int) < 9 := by omega
      have hkm := km_le hlt h8
      go_wp2_with fail
      go_loopw [5, 3] (fun v13 v3 wi => TkIn 36 N k w v13 v3 wi) (fun v _ _ => N - (intOf v).toNat)
      case atStart => exact ⟨0, by omega, rfl, hown, hB⟩
      case round =>
        obtain ⟨s, hs, rfl, hin, hBi⟩ := hrel
        have hzi := hBi.size
        by_cases hlt2 : s < N
        · have hm2 : (s : Int) < N := by omega
          have HT := hide (tkl_succ (k := k) hlt2)
          go_wp2_with (at_builtin; go_loud (refine wpList_append_own2 _ rfl (.tmp 20) (.tmp 24) 33 rfl w.heap.size 36 i0 (.agg #[.int .i64 0, .int .i64 0]) 2 16 Tryd.underlying33 hi0 hz00 hz1 hz2 rfl (by decide) _ _ _ rfl (hin.alloc _) ⟨wr.heap.size, 0, none⟩ 1 1 [.int .i64 (1 + (k : Int)), .int .i64 s] rfl rfl (news2 (by simp [go_sem]) (by simp [go_sem])) one2 (by simp only [maxLen]; omega) (by omega) (by simp; omega) ?_); intro A1 c1 w2 ho hg hv)
          go_roundw
          case rel => exact ⟨s + 1, by omega, by go_num, by rw [← Nat.add_assoc, HT.out, flat_append, flat_one]; exact ho, (hBi.alloc (by omega) _).grown hg (by simp; omega) (own_ge hin)⟩
          case measure => simp [intOf]; omega
        · obtain rfl : s = N := by omega
          go_wp2_with fail
          go_roundw
          case rel => exact ⟨k + 1, by omega, by go_num, by rw [km_succ]; exact hin, hBi⟩
          case measure => simp [intOf]; omega
    · obtain rfl : k = 8 := by omega
      have hl := tkl_len N (8 * N)
      go_wp2_with (at_builtin; go_loud (refine wpList_append_own2 _ rfl (.tmp 26) (.tmp 28) 33 rfl w.heap.size 36 i0 (.agg #[.int .i64 0, .int .i64 0]) 2 16 Tryd.underlying33 hi0 hz00 hz1 hz2 rfl (by decide) _ _ _ rfl (hown.alloc _) ⟨wo.heap.size, 0, none⟩ 1 1 [.int .i64 9, .int .i64 0] rfl rfl (news2 (by simp [go_sem]) (by simp [go_sem])) one2 (by simp only [maxLen]; omega) (by omega) (by simp; omega) ?_); intro A1 c1 w2 ho hg hv)
      go_ret
      have hb2 : Below w.heap.size w w2 := (hB.alloc (by omega) _).grown hg (by simp; omega) (own_ge hown)
      have ho2 : w2.ownsRow w.heap.size 36 2 (.slice A1 (8 * N + 1) c1) (tks N).length (flat (tks N)) := by
        rw [HS.out, List.length_append, hl, flat_append, flat_one]; exact ho
      obtain ⟨A', c', hv', hrow⟩ := own_row2 ho2
      exact ⟨A', c', by rw [← hv']; rfl, hrow, hb2⟩
theorem rtasks_any (N : Int) (w : World) :
    Calls Tryd.prog 15 #[.int .i64 N] w (SlRet (tks N) w) := by
  by_cases hg : good8 N = true
  · obtain ⟨M, rfl⟩ : ∃ M : Nat, N = M := ⟨N.toNat, by have := good8_iff.1 hg; omega⟩
    have := good8_iff.1 hg
    exact rtasks_good M (by omega) (by omega) w
  · have HG := hide (show good8 N = false by simpa using hg)
    have HS := hide (tks_bad (show good8 N = false by simpa using hg))
    clear hg
    go_enter Tryd.func15, Tryd.ntmps15
    go_wp2_with fail
    refine (rgood_any _ _).mono ?_
    rintro e w1 ⟨rfl, rfl⟩
    rw [HG.out]
    go_wp2_with fail
    go_ret
    rw [HS.out]
    exact slRet_nil0 (by (repeat (first | (with_reducible exact Below.refl _ _) | (with_reducible assumption) | ((with_reducible refine Below.alloc ?_ ?_ _); (rotate_left); (first | omega | (simp <;> omega))) | ((with_reducible refine Below.setCell ?_ ?_ _); (rotate_left); (first | omega | (simp <;> omega))) | (with_reducible refine Below.drew ?_) | (with_reducible refine below_drewN ?_ _))))
end Go.Proofs.YtapfofnicbhoeaaDoor
