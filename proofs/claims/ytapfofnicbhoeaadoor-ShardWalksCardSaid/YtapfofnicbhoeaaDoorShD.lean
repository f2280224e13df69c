/- Contracts of package shard and its reference, 4: Split. -/
import Derived.Test.YtapfofnicbhoeaaDoorShM
namespace Go.Proofs.YtapfofnicbhoeaaDoor
open Go.RowKit

theorem int_info : (Tryd.prog.info? 3).map (fun i => (i.zero, i.size, i.bytes)) = some (some (.int .i64 0), 1, 8) := by kernel_rfl
theorem ints_info : (Tryd.prog.info? 25).map (fun i => (i.zero, i.size, i.bytes)) = some (some (.slice none 0 0), 1, 24) := by kernel_rfl
set_option maxHeartbeats 1000000 in
theorem split_good (A : Option Addr) (n c : Nat) (f : Nat → Int) (hn : n ≤ 100) (hI : ∀ k, k < n → IIn (f k)) (N : Nat) (h1 : 1 ≤ N) (h8 : N ≤ 8) (w : World) (hr : RowI w A n f) (ht : Tab w) :
    Calls Tryd.prog 11 #[.slice A n c, .int .i64 N] w (SpRet n f N w) := by
  obtain ⟨i0, hi0, hz00, hz1, hz2⟩ := info_parts int_info
  have hg : good8 (N : Int) = true := good8_iff.2 (by omega)
  have HG := hide hg
  have HS := hide (show shs (N : Int) = N by unfold shs; rw [if_pos hg]; omega)
  clear hg
  have hmk := fun w => run_make_row' (P := Tryd.prog) 26 25 (.slice none 0 0) 24 Tryd.underlying26 ints_info rfl .i64 .i64 N (by omega) (by omega) w
  have HR := hide hr
  clear hr
  go_enter Tryd.func11, Tryd.ntmps11
  go_wp2_with fail
  refine (number_any _ _).mono ?_
  rintro e w1 ⟨rfl, rfl⟩
  rw [HG.out]
  go_wp2_with fail
  go_loopw [16] (fun v wr => SpInv w.heap.size 25 3 N n f w v wr) (fun v _ => n - (intOf v).toNat)
  case atStart => exact ⟨0, by omega, rfl, Buckets.start w _ _ N, by (repeat (first | (with_reducible exact Below.refl _ _) | (with_reducible assumption) | ((with_reducible refine Below.alloc ?_ ?_ _); (rotate_left); (first | omega | (simp <;> omega))) | ((with_reducible refine Below.setCell ?_ ?_ _); (rotate_left); (first | omega | (simp <;> omega))) | (with_reducible refine Below.drew ?_) | (with_reducible refine below_drewN ?_ _)))⟩
  case round =>
    obtain ⟨k, hk, rfl, hbk, hB⟩ := hrel
    by_cases hlt : k < n
    · have hm1 : (k : Int) < n := by omega
      obtain ⟨b, off, rfl, hbl, hc⟩ := (HR.out.below hB) (by omega)
      have c0 := hc k hlt
      clear hc
      obtain ⟨i1, i2⟩ := hI k hlt
      obtain ⟨s, hs⟩ : ∃ s : Nat, shOf (f k) N = s := ⟨(shOf (f k) N).toNat, by have := shOf_bd (f k) HG.out; omega⟩
      have hsN : s < N := by have := shOf_bd (f k) HG.out; omega
      have HV := hide hs
      clear hs
      go_wp2_with fail
      refine (of_any (f k) N i1 i2 _ (ht.below hB)).mono ?_
      rintro e w1 ⟨rfl, hb⟩
      rw [HV.out]
      obtain ⟨V, r1, r2, r3⟩ := hbk.below hb
      have hsz := hb.size
      have cs := r1.cell hsN
      have hlen := bk_len f N k s
      have gl := r1.lt
      have hm2 : (s : Int) < N := by omega
      have r1a := r1.alloc (.cells #[.int .i64 (f k)] 3)
      have r2a := fun j hj => (r2 j hj).alloc (.cells #[.int .i64 (f k)] 3)
      go_wp2_with (at_builtin; go_loud (refine wpList_append_own2 _ rfl (.tmp 28) (.tmp 30) 25 rfl (w.heap.size + 1) 3 i0 (.int .i64 0) 1 8 Tryd.underlying25 hi0 hz00 hz1 hz2 rfl (by decide) (V s) _ _ rfl (r2a s hsN) ⟨w1.heap.size, 0, none⟩ 1 1 [.int .i64 (f k)] rfl rfl (news1 (by simp [go_sem])) one1 (by simp only [maxLen]; omega) (by omega) (by simp; omega) ?_); intro A1 c1 w2 ho hg hv; have cs2 := (row_grown r1a r2a hsN hg).cell hsN; have fs2 := (row_grown r1a r2a hsN hg).frozen s)
      go_roundw
      case rel =>
        refine ⟨k + 1, by omega, by go_num, (Buckets.put r1a r2a r3 hsN ho hg hv).congr fun j hj => ?_, ?_⟩
        · rw [bk_succ, HV.out]
          by_cases hjs : j = s
          · subst hjs; rw [if_pos rfl, if_pos rfl]
          · rw [if_neg hjs, if_neg (by omega)]
        · refine Below.setCell (p := ⟨w.heap.size, s, none⟩) ?_ (Nat.le_refl _) _
          exact ((hB.trans (hb.mono hB.size)).alloc (by omega) _).grown hg (by simp; omega) (fun q hq => by have := ((r2a s hsN).lt q hq).1; omega)
      case measure => simp [intOf]; omega
    · have hkn : k = n := by omega
      subst hkn
      go_wp2_with fail
      go_ret
      exact ⟨_, N, by rw [HS.out]; rfl, by rw [HS.out]; exact hbk.row, hB⟩
theorem split_any (A : Option Addr) (n c : Nat) (f : Nat → Int) (hn : n ≤ 100) (hI : ∀ k, k < n → IIn (f k)) (N : Int) (w : World) (hr : RowI w A n f) (ht : Tab w) :
    Calls Tryd.prog 11 #[.slice A n c, .int .i64 N] w (SpRet n f N w) := by
  by_cases hg : good8 N = true
  · obtain ⟨M, rfl⟩ : ∃ M : Nat, N = M := ⟨N.toNat, by have := good8_iff.1 hg; omega⟩
    have := good8_iff.1 hg
    exact split_good A n c f hn hI M (by omega) (by omega) w hr ht
  · have HG := hide (show good8 N = false by simpa using hg)
    have HS := hide (show shs N = 0 by unfold shs; rw [if_neg hg])
    clear hg
    go_enter Tryd.func11, Tryd.ntmps11
    go_wp2_with fail
    refine (number_any _ _).mono ?_
    rintro e w1 ⟨rfl, rfl⟩
    rw [HG.out]
    go_wp2_with fail
    go_ret
    exact ⟨none, 0, by rw [HS.out]; rfl, fun h => by rw [HS.out] at h; omega, by (repeat (first | (with_reducible exact Below.refl _ _) | (with_reducible assumption) | ((with_reducible refine Below.alloc ?_ ?_ _); (rotate_left); (first | omega | (simp <;> omega))) | ((with_reducible refine Below.setCell ?_ ?_ _); (rotate_left); (first | omega | (simp <;> omega))) | (with_reducible refine Below.drew ?_) | (with_reducible refine below_drewN ?_ _)))⟩
/-- The inner loop of the reference: the first i accounts, those of shard k. -/
def RsIn (e : TypeId) (N : Int) (k n : Nat) (f : Nat → Int) (w : World) (v8 v7 : Value) (wr : World) : Prop :=
  ∃ i : Nat, i ≤ n ∧ v8 = .int .i64 i ∧ wr.ownsRow w.heap.size e 1 v7 (bk f N i k).length (ints (bk f N i k)) ∧ Below w.heap.size w wr
/-- The outer loop: the lists of the first k shards. -/
def RsInv (ts e : TypeId) (N n : Nat) (f : Nat → Int) (w : World) (v6 v5 : Value) (wr : World) : Prop :=
  ∃ (k : Nat) (V : Nat → Value), k ≤ N ∧ v6 = .int .i64 k ∧ wr.ownsRow w.heap.size ts 1 v5 k ((List.range k).map V) ∧ (∀ j, j < k → wr.ownsRow w.heap.size e 1 (V j) (bk f N n j).length (ints (bk f N n j)) ∧ ((V j).ownBlock = none ∨ (V j).ownBlock ≠ v5.ownBlock)) ∧ Below w.heap.size w wr
end Go.Proofs.YtapfofnicbhoeaaDoor
