/- Contracts of package shard and its reference, 5: the reference's Split. -/
import Derived.Test.YtapfofnicbhoeaaDoorShD
namespace Go.Proofs.YtapfofnicbhoeaaDoor
open Go.RowKit

theorem rows_list (V : Nat → Value) (k : Nat) (v : Value) : ((List.range k).map V) ++ [v] = (List.range (k + 1)).map (fun j => if j = k then v else V j) := by
  rw [List.range_succ, List.map_append]
  congr 1
  · apply List.map_congr_left
    intro j hj
    have := List.mem_range.1 hj
    rw [if_neg (by omega)]
  · simp
theorem rows_read {w : World} {base : Nat} {ts e : TypeId} {v : Value} {k : Nat} {V : Nat → Value} {L : Nat → List Int} (h : w.ownsRow base ts 1 v k ((List.range k).map V)) (hr : ∀ j, j < k → w.ownsRow base e 1 (V j) (L j).length (ints (L j))) :
    ∃ A c, v = .slice A k c ∧ RowRow w A k L := by
  rcases h.2 with ⟨rfl, h0⟩ | ⟨g, cap, cur, rfl, hg, hh, h3, h4, h5, h6⟩
  · exact ⟨none, 0, by rw [h0], fun hn => by omega⟩
  · refine ⟨some ⟨g, 0, none⟩, cap, rfl, fun _ => ⟨g, 0, rfl, heap_lt hh, fun j hj => ?_⟩⟩
    obtain ⟨B, c, hv, hri⟩ := own_rowI (hr j hj)
    refine ⟨B, c, ?_, hri⟩
    have f1 : ((List.range k).map V)[j]? = some (V j) := by simp [hj]
    rw [← h6, List.getElem?_take] at f1
    rw [if_pos (by omega)] at f1
    rw [cell_of_cells hh]
    rw [Nat.zero_add, ← hv]
    simpa using f1
set_option maxHeartbeats 1000000 in
theorem rsplit_good (A : Option Addr) (n c : Nat) (f : Nat → Int) (hn : n ≤ 100) (hI : ∀ k, k < n → IIn (f k)) (N : Nat) (h1 : 1 ≤ N) (h8 : N ≤ 8) (w : World) (hr : RowI w A n f) :
    Calls Tryd.prog 12 #[.slice A n c, .int .i64 N] w (SpRet n f N w) := by
  obtain ⟨i0, hi0, hz00, hz1, hz2⟩ := info_parts int_info
  obtain ⟨j0, hj0, hy00, hy1, hy2⟩ := info_parts ints_info
  have hg : good8 (N : Int) = true := good8_iff.2 (by omega)
  have HG := hide hg
  have HS := hide (show shs (N : Int) = N by unfold shs; rw [if_pos hg]; omega)
  clear hg
  have HR := hide hr
  clear hr
  go_enter Tryd.func12, Tryd.ntmps12
  go_wp2_with fail
  refine (rgood_any _ _).mono ?_
  rintro e w1 ⟨rfl, rfl⟩
  rw [HG.out]
  go_wp2_with fail
  go_loopw [6, 5] (fun v6 v5 wr => RsInv 25 3 N n f w v6 v5 wr) (fun v _ _ => N - (intOf v).toNat)
  case atStart => exact ⟨0, fun _ => undef, by omega, rfl, owns_empty w _ (Nat.le_refl _) _ _, fun j hj => by omega, by (repeat (first | (with_reducible exact Below.refl _ _) | (with_reducible assumption) | ((with_reducible refine Below.alloc ?_ ?_ _); (rotate_left); (first | omega | (simp <;> omega))) | ((with_reducible refine Below.setCell ?_ ?_ _); (rotate_left); (first | omega | (simp <;> omega))) | (with_reducible refine Below.drew ?_) | (with_reducible refine below_drewN ?_ _)))⟩
  case round =>
    obtain ⟨k, V, hk, rfl, hown, hV, hB⟩ := hrel
    obtain ⟨wo, rfl⟩ : ∃ wo, wo = wr := ⟨wr, rfl⟩
    have hzB := hB.size
    by_cases hlt : k < N
    · have hm1 : (k : Int) < N := by omega
      go_wp2_with fail
      go_loopw [8, 7] (fun v8 v7 wi => RsIn 3 N k n f wo v8 v7 wi) (fun v _ _ => n - (intOf v).toNat)
      case atStart => exact ⟨0, by omega, rfl, owns_empty wo _ (Nat.le_refl _) _ _, by (repeat (first | (with_reducible exact Below.refl _ _) | (with_reducible assumption) | ((with_reducible refine Below.alloc ?_ ?_ _); (rotate_left); (first | omega | (simp <;> omega))) | ((with_reducible refine Below.setCell ?_ ?_ _); (rotate_left); (first | omega | (simp <;> omega))) | (with_reducible refine Below.drew ?_) | (with_reducible refine below_drewN ?_ _)))⟩
      case round =>
        obtain ⟨i, hi, rfl, hin, hBi⟩ := hrel
        have hzi := hBi.size
        have hlen := bk_len f N i k
        by_cases hlt2 : i < n
        · have hm2 : (i : Int) < n := by omega
          obtain ⟨b, off, rfl, hbl, hc⟩ := (HR.out.below (hB.trans (hBi.mono hzB))) (by omega)
          have c0 := hc i hlt2
          clear hc
          obtain ⟨i1, i2⟩ := hI i hlt2
          have hsd := shOf_bd (f i) HG.out
          have HK := hide (bk_succ f N i k)
          go_wp2_with fail
          refine (rof_any (f i) N i1 i2 _).mono ?_
          rintro e w1 ⟨rfl, hb⟩
          have hsz := hb.size
          have c1 := (hb.cell (p := ⟨b, off + i, none⟩) hbl).trans c0
          have hin1 := owns_below hin hb
          by_cases hs : shOf (f i) N = (k : Int)
          · have hs1 : (shOf (f i) N == (k : Int)) = true := beq_iff_eq.2 hs
            have HS2 := hide hs
            clear hs
            go_wp2_with (at_builtin; go_loud (refine wpList_append_own2 _ rfl (.tmp 34) (.tmp 39) 25 rfl wo.heap.size 3 i0 (.int .i64 0) 1 8 Tryd.underlying25 hi0 hz00 hz1 hz2 rfl (by decide) _ _ _ rfl (hin1.alloc _) ⟨w1.heap.size, 0, none⟩ 1 1 [.int .i64 (f i)] rfl rfl (news1 (by simp [go_sem])) one1 (by simp only [maxLen]; omega) (by omega) (by simp; omega) ?_); intro A1 c1 w2 ho hg hv)
            go_roundw
            case rel =>
              refine ⟨i + 1, by omega, by go_num, ?_, ?_⟩
              · rw [HK.out, if_pos HS2.out, ints_append, List.length_append]; exact ho
              · exact ((hBi.trans (hb.mono hzi)).alloc (by omega) _).grown hg (by simp; omega) (own_ge hin1)
            case measure => simp [intOf]; omega
          · have hs1 : (shOf (f i) N == (k : Int)) = false := beq_eq_false_iff_ne.2 hs
            have HS2 := hide hs
            clear hs
            go_wp2_with fail
            go_roundw
            case rel => exact ⟨i + 1, by omega, by go_num, by rw [HK.out, if_neg HS2.out]; exact hin1, hBi.trans (hb.mono hzi)⟩
            case measure => simp [intOf]; omega
        · obtain rfl : i = n := by omega
          obtain ⟨A7, c7, rfl⟩ : ∃ A' c', u7 = .slice A' (bk f N i k).length c' := by
            obtain ⟨A', c', h, _⟩ := own_rowI hin
            exact ⟨A', c', h⟩
          have hown1 := owns_below hown hBi
          go_wp2_with (at_builtin; go_loud (refine wpList_append_own2 _ rfl (.tmp 41) (.tmp 43) 26 rfl w.heap.size 25 j0 (.slice none 0 0) 1 24 Tryd.underlying26 hj0 hy00 hy1 hy2 rfl (by decide) u5 _ _ rfl (hown1.alloc _) ⟨wr.heap.size, 0, none⟩ 1 1 [.slice A7 (bk f N i k).length c7] rfl rfl (news1 (by simp [go_sem])) one1s (by simp only [maxLen]; omega) (by omega) (by simp; omega) ?_); intro A1 c1 w2 ho hg hv)
          go_roundw
          case rel =>
            refine ⟨k + 1, fun j => if j = k then .slice A7 (bk f N i k).length c7 else V j, by omega, by go_num, ?_, fun j hj => ?_, ?_⟩
            · rw [← rows_list]; exact ho
            · have hne : (Value.slice A7 (bk f N i k).length c7).ownBlock = none ∨ (Value.slice A7 (bk f N i k).length c7).ownBlock ≠ u5.ownBlock := by
                cases h7 : (Value.slice A7 (bk f N i k).length c7).ownBlock with
                | none => exact .inl rfl
                | some q =>
                  right
                  intro e'
                  have g1 := own_ge hin q h7
                  have g2 := (hown.lt q e'.symm).2
                  omega
              by_cases hjk : j = k
              · subst hjk
                simp only [if_true]
                refine ⟨owns_rebase ((hin.alloc _).kept hg hne) hzB, ?_⟩
                rcases hv with hv | ⟨q, hv, hq⟩
                · rw [hv]; exact hne
                · cases h7 : (Value.slice A7 (bk f N i j).length c7).ownBlock with
                  | none => exact .inl rfl
                  | some q' =>
                    right
                    rw [hv]
                    intro e'
                    have g1 := (hin.lt q' h7).2
                    simp at e' hq
                    omega
              · simp only [if_neg hjk]
                have hj2 := hV j (by omega)
                refine ⟨((owns_below hj2.1 hBi).alloc _).kept hg hj2.2, ?_⟩
                rcases hv with hv | ⟨q, hv, hq⟩
                · rw [hv]; exact hj2.2
                · cases h7 : (V j).ownBlock with
                  | none => exact .inl rfl
                  | some q' =>
                    right
                    rw [hv]
                    intro e'
                    have g1 := (hj2.1.lt q' h7).2
                    simp at e' hq
                    omega
            · exact ((hB.trans (hBi.mono hzB)).alloc (by omega) _).grown hg (by simp; omega) (own_ge hown)
          case measure => simp [intOf]; omega
    · obtain rfl : k = N := by omega
      obtain ⟨A', c', hv, hrow⟩ := rows_read hown (fun j hj => (hV j hj).1)
      go_wp2_with fail
      go_ret
      exact ⟨A', c', by rw [HS.out, ← hv]; rfl, by rw [HS.out]; exact hrow, hB⟩
theorem rsplit_any (A : Option Addr) (n c : Nat) (f : Nat → Int) (hn : n ≤ 100) (hI : ∀ k, k < n → IIn (f k)) (N : Int) (w : World) (hr : RowI w A n f) :
    Calls Tryd.prog 12 #[.slice A n c, .int .i64 N] w (SpRet n f N w) := by
  by_cases hg : good8 N = true
  · obtain ⟨M, rfl⟩ : ∃ M : Nat, N = M := ⟨N.toNat, by have := good8_iff.1 hg; omega⟩
    have := good8_iff.1 hg
    exact rsplit_good A n c f hn hI M (by omega) (by omega) w hr
  · have HG := hide (show good8 N = false by simpa using hg)
    have HS := hide (show shs N = 0 by unfold shs; rw [if_neg hg])
    clear hg
    go_enter Tryd.func12, Tryd.ntmps12
    go_wp2_with fail
    refine (rgood_any _ _).mono ?_
    rintro e w1 ⟨rfl, rfl⟩
    rw [HG.out]
    go_wp2_with fail
    go_ret
    exact ⟨_, 0, by rw [HS.out]; rfl, fun h => by rw [HS.out] at h; omega, by (repeat (first | (with_reducible exact Below.refl _ _) | (with_reducible assumption) | ((with_reducible refine Below.alloc ?_ ?_ _); (rotate_left); (first | omega | (simp <;> omega))) | ((with_reducible refine Below.setCell ?_ ?_ _); (rotate_left); (first | omega | (simp <;> omega))) | (with_reducible refine Below.drew ?_) | (with_reducible refine below_drewN ?_ _)))⟩
end Go.Proofs.YtapfofnicbhoeaaDoor
