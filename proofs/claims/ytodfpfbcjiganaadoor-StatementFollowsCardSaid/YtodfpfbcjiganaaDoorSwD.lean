/- numbered: books whose entries have the Ids from 1 on. -/
import Derived.Test.YtodfpfbcjiganaaDoorSwC
import Derived.Laws.OwnMore
namespace Go.Proofs.YtodfpfbcjiganaaDoor
set_option linter.unusedSimpArgs false
set_option linter.unusedVariables false
open Go.RowKit

def numA (E : Nat → LEnt) (k : Nat) : LEnt := { E k with id := (k : Int) + 1 }
def numE (E : Nat → LEnt) (m : Nat) (k : Nat) : LEnt := if k < m then numA E k else E k
theorem numE_cells (E : Nat → LEnt) (n k : Nat) (hk : k < n) : (cellsOfE (numE E k) n).set (k * 10) (.int .i64 ((k : Int) + 1)) = cellsOfE (numE E (k + 1)) n := by
  refine List.ext_getElem? fun j => ?_
  rw [List.getElem?_set]
  rcases Nat.lt_or_ge j (n * 10) with hj | hj
  · have h1 : j / 10 < n := by omega
    have h2 : j % 10 < 10 := by omega
    have h3 : j = j / 10 * 10 + j % 10 := by omega
    have e1 := cellsOfE_at (numE E k) n _ _ h1 h2
    have e2 := cellsOfE_at (numE E (k + 1)) n _ _ h1 h2
    rw [← h3] at e1 e2
    rw [e2, e1, cellsOfE_len]
    by_cases hq : k * 10 = j
    · rw [if_pos hq, if_pos (by omega)]
      have hk1 : j / 10 = k := by omega
      have hk2 : j % 10 = 0 := by omega
      rw [hk1, hk2]
      unfold numE
      rw [if_pos (by omega)]
      rfl
    · rw [if_neg hq]
      congr 1
      unfold numE
      by_cases ha : j / 10 < k
      · rw [if_pos ha, if_pos (by omega)]
      · by_cases hb : j / 10 = k
        · rw [if_neg ha, if_pos (by omega), hb]
          have hm : j % 10 ≠ 0 := by omega
          generalize j % 10 = r at hm h2
          match r, hm, h2 with
          | 1, _, _ | 2, _, _ | 3, _, _ | 4, _, _ | 5, _, _ | 6, _, _ | 7, _, _ | 8, _, _ | 9, _, _ => rfl
        · rw [if_neg ha, if_neg (by omega)]
  · rw [if_neg (by omega), List.getElem?_eq_none (by rw [cellsOfE_len]; exact hj), List.getElem?_eq_none (by rw [cellsOfE_len]; exact hj)]
theorem numE_0 (E : Nat → LEnt) (n : Nat) : cellsOfE (numE E 0) n = cellsOfE E n := by
  have : numE E 0 = E := by funext k; unfold numE; rw [if_neg (by omega)]
  rw [this]
theorem all_set {C : Array Value} {i : Nat} {v : Value} (h : C.all (·.oneCell') = true) (hv : v.oneCell' = true) : (C.setIfInBounds i v).all (·.oneCell') = true := by
  rw [Array.all_eq_true] at h ⊢
  intro j hj
  rw [Array.getElem_setIfInBounds (by simpa using hj)]
  split
  · exact hv
  · exact h j (by simpa using hj)
theorem own_empty {w : World} {base g size : Nat} {e : TypeId} (hg : g = w.heap.size) (hb : base ≤ w.heap.size) : (w.alloc (.cells #[] e)).ownsRow base e size (.slice (some ⟨g, 0, none⟩) 0 0) 0 [] := by
  subst hg
  exact World.ownsRow_lit w #[] 0 hb (by decide) (by simp)
theorem own_form {w : World} {base n c size : Nat} {e : TypeId} {A : Option Addr} {xs : List Value} (h : w.ownsRow base e size (.slice A n c) n xs) (hn : 0 < n) : ∃ g, A = some ⟨g, 0, none⟩ ∧ base ≤ g := by
  rcases h.2 with ⟨h0, _⟩ | ⟨g, cap, cur, hv, hg, _⟩
  · injection h0 with _ h1 _; omega
  · injection hv with h1 _ _
    exact ⟨g, h1, hg⟩
theorem own_cellsE {w : World} {base n c : Nat} {e : TypeId} {A : Option Addr} {E : Nat → LEnt} (h : w.ownsRow base e 10 (.slice A n c) n (cellsOfE E n)) (hl : ∀ k, k < n → RowLeg w (E k).lA (E k).ln (E k).legs) : RowEnt w A n E := by
  have hlen : ((List.range n).map E).length = n := by simp
  have hat : ∀ k, k < n → atE ((List.range n).map E) k = E k := fun k hk => by rw [atE_at (by simpa using hk)]; simp
  unfold cellsOfE at h
  have h2 : w.ownsRow base e 10 (.slice A ((List.range n).map E).length c) ((List.range n).map E).length (((List.range n).map E).flatMap entL) := by rw [hlen]; exact h
  obtain ⟨A', c', hv, hrow⟩ := own_rowEnt h2 (fun k hk => by rw [hat k (by omega)]; exact hl k (by omega))
  injection hv with e1 _ _
  subst e1
  rw [hlen] at hrow
  exact hrow.congr hat
def NumI (E : Nat → LEnt) (n base : Nat) (T : TypeId) (A : Option Addr) (c : Nat) (b0 b1 : Nat) (o0 o1 : Obj) (W : World) (v : Value) (wr : World) : Prop :=
  ∃ k : Nat, k ≤ n ∧ v = .int .i64 k ∧ wr.ownsRow base T 10 (.slice A n c) n (cellsOfE (numE E k) n) ∧ Below b0 W wr ∧ wr.heap[b0]? = some o0 ∧ wr.heap[b1]? = some o1
theorem numE_all (E : Nat → LEnt) (n : Nat) : cellsOfE (numE E n) n = cellsOfE (numA E) n := by
  have : (List.range n).map (numE E n) = (List.range n).map (numA E) := List.map_congr_left (fun k hk => by unfold numE; rw [if_pos (List.mem_range.1 hk)])
  unfold cellsOfE
  rw [this]
def NumRet (T : TypeId) (aA : Option Addr) (an ac jn : Nat) (E : Nat → LEnt) (w : World) (e : Ending) (w' : World) : Prop :=
  ∃ C A c, e = .returned (.agg C) ∧ Bks C aA an ac A jn c ∧ C.all (·.oneCell') = true ∧ w'.ownsRow (w.heap.size + 1 + 1) T 10 (.slice A jn c) jn (cellsOfE (numA E) jn) ∧ Below w.heap.size w w'
set_option maxRecDepth 4000 in
set_option maxHeartbeats 4000000 in
theorem numbered_any (C : Array Value) (aA : Option Addr) (an ac : Nat) (jA : Option Addr) (jn jc : Nat) (hC : Bks C aA an ac jA jn jc) (hO : C.all (·.oneCell') = true) (E : Nat → LEnt) (hjn : jn ≤ 1000000) (w : World) (hj : Jrn w jA jn E) :
    Calls Tryd.prog 20 #[.agg C] w (NumRet 54 aA an ac jn E w) := by
  obtain ⟨i0', hi0, hi1, hi2, hi3⟩ := info3 ent_info
  have I0 := hide hi0
  have I1 := hide hi1
  have I2 := hide hi2
  have I3 := hide hi3
  obtain ⟨z0, Z, hz0, hz1, hz2⟩ := sm_zero
  have HZ := hide (And.intro hz0 hz1)
  have HZ2 := hide (show Z.size = C.size by rw [hz2, hC.size])
  have HW := hide (show (Tryd.prog.info? 33).map (·.size) = some C.size by rw [hC.size]; kernel_rfl)
  have HC := hide hC
  have HO := hide hO
  have HJ := hide hj
  have h19 := hC.jou
  clear hC hO hj hi0 hi1 hi2 hi3 hz0 hz1 hz2
  go_enter Tryd.func20, Tryd.ntmps20
  go_upto_region 1 with (with_reducible refine wpList_alloc_row rfl 33 rfl (some 2) rfl z0 HZ.out.1 Z HZ.out.2 (w.heap.size + 1) (by simp) ?_)
  go_upto_region 2 with (at_builtin; go_loud (refine wpList_append_rowS _ rfl (.tmp 5) (.tmp 7) 29 rfl (w.heap.size + 1 + 1) 54 i0' (.agg #[.int .i64 0, .int .i64 0, .int .i64 0, .int .i64 0, .int .i64 0, .int .i64 0, .string ⟨#[]⟩, .string ⟨#[]⟩, .slice none 0 0, .int .u64 0]) 10 112 Tryd.underlying29 I0.out I1.out I2.out I3.out rfl (by decide) _ 0 [] rfl (own_empty (by simp) (by simp)) jA jn jc rfl (fun k => entC (E k)) (HJ.out.row.below (by (repeat (first | (with_reducible exact Below.refl _ _) | (with_reducible assumption) | ((with_reducible refine Below.alloc ?_ ?_ _); (rotate_left); (first | omega | (simp <;> omega))) | ((with_reducible refine Below.setCell ?_ ?_ _); (rotate_left); (first | omega | (simp <;> omega))) | (with_reducible refine Below.drew ?_) | (with_reducible refine below_drewN ?_ _))))).1 (cellsOfE E jn) (cellsOfE_len E jn) (cellsOfE_at E jn) (cellsOfE_ones E jn) (by simp only [maxLen]; omega) (by omega) (by simp) ?_); intro A c w2 ho hg hv)
  have hb2 := below_grown (B := w.heap.size + 1 + 1) hg (by simp) (fun k hk => Nat.le_of_eq (Option.some.inj hk))
  simp only [List.nil_append, Nat.zero_add] at ho
  have X2 := blk_below hb2 (by omega) (blk_under (blk_under (blk_new (w := w) (o := .cells C 33) rfl)))
  have Y2 := blk_below hb2 (by omega) (blk_under (blk_new (w := w.alloc (.cells C 33)) (o := .cells Z 33) (k := w.heap.size + 1) (by simp)))
  have B2 : Below w.heap.size w w2 := Below.trans (by (repeat (first | (with_reducible exact Below.refl _ _) | (with_reducible assumption) | ((with_reducible refine Below.alloc ?_ ?_ _); (rotate_left); (first | omega | (simp <;> omega))) | ((with_reducible refine Below.setCell ?_ ?_ _); (rotate_left); (first | omega | (simp <;> omega))) | (with_reducible refine Below.drew ?_) | (with_reducible refine below_drewN ?_ _)))) (hb2.mono (by omega))
  have HX := hide X2
  have HY := hide Y2
  have HO2 := hide ho
  have HB2 := hide B2
  clear X2 Y2 hb2 ho hg hv B2 h19
  go_wp2_with fail
  go_loopw [4] (fun v wr => NumI E jn (w.heap.size + 1 + 1) 54 A c w.heap.size (w.heap.size + 1) (.cells C 33) (.cells Z 33) w v wr) (fun v _ => jn - (intOf v).toNat)
  case atStart => exact ⟨0, by omega, rfl, by rw [numE_0]; exact HO2.out, HB2.out, HX.out, HY.out⟩
  case round =>
    obtain ⟨k, hk, rfl, hown, hb, hx, hy⟩ := hrel
    have B3 := hide hb
    have X3 := hide hx
    have Y3 := hide hy
    have z3 := hb.size
    clear hb hx hy
    by_cases hlt : k < jn
    · have hm : (k : Int) < jn := by omega
      have HK := hide hlt
      have hk0 : (0 : Int) ≤ k := by omega
      obtain ⟨g, rfl, hgb⟩ := own_form hown (by omega)
      have c0 := (hown.cellAt (k * 10) (by omega)).trans (cellsOfE_at (numE E k) jn k 0 hlt (by decide))
      have f0 := hown.frozenAt (k * 10)
      have HOW := hide hown
      have hgl := (hown.lt g rfl).2
      clear hown hlt hk
      go_wp2_with fail
      go_roundw
      case rel => exact ⟨k + 1, HK.out, by go_num, by rw [← numE_cells E jn k HK.out]; exact (HOW.out.stored (k * 10) _).1, Below.setCell B3.out (by show _ ≤ g; omega) _, blk_setOther (p := ⟨g, k * 10, none⟩) (show w.heap.size ≠ g by omega) X3.out, blk_setOther (p := ⟨g, k * 10, none⟩) (show w.heap.size + 1 ≠ g by omega) Y3.out⟩
      case measure => have := HK.out; simp [intOf]; omega
    · obtain rfl : k = jn := by omega
      have HOW := hide hown
      have d19 := (cell_of_cells X3.out 19).trans HC.out.jou
      have f19 := free_of_cells X3.out 19
      have HWD := hide (show (Tryd.prog.info? 33).map (·.size) = some (C.setIfInBounds 19 (.slice A k c)).size by rw [Array.size_setIfInBounds]; exact HW.out)
      have HZD := hide (show Z.size = (C.setIfInBounds 19 (.slice A k c)).size by rw [Array.size_setIfInBounds]; exact HZ2.out)
      have HOD := hide (all_set (i := 19) (v := .slice A k c) HO.out rfl)
      clear hown hlt hk
      go_wp2_with (first
        | (with_reducible refine wpList_load_row rfl 33 (.tmp 1) rfl w.heap.size rfl 33 (C.setIfInBounds 19 (.slice A k c)) (0, 0) _ (blk_setCell X3.out) Tryd.underlying33 rfl HWD.out ?_)
        | ((with_reducible refine wpList_store_newrow2 rfl 33 (.tmp 2) (.tmp 23) rfl rfl (w.heap.size + 1) (C.setIfInBounds 19 (.slice A k c)) rfl rfl 33 Z (blk_setOther (p := ⟨w.heap.size, 19, none⟩) (v := .slice A k c) (show w.heap.size + 1 ≠ w.heap.size by omega) Y3.out) HWD.out HZD.out HOD.out ?_); intro w4 hb hz hx hk4))
      have B4 : Below w.heap.size w w4 := B3.out.trans (Below.trans (by (repeat (first | (with_reducible exact Below.refl _ _) | (with_reducible assumption) | ((with_reducible refine Below.alloc ?_ ?_ _); (rotate_left); (first | omega | (simp <;> omega))) | ((with_reducible refine Below.setCell ?_ ?_ _); (rotate_left); (first | omega | (simp <;> omega))) | (with_reducible refine Below.drew ?_) | (with_reducible refine below_drewN ?_ _)))) (hb.mono (by omega)))
      have hown4 := own_keep (owns_else HOW.out (p := ⟨w.heap.size, 19, none⟩) (by show w.heap.size < _; omega) (.slice A k c)) hk4 (by omega)
      refine bodyPost_ret (v := .agg (C.setIfInBounds 19 (.slice A k c))) (Go.results_cell_row (by rfl) _ _ (w.heap.size + 1) 33 _ (0, 0) _ rfl hx Tryd.underlying33 rfl HWD.out) rfl ⟨_, A, c, rfl, bks_set HC.out A k c, HOD.out, by rw [← numE_all]; exact hown4, B4⟩
end Go.Proofs.YtodfpfbcjiganaaDoor
