/- Texts laid together: TpV. -/
import Derived.Test.YtpghciiifnjimaaGreatDoorXTpU
import Derived.Test.YtpghciiifnjimaaGreatDoorXK0
namespace Go.Proofs.YtpghciiifnjimaaGreatDoor
theorem sbU1 {N : Nat} {X : List Nat} {W w : World} (h : SB N X W w := by (repeat (first | (with_reducible exact SB.refl) | (with_reducible exact hHeld) | (with_reducible refine SB.drew ?_) | (with_reducible refine SB.drewN ?_ _) | ((with_reducible refine SB.alloc ?_ ?_ _); (rotate_left); (first | omega | (simp <;> omega))) | ((with_reducible refine SB.setCell ?_ ?_ _); (rotate_left); (focus (first | (simp; done) | (right; first | omega | (simp <;> omega))))) | ((with_reducible refine SB.below ?_ hbS ?_); (rotate_left); (first | omega | (simp <;> omega))) | ((with_reducible refine SB.below ?_ hbS1 ?_); (rotate_left); (first | omega | (simp <;> omega))) | ((with_reducible refine SB.below ?_ hbS2 ?_); (rotate_left); (first | omega | (simp <;> omega))) | ((with_reducible refine SB.below ?_ hbS3 ?_); (rotate_left); (first | omega | (simp <;> omega))) | ((with_reducible refine SB.below ?_ hbS4 ?_); (rotate_left); (first | omega | (simp <;> omega))) | ((with_reducible refine SB.below ?_ hbS5 ?_); (rotate_left); (first | omega | (simp <;> omega))) | ((with_reducible refine SB.below ?_ hbS6 ?_); (rotate_left); (first | omega | (simp <;> omega))) | ((with_reducible refine SB.below ?_ hbS7 ?_); (rotate_left); (first | omega | (simp <;> omega))) | (with_reducible refine SB.undrew ?_) | ((with_reducible refine SB.congr ?_ ?_); (rotate_left); (focus (simp; done))) | ((with_reducible refine SB.realloc ?_ ?_ ?_); (rotate_left); (focus (simp; done)); (focus (simp; done)))))) : SB N X W w := h
set_option maxRecDepth 4000
set_option linter.unusedSimpArgs false
set_option linter.unusedVariables false
open Go.RowKit
theorem srow3 {w : World} {b L : Nat} {t : TypeId} {s0 s1 s2 : ByteArray} (h : w.heap[b]? = some (.cells #[.string s0, .string s1, .string s2] t (0, 0))) (h0 : s0.size ≤ L) (h1 : s1.size ≤ L) (h2 : s2.size ≤ L) : TRow w (some ⟨b, 0, none⟩) 3 L := by
 refine ⟨.inr ⟨_, _, rfl⟩, fun k => match k with | 0 => s0 | 1 => s1 | _ => s2, fun k hk => ?_, fun _ => ⟨b, 0, rfl, heap_lt h, fun k j hk hj => ?_⟩⟩
 ·match k, hk with
  | 0, _ => exact h0
  | 1, _ => exact h1
  | 2, _ => exact h2
 ·obtain rfl : j = 0 := by omega
  have e0 : 0 + (k * 1 + 0) = k := by omega
  rw [e0, cell_of_cells h]
  match k, hk with
  | 0, _ => rfl
  | 1, _ => rfl
  | 2, _ => rfl
theorem srow9 {w : World} {b L : Nat} {t : TypeId} {s0 s1 s2 s3 s4 s5 s6 s7 s8 : ByteArray} (h : w.heap[b]? = some (.cells #[.string s0, .string s1, .string s2, .string s3, .string s4, .string s5, .string s6, .string s7, .string s8] t (0, 0)))
  (h0 : s0.size ≤ L) (h1 : s1.size ≤ L) (h2 : s2.size ≤ L) (h3 : s3.size ≤ L) (h4 : s4.size ≤ L) (h5 : s5.size ≤ L) (h6 : s6.size ≤ L) (h7 : s7.size ≤ L) (h8 : s8.size ≤ L) : TRow w (some ⟨b, 0, none⟩) 9 L := by
 refine ⟨.inr ⟨_, _, rfl⟩, fun k => match k with | 0 => s0 | 1 => s1 | 2 => s2 | 3 => s3 | 4 => s4 | 5 => s5 | 6 => s6 | 7 => s7 | _ => s8, fun k hk => ?_, fun _ => ⟨b, 0, rfl, heap_lt h, fun k j hk hj => ?_⟩⟩
 ·match k, hk with
  | 0, _ => exact h0
  | 1, _ => exact h1
  | 2, _ => exact h2
  | 3, _ => exact h3
  | 4, _ => exact h4
  | 5, _ => exact h5
  | 6, _ => exact h6
  | 7, _ => exact h7
  | 8, _ => exact h8
 ·obtain rfl : j = 0 := by omega
  have e0 : 0 + (k * 1 + 0) = k := by omega
  rw [e0, cell_of_cells h]
  match k, hk with
  | 0, _ => rfl
  | 1, _ => rfl
  | 2, _ => rfl
  | 3, _ => rfl
  | 4, _ => rfl
  | 5, _ => rfl
  | 6, _ => rfl
  | 7, _ => rfl
  | 8, _ => rfl
theorem own_trow {w : World} {base n L : Nat} {e : TypeId} {A : Option Addr} {c : Nat} {l : List ByteArray} (h : w.ownsRow base e 1 (.slice A n c) n (strs l)) (hL : ∀ s ∈ l, s.size ≤ L) : n ≤ c ∧ TRow w A n L := by
 have hl : (strs l).length = n := by have := h.1; omega
 rcases h.2 with ⟨e2, h0⟩ | ⟨g, cap, cur, hv, hg, hh, h3, h4, h5, h6⟩
 ·injection e2 with e3 e4 e5
  exact ⟨by omega, .inl ⟨e3, e4⟩, fun _ => ⟨#[]⟩, fun k hk => by omega, fun hn => by omega⟩
 ·injection hv with e1 e4 e5
  subst e1
  refine ⟨by omega, .inr ⟨_, _, rfl⟩, fun k => l.getD k ⟨#[]⟩, fun k hk => ?_, fun _ => ⟨g, 0, rfl, heap_lt hh, fun k j hk hj => ?_⟩⟩
  ·have hk2 : k < l.length := by simpa [strs] using (by omega : k < (strs l).length)
   have e : l.getD k ⟨#[]⟩ = l[k] := by simp [List.getD, hk2]
   show (l.getD k ⟨#[]⟩).size ≤ L
   rw [e]
   exact hL _ (List.getElem_mem hk2)
  ·obtain rfl : j = 0 := by omega
   have hk2 : k < l.length := by simpa [strs] using (by omega : k < (strs l).length)
   have f1 : (strs l)[k]? = some (.string (l.getD k ⟨#[]⟩)) := by simp [strs, hk2, List.getD]
   rw [← h6, List.getElem?_take] at f1
   split at f1
   ·have e0 : 0 + (k * 1 + 0) = k := by omega
    rw [e0]
    exact (cell_of_cells hh _).trans (by simpa using f1)
   ·cases f1
theorem SB.grownX {N : Nat} {X : List Nat} {W w w' : World} {row : Option Nat} (h : SB N X W w) (hg : w.grownBy w' row) (hN : N ≤ w.heap.size) (hr : ∀ k, row = some k → k ∈ X ∨ N ≤ k) : SB N X W w' := fun b o hb hX => by
 rw [← h b o hb hX]
 exact World.cell?_of_block (w := w) (a := ⟨b, o, none⟩) (hg.block b (Nat.lt_of_lt_of_le hb hN) (fun e => by
  rcases hr b e.symm with h1 | h1
  ·exact hX h1
  ·omega))
def EcI (n w0 : Nat) (W : World) (v3 v4 : Value) (wr : World) : Prop := ∃ (k c : Nat) (A : Option Addr) (l : List ByteArray), k ≤ n ∧ v4 = .int .i64 k ∧ v3 = .slice A k c ∧ wr.ownsRow w0 9 1 (.slice A k c) k (strs l) ∧ (∀ s ∈ l, s.size ≤ 200) ∧ Below w0 W wr
set_option maxRecDepth 8000 in
set_option maxHeartbeats 8000000 in
theorem wenc19_any {ck : Nat → Tr} (kn : KnOK 11 ck) (hS : EnS ck) (w : World) (X : Array Value) (hX : ElT (Old w) w 11 ck X) : Calls Tryz.prog 201 #[.agg X] w (TxO 30000 w) := by
 have hXs : X.size = 10 := hX.size
 obtain ⟨z0, _, e0, i0⟩ := rd_int (hX.rd 0 (by decide)) (kn 0 (by decide))
 obtain ⟨z1, _, e1, i1⟩ := rd_int (hX.rd 1 (by decide)) (kn 1 (by decide))
 obtain ⟨z2, _, e2, i2⟩ := rd_int (hX.rd 2 (by decide)) (kn 2 (by decide))
 obtain ⟨z3, _, e3, i3⟩ := rd_int (hX.rd 3 (by decide)) (kn 3 (by decide))
 obtain ⟨z4, _, e4, i4⟩ := rd_int (hX.rd 4 (by decide)) (kn 4 (by decide))
 obtain ⟨z5, _, e5, i5⟩ := rd_int (hX.rd 5 (by decide)) (kn 5 (by decide))
 obtain ⟨s6, q6, e6, _⟩ := rd_str (hX.rd 6 (by decide)) (kn 6 (by decide))
 obtain ⟨s7, q7, e7, _⟩ := rd_str (hX.rd 7 (by decide)) (kn 7 (by decide))
 obtain ⟨n, c, q8, hk, A, cap, C, e8, _, hA⟩ := rd_row (e := 10) (hX.rd 8 (by decide)) (kn 8 (by decide))
 obtain ⟨h6, h7, h8, h9⟩ := hS
 rw [q6] at h6
 rw [q7] at h7
 rw [q8] at h8 h9
 have h6 : s6.size ≤ 48 := h6
 have h7 : s7.size ≤ 64 := h7
 have hn12 : n ≤ 12 := h8
 have HC9 := hide (show ∀ k, k < n → (strOf (lfv (c k 2))).size = 3 from h9)
 have g0 : X[0]? = some (.int .i64 z0) := at_eq hXs (by decide) e0
 have g1 : X[1]? = some (.int .i64 z1) := at_eq hXs (by decide) e1
 have g2 : X[2]? = some (.int .i64 z2) := at_eq hXs (by decide) e2
 have g3 : X[3]? = some (.int .i64 z3) := at_eq hXs (by decide) e3
 have g4 : X[4]? = some (.int .i64 z4) := at_eq hXs (by decide) e4
 have g5 : X[5]? = some (.int .i64 z5) := at_eq hXs (by decide) e5
 have g6 : X[6]? = some (.string s6) := at_eq hXs (by decide) e6
 have g7 : X[7]? = some (.string s7) := at_eq hXs (by decide) e7
 have g8 : X[8]? = some (.slice A n cap) := at_eq hXs (by decide) e8
 have HI := hide (And.intro i0 (And.intro i1 (And.intro i2 (And.intro i3 (And.intro i4 i5)))))
 have HK := hide hk
 have HA := hide hA
 obtain ⟨i0', hi0, hz00, hz1, hz2⟩ := info_parts str_info
 clear e0 e1 e2 e3 e4 e5 e6 e7 e8 q6 q7 q8 hk hA hX hXs kn h8 h9 i0 i1 i2 i3 i4 i5
 go_enter Tryz.func201, Tryz.ntmps201
 go_wp2_with fail
 go_loopw [3, 4] (fun v3 v4 wr => EcI n (w.heap.size + 1) (w.alloc (.cells X 53)) v3 v4 wr) (fun _ v _ => n - (intOf v).toNat)
 case atStart => exact ⟨0, 0, none, [], by omega, rfl, rfl, ⟨rfl, .inl ⟨rfl, rfl⟩⟩, (fun s hs => by cases hs), Below.refl _ _⟩
 case round =>
  obtain ⟨k, p, B, l, hkn, rfl, rfl, ho, hl, hb⟩ := hrel
  have H0 := hide hb
  have HO := hide ho
  have HL := hide hl
  have zH : w.heap.size + 1 ≤ wr.heap.size := by simpa using hb.size
  have q1B : Below w.heap.size w wr := qB hb
  have q1z := hb.size
  try simp at q1z
  have q1t : w.heap.size ≤ wr.heap.size := (by omega)
  obtain ⟨q1s0, q1n0_0, q1n0_1, q1n0_2⟩ := kB wr.heap.size w.heap.size
  obtain ⟨q1c0_0, q1c0_1, q1c0_2, q1c0_3, q1c0_4, q1c0_5, q1c0_6, q1c0_7, q1c0_8, q1f0⟩ := kC9 hb w.heap.size
  simp [go_sem, *] at q1c0_0 q1c0_1 q1c0_2 q1c0_3 q1c0_4 q1c0_5 q1c0_6 q1c0_7 q1c0_8 q1f0
  have q1o := belO q1B
  clear hb
  have QL := hide q1B
  clear ho hl
  by_cases hlt : k < n
  ·have hm : (k : Int) < n := by omega
   have hk0 : (0 : Int) ≤ k := by omega
   have HLT := hide hlt
   obtain ⟨b, off, rfl, hbl, hc⟩ := (HA.out.below QL.out).all (by decide) (by omega)
   obtain ⟨y0, _, f0, j0⟩ := rd_int (HA.out.rd k 0 hlt (by decide)) (HK.out.wt k 0 hlt (by decide))
   obtain ⟨y1, _, f1, j1⟩ := rd_int (HA.out.rd k 1 hlt (by decide)) (HK.out.wt k 1 hlt (by decide))
   obtain ⟨t2, p2, f2, _⟩ := rd_str (HA.out.rd k 2 hlt (by decide)) (HK.out.wt k 2 hlt (by decide))
   have c0 : wr.cell? ⟨b, off + k * 3, none⟩ = some (.int .i64 y0) := by have hcc := hc k 0 hlt (by decide); rw [f0] at hcc; exact hcc
   have c1 : wr.cell? ⟨b, off + k * 3 + 1, none⟩ = some (.int .i64 y1) := by have hcc := hc k 1 hlt (by decide); rw [f1] at hcc; exact hcc
   have c2 : wr.cell? ⟨b, off + k * 3 + 2, none⟩ = some (.string t2) := by have hcc := hc k 2 hlt (by decide); rw [f2] at hcc; exact hcc
   have ht2 : t2.size ≤ 3 := by have h := HC9.out k hlt; rw [p2] at h; exact Nat.le_of_eq h
   have HJ0 := hide j0
   have HJ1 := hide j1
   clear f0 f1 f2 p2 hc hlt hkn j0 j1
   rcases HO.out.2 with ⟨hv, hv0⟩ | ⟨gB, capB, curB, hv, hbg, hhB, _⟩
   ·obtain rfl : B = none := by injection hv
    clear hv hv0
    go_wp2_with fail
    refine ord_start (SB (wr.heap.size + 1) [] _) 14 (preB 0 14) (by kernel_rfl) (by kernel_rfl) (by kernel_rfl) SB.refl.drew (fun hHeld => ?_)
    refine oS (i := 0) (preB 1 13) rfl hHeld ?_
    (try simp only [Act.put, putS])
    refine oS (i := 1) (preB 2 12) rfl hHeld ?_
    (try simp only [Act.put, putS])
    refine oS (i := 2) (preB 3 11) rfl hHeld ?_
    (try simp only [Act.put, putS])
    refine oS (i := 4) #[true, true, true, false, true, false, false, false, false, false, false, false, false, false] rfl hHeld ?_
    (try simp only [Act.put, putS])
    refine oS (i := 5) #[true, true, true, false, true, true, false, false, false, false, false, false, false, false] rfl hHeld ?_
    (try simp only [Act.put, putS])
    refine oS (i := 7) #[true, true, true, false, true, true, false, true, false, false, false, false, false, false] rfl hHeld ?_
    (try simp only [Act.put, putS])
    refine oS (i := 8) #[true, true, true, false, true, true, false, true, true, false, false, false, false, false] rfl hHeld ?_
    (try simp only [Act.put, putS])
    refine wpAnyH_ready (rs := [3]) (by kernel_rfl) (by simp) ?_
    refine ord_run (i := 3) #[true, true, true, true, true, true, false, true, true, false, false, false, false, false] rfl (by kernel_rfl) (by rfl) (fun K hK => ?_) AllReadyH.nil
    go_simp
    go_wp2_with (go_at_call 248; refine (wint7_any _ HJ0.out.1 HJ0.out.2 _).mono ?_; rintro r w1 ⟨u0, hu0, rfl, hb⟩; have hbS := hb; have zz1 := hb.size; (simp at zz1); have hB1 := hb)
    refine hK.out _ _ ?_ (fun hHeld => ?_)
    ·exact sbU1
    clear hK K
    (try simp only [Act.put, putS])
    refine wpAnyH_ready (rs := [6]) (by kernel_rfl) (by simp) ?_
    refine ord_run (i := 6) (preB 9 5) rfl (by kernel_rfl) (by rfl) (fun K hK => ?_) AllReadyH.nil
    go_simp
    go_wp2_with (go_at_call 248; refine (wint7_any _ HJ1.out.1 HJ1.out.2 _).mono ?_; rintro r w2 ⟨u1, hu1, rfl, hb⟩; have hbS1 := hb; have zz2 := hb.size; (try simp at zz2); have hB2 := hb)
    refine hK.out _ _ ?_ (fun hHeld => ?_)
    ·exact sbU1
    clear hK K
    (try simp only [Act.put, putS])
    refine wpAnyH_ready (rs := [9]) (by kernel_rfl) (by simp) ?_
    refine ord_run (i := 9) (preB 10 4) rfl (by kernel_rfl) (by rfl) (fun K hK => ?_) AllReadyH.nil
    go_simp
    refine hK.out _ _ ?_ (fun hHeld => ?_)
    ·exact sbU1
    clear hK K
    (try simp only [Act.put, putS])
    refine wpAnyH_ready (rs := [10]) (by kernel_rfl) (by simp) ?_
    refine ord_run (i := 10) (preB 11 3) rfl (by kernel_rfl) (by rfl) (fun K hK => ?_) AllReadyH.nil
    go_simp
    go_wp2_with (go_at_call 247; refine (wpack_any (some ⟨w2.heap.size, 0, none⟩) 3 3 21 (by decide) (by decide) _ (srow3 (blk_new rfl) hu0 hu1 (by omega))).mono ?_; rintro r w3 ⟨tp, htp, rfl, hb⟩; have hbS2 := hb; have zz3 := hb.size; (simp at zz3); have hB3 := hb; have BT := hide (show Below wr.heap.size wr w3 from Below.trans (by (repeat (first | (with_reducible first | exact Below.refl _ _ | assumption | refine Below.drew ?_) | ((with_reducible first | refine Below.alloc ?_ ?_ _ | refine Below.setCell ?_ ?_ _); rotate_left; (first | omega | (simp <;> omega))))) : Below wr.heap.size wr _) ((hB1.mono (by simp)).trans ((hB2.mono (by omega)).trans (Below.trans (by (repeat (first | (with_reducible first | exact Below.refl _ _ | assumption | refine Below.drew ?_) | ((with_reducible first | refine Below.alloc ?_ ?_ _ | refine Below.setCell ?_ ?_ _); rotate_left; (first | omega | (simp <;> omega))))) : Below wr.heap.size w2 _) (hB3.mono (by simp; omega)))))))
    refine hK.out _ _ ?_ (fun hHeld => ?_)
    ·exact sbU1
    clear hK K
    (try simp only [Act.put, putS])
    refine wpAnyH_ready (rs := [11]) (by kernel_rfl) (by simp) ?_
    refine ord_run (i := 11) (preB 12 2) rfl (by kernel_rfl) (by rfl) (fun K hK => ?_) AllReadyH.nil
    go_simp
    refine hK.out _ _ ?_ (fun hHeld => ?_)
    ·exact sbU1
    clear hK K
    (try simp only [Act.put, putS])
    refine wpAnyH_ready (rs := [12]) (by kernel_rfl) (by simp) ?_
    refine ord_run (i := 12) (preB 13 1) rfl (by kernel_rfl) (by rfl) (fun K hK => ?_) AllReadyH.nil
    (refine wp_append_own2 (.tmp 18) (.tmp 29) 173 rfl (w.heap.size + 1) 9 i0' (.string ⟨#[]⟩) 1 16 Tryz.underlying173 hi0 hz00 hz1 hz2 rfl (by decide) _ _ _ rfl ((owns_below HO.out BT.out).alloc _) ⟨w3.heap.size, 0, none⟩ 1 1 (strs [tp]) rfl rfl (news1 (by simp [go_sem])) (strs_ones _) (by have := HLT.out; simp only [maxLen]; omega) (by have := HLT.out; omega) (by simp; omega) ?_; intro A4 c4 w4 ho4 hg4; have hs4 := hg4.size; (try simp at hs4); have HO4 := hide (show w4.ownsRow (w.heap.size + 1) 9 1 (.slice A4 (k + 1) c4) (k + 1) (strs (l ++ [tp])) from by rw [strs_app]; exact ho4); have B4 := hide (H0.out.trans ((BT.out.mono zH).trans (Below.trans (by (repeat (first | (with_reducible first | exact Below.refl _ _ | assumption | refine Below.drew ?_) | ((with_reducible first | refine Below.alloc ?_ ?_ _ | refine Below.setCell ?_ ?_ _); rotate_left; (first | omega | (simp <;> omega))))) : Below (w.heap.size + 1) w3 _) (below_grown (B := w.heap.size + 1) hg4 (by simp; omega) (own_ge HO.out))))); refine hK.out _ _ ?_ (fun hHeld => ?_); (rotate_left); (clear ho4); (rotate_left); (exact SB.grownX hHeld hg4 (by simp; omega) (fun k hk => by cases hk)); (clear hK K hg4))
    (try simp only [Act.put, putS])
    refine oS (i := 13) (preB 14 0) rfl hHeld ?_
    (try simp only [Act.put, putS])
    refine wpAnyH_done (by kernel_rfl) ?_ _
    go_wp2_with fail
    go_roundw
    case rel => exact ⟨k + 1, c4, A4, l ++ [tp], HLT.out, by go_num, rfl, HO4.out, fun s hs => by
     rcases List.mem_append.1 hs with h | h
     ·exact HL.out s h
     ·rw [List.mem_singleton.1 h]; omega, B4.out⟩
    case measure => have := HLT.out; simp [intOf]; omega
   ·obtain rfl : B = some ⟨gB, 0, none⟩ := by injection hv
    have gn : ¬ wr.heap.size = gB := by have := heap_lt hhB; omega
    clear hv hhB
    go_wp2_with fail
    refine ord_start (SB (wr.heap.size + 1) [gB] _) 14 (preB 0 14) (by kernel_rfl) (by kernel_rfl) (by kernel_rfl) SB.refl.drew (fun hHeld => ?_)
    refine oS (i := 0) (preB 1 13) rfl hHeld ?_
    (try simp only [Act.put, putS])
    refine oS (i := 1) (preB 2 12) rfl hHeld ?_
    (try simp only [Act.put, putS])
    refine oS (i := 2) (preB 3 11) rfl hHeld ?_
    (try simp only [Act.put, putS])
    refine oS (i := 4) #[true, true, true, false, true, false, false, false, false, false, false, false, false, false] rfl hHeld ?_
    (try simp only [Act.put, putS])
    refine oS (i := 5) #[true, true, true, false, true, true, false, false, false, false, false, false, false, false] rfl hHeld ?_
    (try simp only [Act.put, putS])
    refine oS (i := 7) #[true, true, true, false, true, true, false, true, false, false, false, false, false, false] rfl hHeld ?_
    (try simp only [Act.put, putS])
    refine oS (i := 8) #[true, true, true, false, true, true, false, true, true, false, false, false, false, false] rfl hHeld ?_
    (try simp only [Act.put, putS])
    refine wpAnyH_ready (rs := [3]) (by kernel_rfl) (by simp) ?_
    refine ord_run (i := 3) #[true, true, true, true, true, true, false, true, true, false, false, false, false, false] rfl (by kernel_rfl) (by rfl) (fun K hK => ?_) AllReadyH.nil
    go_simp
    go_wp2_with (go_at_call 248; refine (wint7_any _ HJ0.out.1 HJ0.out.2 _).mono ?_; rintro r w1 ⟨u0, hu0, rfl, hb⟩; have hbS := hb; have zz1 := hb.size; (simp at zz1); have hB1 := hb)
    refine hK.out _ _ ?_ (fun hHeld => ?_)
    ·exact sbU1
    clear hK K
    (try simp only [Act.put, putS])
    refine wpAnyH_ready (rs := [6]) (by kernel_rfl) (by simp) ?_
    refine ord_run (i := 6) (preB 9 5) rfl (by kernel_rfl) (by rfl) (fun K hK => ?_) AllReadyH.nil
    go_simp
    go_wp2_with (go_at_call 248; refine (wint7_any _ HJ1.out.1 HJ1.out.2 _).mono ?_; rintro r w2 ⟨u1, hu1, rfl, hb⟩; have hbS1 := hb; have zz2 := hb.size; (try simp at zz2); have hB2 := hb)
    refine hK.out _ _ ?_ (fun hHeld => ?_)
    ·exact sbU1
    clear hK K
    (try simp only [Act.put, putS])
    refine wpAnyH_ready (rs := [9]) (by kernel_rfl) (by simp) ?_
    refine ord_run (i := 9) (preB 10 4) rfl (by kernel_rfl) (by rfl) (fun K hK => ?_) AllReadyH.nil
    go_simp
    refine hK.out _ _ ?_ (fun hHeld => ?_)
    ·exact sbU1
    clear hK K
    (try simp only [Act.put, putS])
    refine wpAnyH_ready (rs := [10]) (by kernel_rfl) (by simp) ?_
    refine ord_run (i := 10) (preB 11 3) rfl (by kernel_rfl) (by rfl) (fun K hK => ?_) AllReadyH.nil
    go_simp
    go_wp2_with (go_at_call 247; refine (wpack_any (some ⟨w2.heap.size, 0, none⟩) 3 3 21 (by decide) (by decide) _ (srow3 (blk_new rfl) hu0 hu1 (by omega))).mono ?_; rintro r w3 ⟨tp, htp, rfl, hb⟩; have hbS2 := hb; have zz3 := hb.size; (simp at zz3); have hB3 := hb; have BT := hide (show Below wr.heap.size wr w3 from Below.trans (by (repeat (first | (with_reducible first | exact Below.refl _ _ | assumption | refine Below.drew ?_) | ((with_reducible first | refine Below.alloc ?_ ?_ _ | refine Below.setCell ?_ ?_ _); rotate_left; (first | omega | (simp <;> omega))))) : Below wr.heap.size wr _) ((hB1.mono (by simp)).trans ((hB2.mono (by omega)).trans (Below.trans (by (repeat (first | (with_reducible first | exact Below.refl _ _ | assumption | refine Below.drew ?_) | ((with_reducible first | refine Below.alloc ?_ ?_ _ | refine Below.setCell ?_ ?_ _); rotate_left; (first | omega | (simp <;> omega))))) : Below wr.heap.size w2 _) (hB3.mono (by simp; omega)))))))
    refine hK.out _ _ ?_ (fun hHeld => ?_)
    ·exact sbU1
    clear hK K
    (try simp only [Act.put, putS])
    refine wpAnyH_ready (rs := [11]) (by kernel_rfl) (by simp) ?_
    refine ord_run (i := 11) (preB 12 2) rfl (by kernel_rfl) (by rfl) (fun K hK => ?_) AllReadyH.nil
    go_simp
    refine hK.out _ _ ?_ (fun hHeld => ?_)
    ·exact sbU1
    clear hK K
    (try simp only [Act.put, putS])
    refine wpAnyH_ready (rs := [12]) (by kernel_rfl) (by simp) ?_
    refine ord_run (i := 12) (preB 13 1) rfl (by kernel_rfl) (by rfl) (fun K hK => ?_) AllReadyH.nil
    (refine wp_append_own2 (.tmp 18) (.tmp 29) 173 rfl (w.heap.size + 1) 9 i0' (.string ⟨#[]⟩) 1 16 Tryz.underlying173 hi0 hz00 hz1 hz2 rfl (by decide) _ _ _ rfl ((owns_below HO.out BT.out).alloc _) ⟨w3.heap.size, 0, none⟩ 1 1 (strs [tp]) rfl rfl (news1 (by simp [go_sem])) (strs_ones _) (by have := HLT.out; simp only [maxLen]; omega) (by have := HLT.out; omega) (by simp; omega) ?_; intro A4 c4 w4 ho4 hg4; have hs4 := hg4.size; (try simp at hs4); have HO4 := hide (show w4.ownsRow (w.heap.size + 1) 9 1 (.slice A4 (k + 1) c4) (k + 1) (strs (l ++ [tp])) from by rw [strs_app]; exact ho4); have B4 := hide (H0.out.trans ((BT.out.mono zH).trans (Below.trans (by (repeat (first | (with_reducible first | exact Below.refl _ _ | assumption | refine Below.drew ?_) | ((with_reducible first | refine Below.alloc ?_ ?_ _ | refine Below.setCell ?_ ?_ _); rotate_left; (first | omega | (simp <;> omega))))) : Below (w.heap.size + 1) w3 _) (below_grown (B := w.heap.size + 1) hg4 (by simp; omega) (own_ge HO.out))))); refine hK.out _ _ ?_ (fun hHeld => ?_); (rotate_left); (clear ho4); (rotate_left); (exact SB.grownX hHeld hg4 (by simp; omega) (fun k hk => by injection hk with hk; subst hk; exact .inl (List.mem_singleton.2 rfl))); (clear hK K hg4))
    (try simp only [Act.put, putS])
    refine oS (i := 13) (preB 14 0) rfl hHeld ?_
    (try simp only [Act.put, putS])
    refine wpAnyH_done (by kernel_rfl) ?_ _
    go_wp2_with fail
    go_roundw
    case rel => exact ⟨k + 1, c4, A4, l ++ [tp], HLT.out, by go_num, rfl, HO4.out, fun s hs => by
     rcases List.mem_append.1 hs with h | h
     ·exact HL.out s h
     ·rw [List.mem_singleton.1 h]; omega, B4.out⟩
    case measure => have := HLT.out; simp [intOf]; omega
  ·obtain rfl : k = n := by omega
   clear hlt hkn
   go_wp2_with fail
   refine ord_start (SB (wr.heap.size) [] _) 27 (preB 0 27) (by kernel_rfl) (by kernel_rfl) (by kernel_rfl) SB.refl.drew (fun hHeld => ?_)
   refine oS (i := 0) (preB 1 26) rfl hHeld ?_
   (try simp only [Act.put, putS])
   refine oS (i := 1) (preB 2 25) rfl hHeld ?_
   (try simp only [Act.put, putS])
   refine oS (i := 3) #[true, true, false, true, false, false, false, false, false, false, false, false, false, false, false, false, false, false, false, false, false, false, false, false, false, false, false] rfl hHeld ?_
   (try simp only [Act.put, putS])
   refine oS (i := 4) #[true, true, false, true, true, false, false, false, false, false, false, false, false, false, false, false, false, false, false, false, false, false, false, false, false, false, false] rfl hHeld ?_
   (try simp only [Act.put, putS])
   refine oS (i := 6) #[true, true, false, true, true, false, true, false, false, false, false, false, false, false, false, false, false, false, false, false, false, false, false, false, false, false, false] rfl hHeld ?_
   (try simp only [Act.put, putS])
   refine oS (i := 7) #[true, true, false, true, true, false, true, true, false, false, false, false, false, false, false, false, false, false, false, false, false, false, false, false, false, false, false] rfl hHeld ?_
   (try simp only [Act.put, putS])
   refine oS (i := 9) #[true, true, false, true, true, false, true, true, false, true, false, false, false, false, false, false, false, false, false, false, false, false, false, false, false, false, false] rfl hHeld ?_
   (try simp only [Act.put, putS])
   refine oS (i := 10) #[true, true, false, true, true, false, true, true, false, true, true, false, false, false, false, false, false, false, false, false, false, false, false, false, false, false, false] rfl hHeld ?_
   (try simp only [Act.put, putS])
   refine oS (i := 12) #[true, true, false, true, true, false, true, true, false, true, true, false, true, false, false, false, false, false, false, false, false, false, false, false, false, false, false] rfl hHeld ?_
   (try simp only [Act.put, putS])
   refine oS (i := 13) #[true, true, false, true, true, false, true, true, false, true, true, false, true, true, false, false, false, false, false, false, false, false, false, false, false, false, false] rfl hHeld ?_
   (try simp only [Act.put, putS])
   refine oS (i := 15) #[true, true, false, true, true, false, true, true, false, true, true, false, true, true, false, true, false, false, false, false, false, false, false, false, false, false, false] rfl hHeld ?_
   (try simp only [Act.put, putS])
   refine oS (i := 16) #[true, true, false, true, true, false, true, true, false, true, true, false, true, true, false, true, true, false, false, false, false, false, false, false, false, false, false] rfl hHeld ?_
   (try simp only [Act.put, putS])
   refine oS (i := 18) #[true, true, false, true, true, false, true, true, false, true, true, false, true, true, false, true, true, false, true, false, false, false, false, false, false, false, false] rfl hHeld ?_
   (try simp only [Act.put, putS])
   refine oS (i := 19) #[true, true, false, true, true, false, true, true, false, true, true, false, true, true, false, true, true, false, true, true, false, false, false, false, false, false, false] rfl hHeld ?_
   (try simp only [Act.put, putS])
   refine oS (i := 20) #[true, true, false, true, true, false, true, true, false, true, true, false, true, true, false, true, true, false, true, true, true, false, false, false, false, false, false] rfl hHeld ?_
   (try simp only [Act.put, putS])
   refine oS (i := 21) #[true, true, false, true, true, false, true, true, false, true, true, false, true, true, false, true, true, false, true, true, true, true, false, false, false, false, false] rfl hHeld ?_
   (try simp only [Act.put, putS])
   refine oS (i := 22) #[true, true, false, true, true, false, true, true, false, true, true, false, true, true, false, true, true, false, true, true, true, true, true, false, false, false, false] rfl hHeld ?_
   (try simp only [Act.put, putS])
   refine wpAnyH_ready (rs := [2]) (by kernel_rfl) (by simp) ?_
   refine ord_run (i := 2) #[true, true, true, true, true, false, true, true, false, true, true, false, true, true, false, true, true, false, true, true, true, true, true, false, false, false, false] rfl (by kernel_rfl) (by rfl) (fun K hK => ?_) AllReadyH.nil
   go_simp
   go_wp2_with (go_at_call 248; refine (wint7_any _ HI.out.1.1 HI.out.1.2 _).mono ?_; rintro r v0 ⟨a0, ha0, rfl, hb⟩; have hbS := hb; have xz0 := hb.size; (try simp at xz0); have BI0 := hide (show Below wr.heap.size wr v0 from Below.trans (by (repeat (first | (with_reducible first | exact Below.refl _ _ | assumption | refine Below.drew ?_) | ((with_reducible first | refine Below.alloc ?_ ?_ _ | refine Below.setCell ?_ ?_ _); rotate_left; (first | omega | (simp <;> omega))))) : Below wr.heap.size wr _) (hb.mono (by simp))))
   refine hK.out _ _ ?_ (fun hHeld => ?_)
   ·exact sbU1
   clear hK K
   (try simp only [Act.put, putS])
   refine wpAnyH_ready (rs := [5]) (by kernel_rfl) (by simp) ?_
   refine ord_run (i := 5) #[true, true, true, true, true, true, true, true, false, true, true, false, true, true, false, true, true, false, true, true, true, true, true, false, false, false, false] rfl (by kernel_rfl) (by rfl) (fun K hK => ?_) AllReadyH.nil
   go_simp
   go_wp2_with (go_at_call 248; refine (wint7_any _ HI.out.2.1.1 HI.out.2.1.2 _).mono ?_; rintro r v1 ⟨a1, ha1, rfl, hb⟩; have hbS1 := hb; have xz1 := hb.size; (try simp at xz1); have BI1 := hide (show Below wr.heap.size wr v1 from BI0.out.trans (hb.mono (by omega))))
   refine hK.out _ _ ?_ (fun hHeld => ?_)
   ·exact sbU1
   clear hK K
   (try simp only [Act.put, putS])
   refine wpAnyH_ready (rs := [8]) (by kernel_rfl) (by simp) ?_
   refine ord_run (i := 8) #[true, true, true, true, true, true, true, true, true, true, true, false, true, true, false, true, true, false, true, true, true, true, true, false, false, false, false] rfl (by kernel_rfl) (by rfl) (fun K hK => ?_) AllReadyH.nil
   go_simp
   go_wp2_with (go_at_call 248; refine (wint7_any _ HI.out.2.2.1.1 HI.out.2.2.1.2 _).mono ?_; rintro r v2 ⟨a2, ha2, rfl, hb⟩; have hbS2 := hb; have xz2 := hb.size; (try simp at xz2); have BI2 := hide (show Below wr.heap.size wr v2 from BI1.out.trans (hb.mono (by omega))))
   refine hK.out _ _ ?_ (fun hHeld => ?_)
   ·exact sbU1
   clear hK K
   (try simp only [Act.put, putS])
   refine wpAnyH_ready (rs := [11]) (by kernel_rfl) (by simp) ?_
   refine ord_run (i := 11) #[true, true, true, true, true, true, true, true, true, true, true, true, true, true, false, true, true, false, true, true, true, true, true, false, false, false, false] rfl (by kernel_rfl) (by rfl) (fun K hK => ?_) AllReadyH.nil
   go_simp
   go_wp2_with (go_at_call 248; refine (wint7_any _ HI.out.2.2.2.1.1 HI.out.2.2.2.1.2 _).mono ?_; rintro r v3 ⟨a3, ha3, rfl, hb⟩; have hbS3 := hb; have xz3 := hb.size; (try simp at xz3); have BI3 := hide (show Below wr.heap.size wr v3 from BI2.out.trans (hb.mono (by omega))))
   refine hK.out _ _ ?_ (fun hHeld => ?_)
   ·exact sbU1
   clear hK K
   (try simp only [Act.put, putS])
   refine wpAnyH_ready (rs := [14]) (by kernel_rfl) (by simp) ?_
   refine ord_run (i := 14) #[true, true, true, true, true, true, true, true, true, true, true, true, true, true, true, true, true, false, true, true, true, true, true, false, false, false, false] rfl (by kernel_rfl) (by rfl) (fun K hK => ?_) AllReadyH.nil
   go_simp
   go_wp2_with (go_at_call 248; refine (wint7_any _ HI.out.2.2.2.2.1.1 HI.out.2.2.2.2.1.2 _).mono ?_; rintro r v4 ⟨a4, ha4, rfl, hb⟩; have hbS4 := hb; have xz4 := hb.size; (try simp at xz4); have BI4 := hide (show Below wr.heap.size wr v4 from BI3.out.trans (hb.mono (by omega))))
   refine hK.out _ _ ?_ (fun hHeld => ?_)
   ·exact sbU1
   clear hK K
   (try simp only [Act.put, putS])
   refine wpAnyH_ready (rs := [17]) (by kernel_rfl) (by simp) ?_
   refine ord_run (i := 17) (preB 23 4) rfl (by kernel_rfl) (by rfl) (fun K hK => ?_) AllReadyH.nil
   go_simp
   go_wp2_with (go_at_call 248; refine (wint7_any _ HI.out.2.2.2.2.2.1 HI.out.2.2.2.2.2.2 _).mono ?_; rintro r v5 ⟨a5, ha5, rfl, hb⟩; have hbS5 := hb; have xz5 := hb.size; (try simp at xz5); have BI5 := hide (show Below wr.heap.size wr v5 from BI4.out.trans (hb.mono (by omega))))
   refine hK.out _ _ ?_ (fun hHeld => ?_)
   ·exact sbU1
   clear hK K
   (try simp only [Act.put, putS])
   refine wpAnyH_ready (rs := [23]) (by kernel_rfl) (by simp) ?_
   refine ord_run (i := 23) (preB 24 3) rfl (by kernel_rfl) (by rfl) (fun K hK => ?_) AllReadyH.nil
   go_simp
   go_wp2_with (go_at_call 247; refine (wpack_any B k p 200 (by omega) (by decide) _ ((own_trow HO.out HL.out).2.below BI5.out)).mono ?_; rintro r v6 ⟨a6, ha6, rfl, hb⟩; have hbS6 := hb; have xz6 := hb.size; (try simp at xz6); have BI6 := hide (BI5.out.trans (hb.mono (by omega))))
   refine hK.out _ _ ?_ (fun hHeld => ?_)
   ·exact sbU1
   clear hK K
   (try simp only [Act.put, putS])
   refine wpAnyH_ready (rs := [24]) (by kernel_rfl) (by simp) ?_
   refine ord_run (i := 24) (preB 25 2) rfl (by kernel_rfl) (by rfl) (fun K hK => ?_) AllReadyH.nil
   go_simp
   refine hK.out _ _ ?_ (fun hHeld => ?_)
   ·exact sbU1
   clear hK K
   (try simp only [Act.put, putS])
   refine wpAnyH_ready (rs := [25]) (by kernel_rfl) (by simp) ?_
   refine ord_run (i := 25) (preB 26 1) rfl (by kernel_rfl) (by rfl) (fun K hK => ?_) AllReadyH.nil
   go_simp
   go_wp2_with (go_at_call 247; refine (wpack_any (some ⟨v6.heap.size, 0, none⟩) 9 9 2664 (by decide) (by decide) _ (srow9 (blk_new rfl) (by omega) (by omega) (by omega) (by omega) (by omega) (by omega) (by omega) (by omega) (by omega))).mono ?_; rintro r v7 ⟨a7, ha7, rfl, hb⟩; have hbS7 := hb; have hbF := hb)
   refine hK.out _ _ ?_ (fun hHeld => ?_)
   ·exact sbU1
   clear hK K
   (try simp only [Act.put, putS])
   refine oS (i := 26) (preB 27 0) rfl hHeld ?_
   (try simp only [Act.put, putS])
   refine wpAnyH_done (by kernel_rfl) ?_ _
   have BF := hide (BI6.out.trans (Below.trans (by (repeat (first | (with_reducible first | exact Below.refl _ _ | assumption | refine Below.drew ?_) | ((with_reducible first | refine Below.alloc ?_ ?_ _ | refine Below.setCell ?_ ?_ _); rotate_left; (first | omega | (simp <;> omega))))) : Below wr.heap.size v6 _) (hbF.mono (by simp; omega))))
   go_wp2_with fail
   go_ret
   exact ⟨_, by omega, rfl, QL.out.trans (BF.out.mono QL.out.size)⟩
end Go.Proofs.YtpghciiifnjimaaGreatDoor
