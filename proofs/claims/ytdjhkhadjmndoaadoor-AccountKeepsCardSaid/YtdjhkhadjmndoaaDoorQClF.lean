/- Texts laid together: ClF. -/
import Derived.Test.YtdjhkhadjmndoaaDoorQClE
namespace Go.Proofs.YtdjhkhadjmndoaaDoor
set_option maxRecDepth 4000
set_option linter.unusedSimpArgs false
set_option linter.unusedVariables false
open Go.RowKit
theorem siz_B : (Tryd.prog.info? 41).map (·.size) = some 22 := by kernel_rfl
theorem entries_any {A : Option Addr} {n : Nat} (cap : Nat) {c : Nat → Nat → Tr} {C : Nat → Nat → Value} {w : World} (hr : RowT (Old w) w 11 A n c C) (hk : RowK 11 n c) : Calls Tryd.prog 75 #[.slice A n cap] w (SlRet 11 n c w) := by
  have HR := hide hr
  have HE := hide (each_Entry n c (fun k hkn => fn_Entry (c k) (knk hk hkn)) hk A cap C)
  clear hr hk
  go_enter Tryd.func75, Tryd.ntmps75
  go_wp2_with fail
  refine (HE.out _ HR.out).mono ?_
  rintro r w1 ⟨A1, cap1, C1, rfl, hcap, hrow, hb⟩
  have H1 := hide hrow
  clear hrow
  go_wp2_with fail
  go_ret
  exact ⟨A1, cap1, C1, rfl, hcap, H1.out, hb⟩
/-- Blocks made since B, but for that of v. -/
def Av (B : Nat) (v : Value) (w : World) (b : Nat) : Prop := New B w b ∧ v.ownBlock ≠ some b
theorem own_low {w : World} {B B' : Nat} {e : TypeId} {sz n : Nat} {v : Value} {xs : List Value} (h : w.ownsRow B' e sz v n xs) (hB : B ≤ B') : w.ownsRow B e sz v n xs := by
  refine ⟨h.1, ?_⟩
  rcases h.2 with h2 | ⟨g, cap, cur, hv, hg, r⟩
  · exact .inl h2
  · exact .inr ⟨g, cap, cur, hv, Nat.le_trans hB hg, r⟩
theorem av_old {w1 w2 : World} {B N : Nat} {v : Value} {e n : Nat} {A : Option Addr} {c : Nat → Nat → Tr} {D : Nat → Nat → Value} (h : RowT (New N w1) w1 e A n c D) (hB : B ≤ N) (hb : Below w1.heap.size w1 w2) (hv : ∀ q, v.ownBlock = some q → w1.heap.size ≤ q) : RowT (Av B v w2) w2 e A n c D :=
  h.mono (fun b h => ⟨⟨Nat.le_trans hB h.1, Nat.lt_of_lt_of_le h.2 hb.size⟩, fun e => by have := hv b e; have := h.2; omega⟩) (fun b h => hb.block b h.2)
theorem av_new {w1 : World} {B N : Nat} {v : Value} {e n : Nat} {A : Option Addr} {c : Nat → Nat → Tr} {D : Nat → Nat → Value} (h : RowT (New N w1) w1 e A n c D) (hB : B ≤ N) (hv : ∀ q, v.ownBlock = some q → q < N) : RowT (Av B v w1) w1 e A n c D :=
  h.mono (fun b h => ⟨⟨Nat.le_trans hB h.1, h.2⟩, fun e => by have := hv b e; have := h.1; omega⟩) (fun _ _ => rfl)
theorem av_keep {w1 w2 : World} {B : Nat} {v : Value} {e n : Nat} {A : Option Addr} {c : Nat → Nat → Tr} {D : Nat → Nat → Value} (h : RowT (Av B v w1) w1 e A n c D) (hs : w1.heap.size ≤ w2.heap.size) (hk : ∀ b, B ≤ b → b < w1.heap.size → w2.heap[b]? = w1.heap[b]?) : RowT (Av B v w2) w2 e A n c D :=
  h.mono (fun b h => ⟨⟨h.1.1, Nat.lt_of_lt_of_le h.1.2 hs⟩, h.2⟩) (fun b h => hk b h.1.1 h.1.2)
theorem own_keepB {w w' : World} {B n sz : Nat} {e : TypeId} {v : Value} {xs : List Value} (h : w.ownsRow B e sz v n xs) (hk : ∀ b, B ≤ b → b < w.heap.size → w'.heap[b]? = w.heap[b]?) : w'.ownsRow B e sz v n xs := by
  refine ⟨h.1, ?_⟩
  rcases h.2 with h2 | ⟨g, cap, cur, hv, hg, hh, r⟩
  · exact .inl h2
  · exact .inr ⟨g, cap, cur, hv, hg, (hk g hg (heap_lt hh)).trans hh, r⟩
theorem leaf_any {S S' : Nat → Prop} {w w' : World} {e n : Nat} {A : Option Addr} {c : Nat → Nat → Tr} {C : Nat → Nat → Value} (hl : (tbl e).all leafK = true) (hr : RowT S w e A n c C) (hk : RowK e n c) {k j : Nat} (hkn : k < n) (hj : j < (tbl e).length) : (c k j).rd S' w' (C k j) := by
  have hlk : leafK ((tbl e).getD j .i) = true := by
    rw [List.getD_eq_getElem?_getD, List.getElem?_eq_getElem hj]
    exact List.all_eq_true.1 hl _ (List.getElem_mem hj)
  exact rd_any hlk (hr.rd k j hkn hj) (hk.wt k j hkn hj)
/-- Books that are copied: the row of accounts is the call's own. -/
def BkRet (ck : Nat → Tr) (w : World) (r : Ending) (w' : World) : Prop :=
  ∃ (D : Array Value) (A : Option Addr) (n cap : Nat) (c : Nat → Nat → Tr) (R : Nat → Array Value), r = .returned (.agg D) ∧ ElT (New w.heap.size w') w' 15 ck D ∧ D[18]? = some (.slice A n cap) ∧ ck 18 = .row n 7 c ∧ n ≤ cap ∧ RowK 9 n c ∧
    w'.ownsRow w.heap.size 44 7 (.slice A n cap) n (rowA R n) ∧ (∀ k, k < n → ElT (New w.heap.size w') w' 9 (c k) (R k)) ∧ (∀ j, j < 22 → j ≠ 18 → (ck j).rd (Av w.heap.size (.slice A n cap) w') w' (D.getD j undef)) ∧ Below w.heap.size w w'

def BkCut1 (w : World) (X : Array Value) (n0 n2 n18 n20 n21 : Nat) (c0 c2 c20 c21 : Nat → Nat → Tr) (C18 : Nat → Nat → Value) (_v : Value) (wx : World) : Prop :=
  ∃ B0 p0 D0 B2 p2 D2 B18 p18, wx.heap[w.heap.size]? = some (.cells (((X.setIfInBounds 0 (.slice B0 n0 p0)).setIfInBounds 2 (.slice B2 n2 p2)).setIfInBounds 18 (.slice B18 n18 p18)) 41 (0, 0)) ∧ wx.heap[w.heap.size + 1]? = some (.cells #[.slice none 0 0, .slice none 0 0, .slice none 0 0, .int .i64 0, .int .i64 0, .int .i64 0, .int .i64 0, .int .i64 0, .int .i64 0, .int .i64 0, .int .i64 0, .int .i64 0, .int .i64 0, .int .i64 0, .int .i64 0, .int .i64 0, .int .i64 0, .slice none 0 0, .slice none 0 0, .slice none 0 0, .slice none 0 0, .slice none 0 0] 41 (0, 0)) ∧ (RowT (Av (w.heap.size + 2) (.slice B18 n18 p18) wx) wx 1 B0 n0 c0 D0 ∧ n0 ≤ p0) ∧ (RowT (Av (w.heap.size + 2) (.slice B18 n18 p18) wx) wx 3 B2 n2 c2 D2 ∧ n2 ≤ p2) ∧ wx.ownsRow (w.heap.size + 2) 44 7 (.slice B18 n18 p18) n18 (rowA (elA 9 C18) n18) ∧ Below w.heap.size w wx ∧ w.heap.size + 2 ≤ wx.heap.size
def BkCut2 (w : World) (X : Array Value) (n0 n2 n18 n20 n21 : Nat) (c0 c2 c20 c21 : Nat → Nat → Tr) (C18 : Nat → Nat → Value) (_v : Value) (wx : World) : Prop :=
  ∃ B0 p0 D0 B2 p2 D2 B20 p20 D20 B21 p21 D21 B18 p18, wx.heap[w.heap.size]? = some (.cells (((((X.setIfInBounds 0 (.slice B0 n0 p0)).setIfInBounds 2 (.slice B2 n2 p2)).setIfInBounds 18 (.slice B18 n18 p18)).setIfInBounds 20 (.slice B20 n20 p20)).setIfInBounds 21 (.slice B21 n21 p21)) 41 (0, 0)) ∧ wx.heap[w.heap.size + 1]? = some (.cells #[.slice none 0 0, .slice none 0 0, .slice none 0 0, .int .i64 0, .int .i64 0, .int .i64 0, .int .i64 0, .int .i64 0, .int .i64 0, .int .i64 0, .int .i64 0, .int .i64 0, .int .i64 0, .int .i64 0, .int .i64 0, .int .i64 0, .int .i64 0, .slice none 0 0, .slice none 0 0, .slice none 0 0, .slice none 0 0, .slice none 0 0] 41 (0, 0)) ∧ (RowT (Av (w.heap.size + 2) (.slice B18 n18 p18) wx) wx 1 B0 n0 c0 D0 ∧ n0 ≤ p0) ∧ (RowT (Av (w.heap.size + 2) (.slice B18 n18 p18) wx) wx 3 B2 n2 c2 D2 ∧ n2 ≤ p2) ∧ (RowT (Av (w.heap.size + 2) (.slice B18 n18 p18) wx) wx 12 B20 n20 c20 D20 ∧ n20 ≤ p20) ∧ (RowT (Av (w.heap.size + 2) (.slice B18 n18 p18) wx) wx 13 B21 n21 c21 D21 ∧ n21 ≤ p21) ∧ wx.ownsRow (w.heap.size + 2) 44 7 (.slice B18 n18 p18) n18 (rowA (elA 9 C18) n18) ∧ Below w.heap.size w wx ∧ w.heap.size + 2 ≤ wx.heap.size
set_option maxRecDepth 20000 in
set_option maxHeartbeats 16000000 in
theorem books_any (ck : Nat → Tr) (hw : KnOK 15 ck) (w : World) (X : Array Value) (hX : ElT (Old w) w 15 ck X) : Calls Tryd.prog 44 #[.agg X] w (BkRet ck w) := by
  have HX := hide hX
  have HW := hide hw
  have HXS := hide (show X.size = 22 from hX.size)
  obtain ⟨n0, c0, hc0, hk0, A0, cap0, C0, e0, _, hr0⟩ := rd_row (e := 1) (hX.rd 0 (by decide)) (hw 0 (by decide))
  have HR0 := hide hr0
  have HQ0 := hide hc0
  have HK0 := hide hk0
  have g0 : X[0]? = some (.slice A0 n0 cap0) := at_eq HXS.out (by decide) e0
  have G0 := hide g0
  have HF0 := hide (fun (W : World) (h : RowT (Old W) W 1 A0 n0 c0 C0) => cl_Currency cap0 h HK0.out)
  clear e0 hr0 hc0 hk0
  obtain ⟨n1, c1, hc1, hk1, A1, cap1, C1, e1, _, hr1⟩ := rd_row (e := 2) (hX.rd 1 (by decide)) (hw 1 (by decide))
  have HR1 := hide hr1
  have HQ1 := hide hc1
  have HK1 := hide hk1
  have g1 : X[1]? = some (.slice A1 n1 cap1) := at_eq HXS.out (by decide) e1
  have G1 := hide g1
  have HF1 := hide (fun (W : World) (h : RowT (Old W) W 2 A1 n1 c1 C1) => each_Calendar n1 c1 (fun k hk => fn_Books1 (c1 k) (knk HK1.out hk)) HK1.out A1 cap1 C1 W h)
  clear e1 hr1 hc1 hk1 g1
  obtain ⟨n2, c2, hc2, hk2, A2, cap2, C2, e2, _, hr2⟩ := rd_row (e := 3) (hX.rd 2 (by decide)) (hw 2 (by decide))
  have HR2 := hide hr2
  have HQ2 := hide hc2
  have HK2 := hide hk2
  have g2 : X[2]? = some (.slice A2 n2 cap2) := at_eq HXS.out (by decide) e2
  have G2 := hide g2
  have HF2 := hide (fun (W : World) (h : RowT (Old W) W 3 A2 n2 c2 C2) => cl_Gl cap2 h HK2.out)
  clear e2 hr2 hc2 hk2
  obtain ⟨n17, c17, hc17, hk17, A17, cap17, C17, e17, _, hr17⟩ := rd_row (e := 8) (hX.rd 17 (by decide)) (hw 17 (by decide))
  have HR17 := hide hr17
  have HQ17 := hide hc17
  have HK17 := hide hk17
  have g17 : X[17]? = some (.slice A17 n17 cap17) := at_eq HXS.out (by decide) e17
  have G17 := hide g17
  have HF17 := hide (fun (W : World) (h : RowT (Old W) W 8 A17 n17 c17 C17) => each_Product n17 c17 (fun k hk => fn_Product (c17 k) (knk HK17.out hk)) HK17.out A17 cap17 C17 W h)
  clear e17 hr17 hc17 hk17 g17
  obtain ⟨n18, c18, hc18, hk18, A18, cap18, C18, e18, _, hr18⟩ := rd_row (e := 9) (hX.rd 18 (by decide)) (hw 18 (by decide))
  have HR18 := hide hr18
  have HQ18 := hide hc18
  have HK18 := hide hk18
  have g18 : X[18]? = some (.slice A18 n18 cap18) := at_eq HXS.out (by decide) e18
  have G18 := hide g18
  have HF18 := hide (fun (W : World) (h : RowT (Old W) W 9 A18 n18 c18 C18) => (clo_Account A18 n18 cap18 C18 (by have := HK18.out.room; simp only [tby] at this; omega) W (h.row.toS (by decide)) (fun k hkn => (h.el HK18.out hkn).ones)))
  clear e18 hr18 hc18 hk18
  obtain ⟨n19, c19, hc19, hk19, A19, cap19, C19, e19, _, hr19⟩ := rd_row (e := 11) (hX.rd 19 (by decide)) (hw 19 (by decide))
  have HR19 := hide hr19
  have HQ19 := hide hc19
  have HK19 := hide hk19
  have g19 : X[19]? = some (.slice A19 n19 cap19) := at_eq HXS.out (by decide) e19
  have G19 := hide g19
  have HF19 := hide (fun (W : World) (h : RowT (Old W) W 11 A19 n19 c19 C19) => entries_any cap19 h HK19.out)
  clear e19 hr19 hc19 hk19 g19
  obtain ⟨n20, c20, hc20, hk20, A20, cap20, C20, e20, _, hr20⟩ := rd_row (e := 12) (hX.rd 20 (by decide)) (hw 20 (by decide))
  have HR20 := hide hr20
  have HQ20 := hide hc20
  have HK20 := hide hk20
  have g20 : X[20]? = some (.slice A20 n20 cap20) := at_eq HXS.out (by decide) e20
  have G20 := hide g20
  have HF20 := hide (fun (W : World) (h : RowT (Old W) W 12 A20 n20 c20 C20) => cl_Hold cap20 h HK20.out)
  clear e20 hr20 hc20 hk20 g20
  obtain ⟨n21, c21, hc21, hk21, A21, cap21, C21, e21, _, hr21⟩ := rd_row (e := 13) (hX.rd 21 (by decide)) (hw 21 (by decide))
  have HR21 := hide hr21
  have HQ21 := hide hc21
  have HK21 := hide hk21
  have g21 : X[21]? = some (.slice A21 n21 cap21) := at_eq HXS.out (by decide) e21
  have G21 := hide g21
  have HF21 := hide (fun (W : World) (h : RowT (Old W) W 13 A21 n21 c21 C21) => cl_Block cap21 h HK21.out)
  clear e21 hr21 hc21 hk21 g21
  clear hX hw
  go_enter Tryd.func44, Tryd.ntmps44
  go_wp2_with fail
  go_cut [3] (fun v3 wx => BkCut1 w X n0 n2 n18 n20 n21 c0 c2 c20 c21 C18 v3 wx)
  case first =>
    refine ord_start (SB (0) [] _) 15 (preB 0 15) (by kernel_rfl) (by kernel_rfl) (by kernel_rfl) SB.refl.drew (fun hHeld => ?_)
    refine ord_take (i := 0) (preB 1 14) ?_ rfl (by kernel_rfl) (by kernel_rfl) (by kernel_rfl) (by kernel_rfl) (fun _ _ _ h => h) hHeld (by rfl) (fun wx hSx => ?_) ?_
    rotate_left
    · (unfold SB at hSx; go_simp; (try with_reducible rfl))
    (try simp only [Act.put, putA, putB, putC])
    refine ord_take (i := 3) #[true, false, false, true, false, false, false, false, false, false, false, false, false, false, false] ?_ rfl (by kernel_rfl) (by kernel_rfl) (by kernel_rfl) (by kernel_rfl) (fun _ _ _ h => h) hHeld (by rfl) (fun wx hSx => ?_) ?_
    rotate_left
    · (unfold SB at hSx; go_simp; (try with_reducible rfl))
    (try simp only [Act.put, putA, putB, putC])
    refine ord_take (i := 6) #[true, false, false, true, false, false, true, false, false, false, false, false, false, false, false] ?_ rfl (by kernel_rfl) (by kernel_rfl) (by kernel_rfl) (by kernel_rfl) (fun _ _ _ h => h) hHeld (by rfl) (fun wx hSx => ?_) ?_
    rotate_left
    · (unfold SB at hSx; go_simp; (try with_reducible rfl))
    (try simp only [Act.put, putA, putB, putC])
    refine wpAnyH_ready (rs := [1, 4, 7]) (by kernel_rfl) (by simp) ?_
    refine ord_run (i := 1) #[true, true, false, true, false, false, true, false, false, false, false, false, false, false, false] rfl (by kernel_rfl) (by rfl) (fun K hK => ?_) ?_
    · go_simp
      refine hK.out _ _ ?_ (fun hHeld => ?_)
      · exact fun _ _ h => absurd h (Nat.not_lt_zero _)
      clear hK K
      (try simp only [Act.put, putA, putB, putC])
      refine wpAnyH_ready (rs := [2, 4, 7]) (by kernel_rfl) (by simp) ?_
      refine ord_run (i := 2) #[true, true, true, true, false, false, true, false, false, false, false, false, false, false, false] rfl (by kernel_rfl) (by rfl) (fun K hK => ?_) ?_
      · go_simp
        go_wp2_with (go_at_call 65; refine (HF0.out _ (HR0.out.below (by (repeat (first | (with_reducible first | exact Below.refl _ _ | assumption | refine Below.drew ?_) | ((with_reducible first | refine Below.alloc ?_ ?_ _ | refine Below.setCell ?_ ?_ _); rotate_left; (first | omega | (simp <;> omega)))))))).mono ?_; rintro r w1 ⟨B0, p0, D0, rfl, hc, hN, hb⟩; have HC0 := hide hc; clear hc; have HN0 := hide hN; clear hN; have HP1 := hide (show w1.heap[w.heap.size]? = some (.cells X 41 (0, 0)) from blk_below hb (by first | omega | (simp <;> omega)) (by repeat (first | (exact blk_new (by simp)) | (with_reducible refine blk_drew ?_) | (with_reducible refine blk_under ?_)))); have HZ1 := hide (show w1.heap[w.heap.size + 1]? = some (.cells #[.slice none 0 0, .slice none 0 0, .slice none 0 0, .int .i64 0, .int .i64 0, .int .i64 0, .int .i64 0, .int .i64 0, .int .i64 0, .int .i64 0, .int .i64 0, .int .i64 0, .int .i64 0, .int .i64 0, .int .i64 0, .int .i64 0, .int .i64 0, .slice none 0 0, .slice none 0 0, .slice none 0 0, .slice none 0 0, .slice none 0 0] 41 (0, 0)) from blk_below hb (by first | omega | (simp <;> omega)) (by first | exact blk_new (by simp) | exact blk_drew (blk_new (by simp)))); (have q1B : Below w.heap.size w w1 := (by refine Below.trans ?_ (hb.mono (by first | omega | (simp <;> omega))); (repeat (first | (with_reducible first | exact Below.refl _ _ | assumption | refine Below.drew ?_) | ((with_reducible first | refine Below.alloc ?_ ?_ _ | refine Below.setCell ?_ ?_ _); rotate_left; (first | omega | (simp <;> omega)))))); have q1z := hb.size; (try simp at q1z); have q1t : w.heap.size ≤ w1.heap.size := (by omega); have q1s0 : w.heap.size < w1.heap.size := (by omega); have q1n0_0 : ¬ w1.heap.size = w.heap.size := (by omega); have q1n0_1 : ¬ w1.heap.size + 1 = w.heap.size := (by omega); have q1n0_2 : ¬ w1.heap.size + 2 = w.heap.size := (by omega); have q1c0_0 := hb.cell (p := ⟨w.heap.size, 0, none⟩) (by first | omega | (simp <;> omega)); simp [go_sem, *] at q1c0_0; have q1c0_2 := hb.cell (p := ⟨w.heap.size, 2, none⟩) (by first | omega | (simp <;> omega)); simp [go_sem, *] at q1c0_2; have q1c0_18 := hb.cell (p := ⟨w.heap.size, 18, none⟩) (by first | omega | (simp <;> omega)); simp [go_sem, *] at q1c0_18; have q1f0 := fun o => hb.frozen (p := ⟨w.heap.size, o, none⟩) (by first | omega | (simp <;> omega)); simp [go_sem, *] at q1f0; have q1o : ∀ b o, b < w.heap.size → w1.cell? ⟨b, o, none⟩ = w.cell? ⟨b, o, none⟩ := fun b o h => q1B.cell (p := ⟨b, o, none⟩) h; have hbS := hb; have hbS1 := hb; clear hb); have HB1 := hide q1B; have t1 : w.heap.size + 2 ≤ w1.heap.size := (by omega))
        refine hK.out _ _ ?_ (fun hHeld => ?_)
        · exact fun _ _ h => absurd h (Nat.not_lt_zero _)
        clear hK K
        (try simp only [Act.put, putA, putB, putC])
        refine wpAnyH_ready (rs := [4, 7]) (by kernel_rfl) (by simp) ?_
        refine ord_run (i := 4) #[true, true, true, true, true, false, true, false, false, false, false, false, false, false, false] rfl (by kernel_rfl) (by rfl) (fun K hK => ?_) ?_
        · go_simp
          refine hK.out _ _ ?_ (fun hHeld => ?_)
          · exact fun _ _ h => absurd h (Nat.not_lt_zero _)
          clear hK K
          (try simp only [Act.put, putA, putB, putC])
          refine wpAnyH_ready (rs := [5, 7]) (by kernel_rfl) (by simp) ?_
          refine ord_run (i := 5) (preB 7 8) rfl (by kernel_rfl) (by rfl) (fun K hK => ?_) ?_
          · go_simp
            go_wp2_with (go_at_call 66; refine (HF2.out _ (HR2.out.below (HB1.out.trans (by (repeat (first | (with_reducible first | exact Below.refl _ _ | assumption | refine Below.drew ?_) | ((with_reducible first | refine Below.alloc ?_ ?_ _ | refine Below.setCell ?_ ?_ _); rotate_left; (first | omega | (simp <;> omega))))))))).mono ?_; rintro r w2 ⟨B2, p2, D2, rfl, hc, hN, hb⟩; have HC2 := hide hc; clear hc; have HN2 := hide hN; clear hN; have HM2 := hide (show Below w1.heap.size w1 w2 from hb); have HP2 := hide (show w2.heap[w.heap.size]? = some (.cells X 41 (0, 0)) from blk_below hb (by first | omega | (simp <;> omega)) HP1.out); have HZ2 := hide (show w2.heap[w.heap.size + 1]? = some (.cells #[.slice none 0 0, .slice none 0 0, .slice none 0 0, .int .i64 0, .int .i64 0, .int .i64 0, .int .i64 0, .int .i64 0, .int .i64 0, .int .i64 0, .int .i64 0, .int .i64 0, .int .i64 0, .int .i64 0, .int .i64 0, .int .i64 0, .int .i64 0, .slice none 0 0, .slice none 0 0, .slice none 0 0, .slice none 0 0, .slice none 0 0] 41 (0, 0)) from blk_below hb (by first | omega | (simp <;> omega)) HZ1.out); (have q2B : Below w1.heap.size w1 w2 := (by refine Below.trans ?_ (hb.mono (by first | omega | (simp <;> omega))); (repeat (first | (with_reducible first | exact Below.refl _ _ | assumption | refine Below.drew ?_) | ((with_reducible first | refine Below.alloc ?_ ?_ _ | refine Below.setCell ?_ ?_ _); rotate_left; (first | omega | (simp <;> omega)))))); have q2z := hb.size; (try simp at q2z); have q2t : w1.heap.size ≤ w2.heap.size := (by omega); have q2s0 : w.heap.size < w2.heap.size := (by omega); have q2n0_0 : ¬ w2.heap.size = w.heap.size := (by omega); have q2n0_1 : ¬ w2.heap.size + 1 = w.heap.size := (by omega); have q2n0_2 : ¬ w2.heap.size + 2 = w.heap.size := (by omega); have q2c0_0 := hb.cell (p := ⟨w.heap.size, 0, none⟩) (by first | omega | (simp <;> omega)); simp [go_sem, *] at q2c0_0; have q2c0_2 := hb.cell (p := ⟨w.heap.size, 2, none⟩) (by first | omega | (simp <;> omega)); simp [go_sem, *] at q2c0_2; have q2c0_18 := hb.cell (p := ⟨w.heap.size, 18, none⟩) (by first | omega | (simp <;> omega)); simp [go_sem, *] at q2c0_18; have q2f0 := fun o => hb.frozen (p := ⟨w.heap.size, o, none⟩) (by first | omega | (simp <;> omega)); simp [go_sem, *] at q2f0; have q2o : ∀ b o, b < w1.heap.size → w2.cell? ⟨b, o, none⟩ = w1.cell? ⟨b, o, none⟩ := fun b o h => q2B.cell (p := ⟨b, o, none⟩) h; have hbS := hb; have hbS2 := hb; clear hb); have HB2 := hide (HB1.out.trans (q2B.mono HB1.out.size)); have t2 : w.heap.size + 2 ≤ w2.heap.size := (by omega))
            refine hK.out _ _ ?_ (fun hHeld => ?_)
            · exact fun _ _ h => absurd h (Nat.not_lt_zero _)
            clear hK K
            (try simp only [Act.put, putA, putB, putC])
            refine wpAnyH_ready (rs := [7]) (by kernel_rfl) (by simp) ?_
            refine ord_run (i := 7) (preB 8 7) rfl (by kernel_rfl) (by rfl) (fun K hK => ?_) AllReadyH.nil
            go_simp
            refine hK.out _ _ ?_ (fun hHeld => ?_)
            · exact fun _ _ h => absurd h (Nat.not_lt_zero _)
            clear hK K
            (try simp only [Act.put, putA, putB, putC])
            refine ord_take (i := 9) #[true, true, true, true, true, true, true, true, false, true, false, false, false, false, false] ?_ rfl (by kernel_rfl) (by kernel_rfl) (by kernel_rfl) (by kernel_rfl) (fun _ _ _ h => h) hHeld (by rfl) (fun wx hSx => ?_) ?_
            rotate_left
            · (unfold SB at hSx; go_simp; (try with_reducible rfl))
            (try simp only [Act.put, putA, putB, putC])
            refine wpAnyH_ready (rs := [8]) (by kernel_rfl) (by simp) ?_
            refine ord_run (i := 8) (preB 10 5) rfl (by kernel_rfl) (by rfl) (fun K hK => ?_) AllReadyH.nil
            go_simp
            go_wp2_with (go_at_call 67; refine (HF18.out _ (HR18.out.below (HB2.out.trans (by (repeat (first | (with_reducible first | exact Below.refl _ _ | assumption | refine Below.drew ?_) | ((with_reducible first | refine Below.alloc ?_ ?_ _ | refine Below.setCell ?_ ?_ _); rotate_left; (first | omega | (simp <;> omega))))))))).mono ?_; rintro r w3 ⟨B18, p18, rfl, hN, hb⟩; have HN18 := hide hN; clear hN; have HM3 := hide (show Below w2.heap.size w2 w3 from hb); have HP3 := hide (show w3.heap[w.heap.size]? = some (.cells X 41 (0, 0)) from blk_below hb (by first | omega | (simp <;> omega)) HP2.out); have HZ3 := hide (show w3.heap[w.heap.size + 1]? = some (.cells #[.slice none 0 0, .slice none 0 0, .slice none 0 0, .int .i64 0, .int .i64 0, .int .i64 0, .int .i64 0, .int .i64 0, .int .i64 0, .int .i64 0, .int .i64 0, .int .i64 0, .int .i64 0, .int .i64 0, .int .i64 0, .int .i64 0, .int .i64 0, .slice none 0 0, .slice none 0 0, .slice none 0 0, .slice none 0 0, .slice none 0 0] 41 (0, 0)) from blk_below hb (by first | omega | (simp <;> omega)) HZ2.out); (have q3B : Below w2.heap.size w2 w3 := (by refine Below.trans ?_ (hb.mono (by first | omega | (simp <;> omega))); (repeat (first | (with_reducible first | exact Below.refl _ _ | assumption | refine Below.drew ?_) | ((with_reducible first | refine Below.alloc ?_ ?_ _ | refine Below.setCell ?_ ?_ _); rotate_left; (first | omega | (simp <;> omega)))))); have q3z := hb.size; (try simp at q3z); have q3t : w2.heap.size ≤ w3.heap.size := (by omega); have q3s0 : w.heap.size < w3.heap.size := (by omega); have q3n0_0 : ¬ w3.heap.size = w.heap.size := (by omega); have q3n0_1 : ¬ w3.heap.size + 1 = w.heap.size := (by omega); have q3n0_2 : ¬ w3.heap.size + 2 = w.heap.size := (by omega); have q3c0_0 := hb.cell (p := ⟨w.heap.size, 0, none⟩) (by first | omega | (simp <;> omega)); simp [go_sem, *] at q3c0_0; have q3c0_2 := hb.cell (p := ⟨w.heap.size, 2, none⟩) (by first | omega | (simp <;> omega)); simp [go_sem, *] at q3c0_2; have q3c0_18 := hb.cell (p := ⟨w.heap.size, 18, none⟩) (by first | omega | (simp <;> omega)); simp [go_sem, *] at q3c0_18; have q3f0 := fun o => hb.frozen (p := ⟨w.heap.size, o, none⟩) (by first | omega | (simp <;> omega)); simp [go_sem, *] at q3f0; have q3o : ∀ b o, b < w2.heap.size → w3.cell? ⟨b, o, none⟩ = w2.cell? ⟨b, o, none⟩ := fun b o h => q3B.cell (p := ⟨b, o, none⟩) h; have hbS := hb; have hbS3 := hb; clear hb); have HB3 := hide (HB2.out.trans (q3B.mono HB2.out.size)); have t3 : w.heap.size + 2 ≤ w3.heap.size := (by omega))
            refine hK.out _ _ ?_ (fun hHeld => ?_)
            · exact fun _ _ h => absurd h (Nat.not_lt_zero _)
            clear hK K
            (try simp only [Act.put, putA, putB, putC])
            refine wpAnyH_ready (rs := [10]) (by kernel_rfl) (by simp) ?_
            refine ord_run (i := 10) (preB 11 4) rfl (by kernel_rfl) (by rfl) (fun K hK => ?_) AllReadyH.nil
            go_simp
            refine hK.out _ _ ?_ (fun hHeld => ?_)
            · exact fun _ _ h => absurd h (Nat.not_lt_zero _)
            clear hK K
            (try simp only [Act.put, putA, putB, putC])
            refine ord_take (i := 11) (preB 12 3) ?_ rfl (by kernel_rfl) (by kernel_rfl) (by kernel_rfl) (by kernel_rfl) (fun _ _ _ h => h) hHeld (by rfl) (fun wx hSx => ?_) ?_
            rotate_left
            · (unfold SB at hSx; go_simp; (try with_reducible rfl))
            (try simp only [Act.put, putA, putB, putC])
            refine wpAnyH_ready (rs := [12]) (by kernel_rfl) (by simp) ?_
            refine ord_run (i := 12) (preB 13 2) rfl (by kernel_rfl) (by rfl) (fun K hK => ?_) AllReadyH.nil
            go_simp
            refine hK.out _ _ ?_ (fun hHeld => ?_)
            · exact fun _ _ h => absurd h (Nat.not_lt_zero _)
            clear hK K
            (try simp only [Act.put, putA, putB, putC])
            refine ord_take (i := 13) (preB 14 1) ?_ rfl (by kernel_rfl) (by kernel_rfl) (by kernel_rfl) (by kernel_rfl) (fun _ _ _ h => h) hHeld (by rfl) (fun wx hSx => ?_) ?_
            rotate_left
            · (unfold SB at hSx; go_simp; (try with_reducible rfl))
            (try simp only [Act.put, putA, putB, putC])
            refine wpAnyH_ready (rs := [14]) (by kernel_rfl) (by simp) ?_
            refine ord_run (i := 14) (preB 15 0) rfl (by kernel_rfl) (by rfl) (fun K hK => ?_) AllReadyH.nil
            go_simp
            refine hK.out _ _ ?_ (fun hHeld => ?_)
            · exact fun _ _ h => absurd h (Nat.not_lt_zero _)
            clear hK K
            (try simp only [Act.put, putA, putB, putC])
            refine wpAnyH_done (by kernel_rfl) ?_ _
            go_wp2_with fail
            go_meet
            have hv : ∀ q, (Value.slice B18 n18 p18).ownBlock = some q → w2.heap.size ≤ q := fun q hq => by have h3 := own_ge HN18.out q hq; (try simp at h3); omega
            have r0 : RowT (Av (w.heap.size + 2) (.slice B18 n18 p18) w3) w3 1 B0 n0 c0 D0 := av_old (HN0.out.mono (S' := New (w.heap.size + 2) w2) (fun b h => ⟨by have h3 := h.1; (try simp at h3); omega, Nat.lt_of_lt_of_le h.2 HM2.out.size⟩) (fun b h => HM2.out.block b h.2)) (Nat.le_refl _) HM3.out hv
            have r2 : RowT (Av (w.heap.size + 2) (.slice B18 n18 p18) w3) w3 3 B2 n2 c2 D2 := av_old (HN2.out.mono (S' := New (w.heap.size + 2) w2) (fun b h => ⟨by have h3 := h.1; (try simp at h3); omega, h.2⟩) (fun _ _ => rfl)) (Nat.le_refl _) HM3.out hv
            have ro : w3.ownsRow (w.heap.size + 2) 44 7 (.slice B18 n18 p18) n18 (rowA (elA 9 C18) n18) := own_low HN18.out (by first | omega | (simp <;> omega))
            exact ⟨B0, p0, D0, B2, p2, D2, B18, p18, blk_setCell (blk_setCell (blk_setCell (HP3.out))), blk_setOther (by simp) (blk_setOther (by simp) (blk_setOther (by simp) (HZ3.out))), ⟨av_keep r0 (by simp) (fun b h1 h2 => by refine (Go.Deep.blk_setCell_other _ _ _ _ (by simp; omega)).trans ?_; refine (Go.Deep.blk_setCell_other _ _ _ _ (by simp; omega)).trans ?_; refine (Go.Deep.blk_setCell_other _ _ _ _ (by simp; omega)).trans ?_; (with_reducible exact rfl)), HC0.out⟩, ⟨av_keep r2 (by simp) (fun b h1 h2 => by refine (Go.Deep.blk_setCell_other _ _ _ _ (by simp; omega)).trans ?_; refine (Go.Deep.blk_setCell_other _ _ _ _ (by simp; omega)).trans ?_; refine (Go.Deep.blk_setCell_other _ _ _ _ (by simp; omega)).trans ?_; (with_reducible exact rfl)), HC2.out⟩, own_keepB ro (fun b h1 h2 => by refine (Go.Deep.blk_setCell_other _ _ _ _ (by simp; omega)).trans ?_; refine (Go.Deep.blk_setCell_other _ _ _ _ (by simp; omega)).trans ?_; refine (Go.Deep.blk_setCell_other _ _ _ _ (by simp; omega)).trans ?_; (with_reducible exact rfl)), HB3.out.trans (by (repeat (first | (with_reducible first | exact Below.refl _ _ | assumption | refine Below.drew ?_) | ((with_reducible first | refine Below.alloc ?_ ?_ _ | refine Below.setCell ?_ ?_ _); rotate_left; (first | omega | (simp <;> omega)))))), (by simp; omega)⟩
          refine ord_run (i := 7) #[true, true, true, true, true, false, true, true, false, false, false, false, false, false, false] rfl (by kernel_rfl) (by rfl) (fun K hK => ?_) ?_
          · go_simp
            refine hK.out _ _ ?_ (fun hHeld => ?_)
            · exact fun _ _ h => absurd h (Nat.not_lt_zero _)
            clear hK K
            (try simp only [Act.put, putA, putB, putC])
            refine ord_take (i := 9) #[true, true, true, true, true, false, true, true, false, true, false, false, false, false, false] ?_ rfl (by kernel_rfl) (by kernel_rfl) (by kernel_rfl) (by kernel_rfl) (fun _ _ _ h => h) hHeld (by rfl) (fun wx hSx => ?_) ?_
            rotate_left
            · (unfold SB at hSx; go_simp; (try with_reducible rfl))
            (try simp only [Act.put, putA, putB, putC])
            refine wpAnyH_ready (rs := [5]) (by kernel_rfl) (by simp) ?_
            refine ord_run (i := 5) #[true, true, true, true, true, true, true, true, false, true, false, false, false, false, false] rfl (by kernel_rfl) (by rfl) (fun K hK => ?_) AllReadyH.nil
            go_simp
            go_wp2_with (go_at_call 66; refine (HF2.out _ (HR2.out.below (HB1.out.trans (by (repeat (first | (with_reducible first | exact Below.refl _ _ | assumption | refine Below.drew ?_) | ((with_reducible first | refine Below.alloc ?_ ?_ _ | refine Below.setCell ?_ ?_ _); rotate_left; (first | omega | (simp <;> omega))))))))).mono ?_; rintro r w2 ⟨B2, p2, D2, rfl, hc, hN, hb⟩; have HC2 := hide hc; clear hc; have HN2 := hide hN; clear hN; have HM2 := hide (show Below w1.heap.size w1 w2 from hb); have HP2 := hide (show w2.heap[w.heap.size]? = some (.cells X 41 (0, 0)) from blk_below hb (by first | omega | (simp <;> omega)) HP1.out); have HZ2 := hide (show w2.heap[w.heap.size + 1]? = some (.cells #[.slice none 0 0, .slice none 0 0, .slice none 0 0, .int .i64 0, .int .i64 0, .int .i64 0, .int .i64 0, .int .i64 0, .int .i64 0, .int .i64 0, .int .i64 0, .int .i64 0, .int .i64 0, .int .i64 0, .int .i64 0, .int .i64 0, .int .i64 0, .slice none 0 0, .slice none 0 0, .slice none 0 0, .slice none 0 0, .slice none 0 0] 41 (0, 0)) from blk_below hb (by first | omega | (simp <;> omega)) HZ1.out); (have q2B : Below w1.heap.size w1 w2 := (by refine Below.trans ?_ (hb.mono (by first | omega | (simp <;> omega))); (repeat (first | (with_reducible first | exact Below.refl _ _ | assumption | refine Below.drew ?_) | ((with_reducible first | refine Below.alloc ?_ ?_ _ | refine Below.setCell ?_ ?_ _); rotate_left; (first | omega | (simp <;> omega)))))); have q2z := hb.size; (try simp at q2z); have q2t : w1.heap.size ≤ w2.heap.size := (by omega); have q2s0 : w.heap.size < w2.heap.size := (by omega); have q2n0_0 : ¬ w2.heap.size = w.heap.size := (by omega); have q2n0_1 : ¬ w2.heap.size + 1 = w.heap.size := (by omega); have q2n0_2 : ¬ w2.heap.size + 2 = w.heap.size := (by omega); have q2c0_0 := hb.cell (p := ⟨w.heap.size, 0, none⟩) (by first | omega | (simp <;> omega)); simp [go_sem, *] at q2c0_0; have q2c0_2 := hb.cell (p := ⟨w.heap.size, 2, none⟩) (by first | omega | (simp <;> omega)); simp [go_sem, *] at q2c0_2; have q2c0_18 := hb.cell (p := ⟨w.heap.size, 18, none⟩) (by first | omega | (simp <;> omega)); simp [go_sem, *] at q2c0_18; have q2f0 := fun o => hb.frozen (p := ⟨w.heap.size, o, none⟩) (by first | omega | (simp <;> omega)); simp [go_sem, *] at q2f0; have q2o : ∀ b o, b < w1.heap.size → w2.cell? ⟨b, o, none⟩ = w1.cell? ⟨b, o, none⟩ := fun b o h => q2B.cell (p := ⟨b, o, none⟩) h; have hbS := hb; have hbS2 := hb; clear hb); have HB2 := hide (HB1.out.trans (q2B.mono HB1.out.size)); have t2 : w.heap.size + 2 ≤ w2.heap.size := (by omega))
            refine hK.out _ _ ?_ (fun hHeld => ?_)
            · exact fun _ _ h => absurd h (Nat.not_lt_zero _)
            clear hK K
            (try simp only [Act.put, putA, putB, putC])
            refine wpAnyH_ready (rs := [8]) (by kernel_rfl) (by simp) ?_
            refine ord_run (i := 8) (preB 10 5) rfl (by kernel_rfl) (by rfl) (fun K hK => ?_) AllReadyH.nil
            go_simp
            go_wp2_with (go_at_call 67; refine (HF18.out _ (HR18.out.below (HB2.out.trans (by (repeat (first | (with_reducible first | exact Below.refl _ _ | assumption | refine Below.drew ?_) | ((with_reducible first | refine Below.alloc ?_ ?_ _ | refine Below.setCell ?_ ?_ _); rotate_left; (first | omega | (simp <;> omega))))))))).mono ?_; rintro r w3 ⟨B18, p18, rfl, hN, hb⟩; have HN18 := hide hN; clear hN; have HM3 := hide (show Below w2.heap.size w2 w3 from hb); have HP3 := hide (show w3.heap[w.heap.size]? = some (.cells X 41 (0, 0)) from blk_below hb (by first | omega | (simp <;> omega)) HP2.out); have HZ3 := hide (show w3.heap[w.heap.size + 1]? = some (.cells #[.slice none 0 0, .slice none 0 0, .slice none 0 0, .int .i64 0, .int .i64 0, .int .i64 0, .int .i64 0, .int .i64 0, .int .i64 0, .int .i64 0, .int .i64 0, .int .i64 0, .int .i64 0, .int .i64 0, .int .i64 0, .int .i64 0, .int .i64 0, .slice none 0 0, .slice none 0 0, .slice none 0 0, .slice none 0 0, .slice none 0 0] 41 (0, 0)) from blk_below hb (by first | omega | (simp <;> omega)) HZ2.out); (have q3B : Below w2.heap.size w2 w3 := (by refine Below.trans ?_ (hb.mono (by first | omega | (simp <;> omega))); (repeat (first | (with_reducible first | exact Below.refl _ _ | assumption | refine Below.drew ?_) | ((with_reducible first | refine Below.alloc ?_ ?_ _ | refine Below.setCell ?_ ?_ _); rotate_left; (first | omega | (simp <;> omega)))))); have q3z := hb.size; (try simp at q3z); have q3t : w2.heap.size ≤ w3.heap.size := (by omega); have q3s0 : w.heap.size < w3.heap.size := (by omega); have q3n0_0 : ¬ w3.heap.size = w.heap.size := (by omega); have q3n0_1 : ¬ w3.heap.size + 1 = w.heap.size := (by omega); have q3n0_2 : ¬ w3.heap.size + 2 = w.heap.size := (by omega); have q3c0_0 := hb.cell (p := ⟨w.heap.size, 0, none⟩) (by first | omega | (simp <;> omega)); simp [go_sem, *] at q3c0_0; have q3c0_2 := hb.cell (p := ⟨w.heap.size, 2, none⟩) (by first | omega | (simp <;> omega)); simp [go_sem, *] at q3c0_2; have q3c0_18 := hb.cell (p := ⟨w.heap.size, 18, none⟩) (by first | omega | (simp <;> omega)); simp [go_sem, *] at q3c0_18; have q3f0 := fun o => hb.frozen (p := ⟨w.heap.size, o, none⟩) (by first | omega | (simp <;> omega)); simp [go_sem, *] at q3f0; have q3o : ∀ b o, b < w2.heap.size → w3.cell? ⟨b, o, none⟩ = w2.cell? ⟨b, o, none⟩ := fun b o h => q3B.cell (p := ⟨b, o, none⟩) h; have hbS := hb; have hbS3 := hb; clear hb); have HB3 := hide (HB2.out.trans (q3B.mono HB2.out.size)); have t3 : w.heap.size + 2 ≤ w3.heap.size := (by omega))
            refine hK.out _ _ ?_ (fun hHeld => ?_)
            · exact fun _ _ h => absurd h (Nat.not_lt_zero _)
            clear hK K
            (try simp only [Act.put, putA, putB, putC])
            refine wpAnyH_ready (rs := [10]) (by kernel_rfl) (by simp) ?_
            refine ord_run (i := 10) (preB 11 4) rfl (by kernel_rfl) (by rfl) (fun K hK => ?_) AllReadyH.nil
            go_simp
            refine hK.out _ _ ?_ (fun hHeld => ?_)
            · exact fun _ _ h => absurd h (Nat.not_lt_zero _)
            clear hK K
            (try simp only [Act.put, putA, putB, putC])
            refine ord_take (i := 11) (preB 12 3) ?_ rfl (by kernel_rfl) (by kernel_rfl) (by kernel_rfl) (by kernel_rfl) (fun _ _ _ h => h) hHeld (by rfl) (fun wx hSx => ?_) ?_
            rotate_left
            · (unfold SB at hSx; go_simp; (try with_reducible rfl))
            (try simp only [Act.put, putA, putB, putC])
            refine wpAnyH_ready (rs := [12]) (by kernel_rfl) (by simp) ?_
            refine ord_run (i := 12) (preB 13 2) rfl (by kernel_rfl) (by rfl) (fun K hK => ?_) AllReadyH.nil
            go_simp
            refine hK.out _ _ ?_ (fun hHeld => ?_)
            · exact fun _ _ h => absurd h (Nat.not_lt_zero _)
            clear hK K
            (try simp only [Act.put, putA, putB, putC])
            refine ord_take (i := 13) (preB 14 1) ?_ rfl (by kernel_rfl) (by kernel_rfl) (by kernel_rfl) (by kernel_rfl) (fun _ _ _ h => h) hHeld (by rfl) (fun wx hSx => ?_) ?_
            rotate_left
            · (unfold SB at hSx; go_simp; (try with_reducible rfl))
            (try simp only [Act.put, putA, putB, putC])
            refine wpAnyH_ready (rs := [14]) (by kernel_rfl) (by simp) ?_
            refine ord_run (i := 14) (preB 15 0) rfl (by kernel_rfl) (by rfl) (fun K hK => ?_) AllReadyH.nil
            go_simp
            refine hK.out _ _ ?_ (fun hHeld => ?_)
            · exact fun _ _ h => absurd h (Nat.not_lt_zero _)
            clear hK K
            (try simp only [Act.put, putA, putB, putC])
            refine wpAnyH_done (by kernel_rfl) ?_ _
            go_wp2_with fail
            go_meet
            have hv : ∀ q, (Value.slice B18 n18 p18).ownBlock = some q → w2.heap.size ≤ q := fun q hq => by have h3 := own_ge HN18.out q hq; (try simp at h3); omega
            have r0 : RowT (Av (w.heap.size + 2) (.slice B18 n18 p18) w3) w3 1 B0 n0 c0 D0 := av_old (HN0.out.mono (S' := New (w.heap.size + 2) w2) (fun b h => ⟨by have h3 := h.1; (try simp at h3); omega, Nat.lt_of_lt_of_le h.2 HM2.out.size⟩) (fun b h => HM2.out.block b h.2)) (Nat.le_refl _) HM3.out hv
            have r2 : RowT (Av (w.heap.size + 2) (.slice B18 n18 p18) w3) w3 3 B2 n2 c2 D2 := av_old (HN2.out.mono (S' := New (w.heap.size + 2) w2) (fun b h => ⟨by have h3 := h.1; (try simp at h3); omega, h.2⟩) (fun _ _ => rfl)) (Nat.le_refl _) HM3.out hv
            have ro : w3.ownsRow (w.heap.size + 2) 44 7 (.slice B18 n18 p18) n18 (rowA (elA 9 C18) n18) := own_low HN18.out (by first | omega | (simp <;> omega))
            exact ⟨B0, p0, D0, B2, p2, D2, B18, p18, blk_setCell (blk_setCell (blk_setCell (HP3.out))), blk_setOther (by simp) (blk_setOther (by simp) (blk_setOther (by simp) (HZ3.out))), ⟨av_keep r0 (by simp) (fun b h1 h2 => by refine (Go.Deep.blk_setCell_other _ _ _ _ (by simp; omega)).trans ?_; refine (Go.Deep.blk_setCell_other _ _ _ _ (by simp; omega)).trans ?_; refine (Go.Deep.blk_setCell_other _ _ _ _ (by simp; omega)).trans ?_; (with_reducible exact rfl)), HC0.out⟩, ⟨av_keep r2 (by simp) (fun b h1 h2 => by refine (Go.Deep.blk_setCell_other _ _ _ _ (by simp; omega)).trans ?_; refine (Go.Deep.blk_setCell_other _ _ _ _ (by simp; omega)).trans ?_; refine (Go.Deep.blk_setCell_other _ _ _ _ (by simp; omega)).trans ?_; (with_reducible exact rfl)), HC2.out⟩, own_keepB ro (fun b h1 h2 => by refine (Go.Deep.blk_setCell_other _ _ _ _ (by simp; omega)).trans ?_; refine (Go.Deep.blk_setCell_other _ _ _ _ (by simp; omega)).trans ?_; refine (Go.Deep.blk_setCell_other _ _ _ _ (by simp; omega)).trans ?_; (with_reducible exact rfl)), HB3.out.trans (by (repeat (first | (with_reducible first | exact Below.refl _ _ | assumption | refine Below.drew ?_) | ((with_reducible first | refine Below.alloc ?_ ?_ _ | refine Below.setCell ?_ ?_ _); rotate_left; (first | omega | (simp <;> omega)))))), (by simp; omega)⟩
          exact AllReadyH.nil
        refine ord_run (i := 7) #[true, true, true, true, false, false, true, true, false, false, false, false, false, false, false] rfl (by kernel_rfl) (by rfl) (fun K hK => ?_) ?_
        · go_simp
          refine hK.out _ _ ?_ (fun hHeld => ?_)
          · exact fun _ _ h => absurd h (Nat.not_lt_zero _)
          clear hK K
          (try simp only [Act.put, putA, putB, putC])
          refine wpAnyH_ready (rs := [4]) (by kernel_rfl) (by simp) ?_
          refine ord_run (i := 4) #[true, true, true, true, true, false, true, true, false, false, false, false, false, false, false] rfl (by kernel_rfl) (by rfl) (fun K hK => ?_) AllReadyH.nil
          go_simp
          refine hK.out _ _ ?_ (fun hHeld => ?_)
          · exact fun _ _ h => absurd h (Nat.not_lt_zero _)
          clear hK K
          (try simp only [Act.put, putA, putB, putC])
          refine ord_take (i := 9) #[true, true, true, true, true, false, true, true, false, true, false, false, false, false, false] ?_ rfl (by kernel_rfl) (by kernel_rfl) (by kernel_rfl) (by kernel_rfl) (fun _ _ _ h => h) hHeld (by rfl) (fun wx hSx => ?_) ?_
          rotate_left
          · (unfold SB at hSx; go_simp; (try with_reducible rfl))
          (try simp only [Act.put, putA, putB, putC])
          refine wpAnyH_ready (rs := [5]) (by kernel_rfl) (by simp) ?_
          refine ord_run (i := 5) #[true, true, true, true, true, true, true, true, false, true, false, false, false, false, false] rfl (by kernel_rfl) (by rfl) (fun K hK => ?_) AllReadyH.nil
          go_simp
          go_wp2_with (go_at_call 66; refine (HF2.out _ (HR2.out.below (HB1.out.trans (by (repeat (first | (with_reducible first | exact Below.refl _ _ | assumption | refine Below.drew ?_) | ((with_reducible first | refine Below.alloc ?_ ?_ _ | refine Below.setCell ?_ ?_ _); rotate_left; (first | omega | (simp <;> omega))))))))).mono ?_; rintro r w2 ⟨B2, p2, D2, rfl, hc, hN, hb⟩; have HC2 := hide hc; clear hc; have HN2 := hide hN; clear hN; have HM2 := hide (show Below w1.heap.size w1 w2 from hb); have HP2 := hide (show w2.heap[w.heap.size]? = some (.cells X 41 (0, 0)) from blk_below hb (by first | omega | (simp <;> omega)) HP1.out); have HZ2 := hide (show w2.heap[w.heap.size + 1]? = some (.cells #[.slice none 0 0, .slice none 0 0, .slice none 0 0, .int .i64 0, .int .i64 0, .int .i64 0, .int .i64 0, .int .i64 0, .int .i64 0, .int .i64 0, .int .i64 0, .int .i64 0, .int .i64 0, .int .i64 0, .int .i64 0, .int .i64 0, .int .i64 0, .slice none 0 0, .slice none 0 0, .slice none 0 0, .slice none 0 0, .slice none 0 0] 41 (0, 0)) from blk_below hb (by first | omega | (simp <;> omega)) HZ1.out); (have q2B : Below w1.heap.size w1 w2 := (by refine Below.trans ?_ (hb.mono (by first | omega | (simp <;> omega))); (repeat (first | (with_reducible first | exact Below.refl _ _ | assumption | refine Below.drew ?_) | ((with_reducible first | refine Below.alloc ?_ ?_ _ | refine Below.setCell ?_ ?_ _); rotate_left; (first | omega | (simp <;> omega)))))); have q2z := hb.size; (try simp at q2z); have q2t : w1.heap.size ≤ w2.heap.size := (by omega); have q2s0 : w.heap.size < w2.heap.size := (by omega); have q2n0_0 : ¬ w2.heap.size = w.heap.size := (by omega); have q2n0_1 : ¬ w2.heap.size + 1 = w.heap.size := (by omega); have q2n0_2 : ¬ w2.heap.size + 2 = w.heap.size := (by omega); have q2c0_0 := hb.cell (p := ⟨w.heap.size, 0, none⟩) (by first | omega | (simp <;> omega)); simp [go_sem, *] at q2c0_0; have q2c0_2 := hb.cell (p := ⟨w.heap.size, 2, none⟩) (by first | omega | (simp <;> omega)); simp [go_sem, *] at q2c0_2; have q2c0_18 := hb.cell (p := ⟨w.heap.size, 18, none⟩) (by first | omega | (simp <;> omega)); simp [go_sem, *] at q2c0_18; have q2f0 := fun o => hb.frozen (p := ⟨w.heap.size, o, none⟩) (by first | omega | (simp <;> omega)); simp [go_sem, *] at q2f0; have q2o : ∀ b o, b < w1.heap.size → w2.cell? ⟨b, o, none⟩ = w1.cell? ⟨b, o, none⟩ := fun b o h => q2B.cell (p := ⟨b, o, none⟩) h; have hbS := hb; have hbS2 := hb; clear hb); have HB2 := hide (HB1.out.trans (q2B.mono HB1.out.size)); have t2 : w.heap.size + 2 ≤ w2.heap.size := (by omega))
          refine hK.out _ _ ?_ (fun hHeld => ?_)
          · exact fun _ _ h => absurd h (Nat.not_lt_zero _)
          clear hK K
          (try simp only [Act.put, putA, putB, putC])
          refine wpAnyH_ready (rs := [8]) (by kernel_rfl) (by simp) ?_
          refine ord_run (i := 8) (preB 10 5) rfl (by kernel_rfl) (by rfl) (fun K hK => ?_) AllReadyH.nil
          go_simp
          go_wp2_with (go_at_call 67; refine (HF18.out _ (HR18.out.below (HB2.out.trans (by (repeat (first | (with_reducible first | exact Below.refl _ _ | assumption | refine Below.drew ?_) | ((with_reducible first | refine Below.alloc ?_ ?_ _ | refine Below.setCell ?_ ?_ _); rotate_left; (first | omega | (simp <;> omega))))))))).mono ?_; rintro r w3 ⟨B18, p18, rfl, hN, hb⟩; have HN18 := hide hN; clear hN; have HM3 := hide (show Below w2.heap.size w2 w3 from hb); have HP3 := hide (show w3.heap[w.heap.size]? = some (.cells X 41 (0, 0)) from blk_below hb (by first | omega | (simp <;> omega)) HP2.out); have HZ3 := hide (show w3.heap[w.heap.size + 1]? = some (.cells #[.slice none 0 0, .slice none 0 0, .slice none 0 0, .int .i64 0, .int .i64 0, .int .i64 0, .int .i64 0, .int .i64 0, .int .i64 0, .int .i64 0, .int .i64 0, .int .i64 0, .int .i64 0, .int .i64 0, .int .i64 0, .int .i64 0, .int .i64 0, .slice none 0 0, .slice none 0 0, .slice none 0 0, .slice none 0 0, .slice none 0 0] 41 (0, 0)) from blk_below hb (by first | omega | (simp <;> omega)) HZ2.out); (have q3B : Below w2.heap.size w2 w3 := (by refine Below.trans ?_ (hb.mono (by first | omega | (simp <;> omega))); (repeat (first | (with_reducible first | exact Below.refl _ _ | assumption | refine Below.drew ?_) | ((with_reducible first | refine Below.alloc ?_ ?_ _ | refine Below.setCell ?_ ?_ _); rotate_left; (first | omega | (simp <;> omega)))))); have q3z := hb.size; (try simp at q3z); have q3t : w2.heap.size ≤ w3.heap.size := (by omega); have q3s0 : w.heap.size < w3.heap.size := (by omega); have q3n0_0 : ¬ w3.heap.size = w.heap.size := (by omega); have q3n0_1 : ¬ w3.heap.size + 1 = w.heap.size := (by omega); have q3n0_2 : ¬ w3.heap.size + 2 = w.heap.size := (by omega); have q3c0_0 := hb.cell (p := ⟨w.heap.size, 0, none⟩) (by first | omega | (simp <;> omega)); simp [go_sem, *] at q3c0_0; have q3c0_2 := hb.cell (p := ⟨w.heap.size, 2, none⟩) (by first | omega | (simp <;> omega)); simp [go_sem, *] at q3c0_2; have q3c0_18 := hb.cell (p := ⟨w.heap.size, 18, none⟩) (by first | omega | (simp <;> omega)); simp [go_sem, *] at q3c0_18; have q3f0 := fun o => hb.frozen (p := ⟨w.heap.size, o, none⟩) (by first | omega | (simp <;> omega)); simp [go_sem, *] at q3f0; have q3o : ∀ b o, b < w2.heap.size → w3.cell? ⟨b, o, none⟩ = w2.cell? ⟨b, o, none⟩ := fun b o h => q3B.cell (p := ⟨b, o, none⟩) h; have hbS := hb; have hbS3 := hb; clear hb); have HB3 := hide (HB2.out.trans (q3B.mono HB2.out.size)); have t3 : w.heap.size + 2 ≤ w3.heap.size := (by omega))
          refine hK.out _ _ ?_ (fun hHeld => ?_)
          · exact fun _ _ h => absurd h (Nat.not_lt_zero _)
          clear hK K
          (try simp only [Act.put, putA, putB, putC])
          refine wpAnyH_ready (rs := [10]) (by kernel_rfl) (by simp) ?_
          refine ord_run (i := 10) (preB 11 4) rfl (by kernel_rfl) (by rfl) (fun K hK => ?_) AllReadyH.nil
          go_simp
          refine hK.out _ _ ?_ (fun hHeld => ?_)
          · exact fun _ _ h => absurd h (Nat.not_lt_zero _)
          clear hK K
          (try simp only [Act.put, putA, putB, putC])
          refine ord_take (i := 11) (preB 12 3) ?_ rfl (by kernel_rfl) (by kernel_rfl) (by kernel_rfl) (by kernel_rfl) (fun _ _ _ h => h) hHeld (by rfl) (fun wx hSx => ?_) ?_
          rotate_left
          · (unfold SB at hSx; go_simp; (try with_reducible rfl))
          (try simp only [Act.put, putA, putB, putC])
          refine wpAnyH_ready (rs := [12]) (by kernel_rfl) (by simp) ?_
          refine ord_run (i := 12) (preB 13 2) rfl (by kernel_rfl) (by rfl) (fun K hK => ?_) AllReadyH.nil
          go_simp
          refine hK.out _ _ ?_ (fun hHeld => ?_)
          · exact fun _ _ h => absurd h (Nat.not_lt_zero _)
          clear hK K
          (try simp only [Act.put, putA, putB, putC])
          refine ord_take (i := 13) (preB 14 1) ?_ rfl (by kernel_rfl) (by kernel_rfl) (by kernel_rfl) (by kernel_rfl) (fun _ _ _ h => h) hHeld (by rfl) (fun wx hSx => ?_) ?_
          rotate_left
          · (unfold SB at hSx; go_simp; (try with_reducible rfl))
          (try simp only [Act.put, putA, putB, putC])
          refine wpAnyH_ready (rs := [14]) (by kernel_rfl) (by simp) ?_
          refine ord_run (i := 14) (preB 15 0) rfl (by kernel_rfl) (by rfl) (fun K hK => ?_) AllReadyH.nil
          go_simp
          refine hK.out _ _ ?_ (fun hHeld => ?_)
          · exact fun _ _ h => absurd h (Nat.not_lt_zero _)
          clear hK K
          (try simp only [Act.put, putA, putB, putC])
          refine wpAnyH_done (by kernel_rfl) ?_ _
          go_wp2_with fail
          go_meet
          have hv : ∀ q, (Value.slice B18 n18 p18).ownBlock = some q → w2.heap.size ≤ q := fun q hq => by have h3 := own_ge HN18.out q hq; (try simp at h3); omega
          have r0 : RowT (Av (w.heap.size + 2) (.slice B18 n18 p18) w3) w3 1 B0 n0 c0 D0 := av_old (HN0.out.mono (S' := New (w.heap.size + 2) w2) (fun b h => ⟨by have h3 := h.1; (try simp at h3); omega, Nat.lt_of_lt_of_le h.2 HM2.out.size⟩) (fun b h => HM2.out.block b h.2)) (Nat.le_refl _) HM3.out hv
          have r2 : RowT (Av (w.heap.size + 2) (.slice B18 n18 p18) w3) w3 3 B2 n2 c2 D2 := av_old (HN2.out.mono (S' := New (w.heap.size + 2) w2) (fun b h => ⟨by have h3 := h.1; (try simp at h3); omega, h.2⟩) (fun _ _ => rfl)) (Nat.le_refl _) HM3.out hv
          have ro : w3.ownsRow (w.heap.size + 2) 44 7 (.slice B18 n18 p18) n18 (rowA (elA 9 C18) n18) := own_low HN18.out (by first | omega | (simp <;> omega))
          exact ⟨B0, p0, D0, B2, p2, D2, B18, p18, blk_setCell (blk_setCell (blk_setCell (HP3.out))), blk_setOther (by simp) (blk_setOther (by simp) (blk_setOther (by simp) (HZ3.out))), ⟨av_keep r0 (by simp) (fun b h1 h2 => by refine (Go.Deep.blk_setCell_other _ _ _ _ (by simp; omega)).trans ?_; refine (Go.Deep.blk_setCell_other _ _ _ _ (by simp; omega)).trans ?_; refine (Go.Deep.blk_setCell_other _ _ _ _ (by simp; omega)).trans ?_; (with_reducible exact rfl)), HC0.out⟩, ⟨av_keep r2 (by simp) (fun b h1 h2 => by refine (Go.Deep.blk_setCell_other _ _ _ _ (by simp; omega)).trans ?_; refine (Go.Deep.blk_setCell_other _ _ _ _ (by simp; omega)).trans ?_; refine (Go.Deep.blk_setCell_other _ _ _ _ (by simp; omega)).trans ?_; (with_reducible exact rfl)), HC2.out⟩, own_keepB ro (fun b h1 h2 => by refine (Go.Deep.blk_setCell_other _ _ _ _ (by simp; omega)).trans ?_; refine (Go.Deep.blk_setCell_other _ _ _ _ (by simp; omega)).trans ?_; refine (Go.Deep.blk_setCell_other _ _ _ _ (by simp; omega)).trans ?_; (with_reducible exact rfl)), HB3.out.trans (by (repeat (first | (with_reducible first | exact Below.refl _ _ | assumption | refine Below.drew ?_) | ((with_reducible first | refine Below.alloc ?_ ?_ _ | refine Below.setCell ?_ ?_ _); rotate_left; (first | omega | (simp <;> omega)))))), (by simp; omega)⟩
        exact AllReadyH.nil
      refine ord_run (i := 4) #[true, true, false, true, true, false, true, false, false, false, false, false, false, false, false] rfl (by kernel_rfl) (by rfl) (fun K hK => ?_) ?_
      · go_simp
        refine hK.out _ _ ?_ (fun hHeld => ?_)
        · exact fun _ _ h => absurd h (Nat.not_lt_zero _)
        clear hK K
        (try simp only [Act.put, putA, putB, putC])
        refine wpAnyH_ready (rs := [2, 7]) (by kernel_rfl) (by simp) ?_
        refine ord_run (i := 2) #[true, true, true, true, true, false, true, false, false, false, false, false, false, false, false] rfl (by kernel_rfl) (by rfl) (fun K hK => ?_) ?_
        · go_simp
          go_wp2_with (go_at_call 65; refine (HF0.out _ (HR0.out.below (by (repeat (first | (with_reducible first | exact Below.refl _ _ | assumption | refine Below.drew ?_) | ((with_reducible first | refine Below.alloc ?_ ?_ _ | refine Below.setCell ?_ ?_ _); rotate_left; (first | omega | (simp <;> omega)))))))).mono ?_; rintro r w1 ⟨B0, p0, D0, rfl, hc, hN, hb⟩; have HC0 := hide hc; clear hc; have HN0 := hide hN; clear hN; have HP1 := hide (show w1.heap[w.heap.size]? = some (.cells X 41 (0, 0)) from blk_below hb (by first | omega | (simp <;> omega)) (by repeat (first | (exact blk_new (by simp)) | (with_reducible refine blk_drew ?_) | (with_reducible refine blk_under ?_)))); have HZ1 := hide (show w1.heap[w.heap.size + 1]? = some (.cells #[.slice none 0 0, .slice none 0 0, .slice none 0 0, .int .i64 0, .int .i64 0, .int .i64 0, .int .i64 0, .int .i64 0, .int .i64 0, .int .i64 0, .int .i64 0, .int .i64 0, .int .i64 0, .int .i64 0, .int .i64 0, .int .i64 0, .int .i64 0, .slice none 0 0, .slice none 0 0, .slice none 0 0, .slice none 0 0, .slice none 0 0] 41 (0, 0)) from blk_below hb (by first | omega | (simp <;> omega)) (by first | exact blk_new (by simp) | exact blk_drew (blk_new (by simp)))); (have q1B : Below w.heap.size w w1 := (by refine Below.trans ?_ (hb.mono (by first | omega | (simp <;> omega))); (repeat (first | (with_reducible first | exact Below.refl _ _ | assumption | refine Below.drew ?_) | ((with_reducible first | refine Below.alloc ?_ ?_ _ | refine Below.setCell ?_ ?_ _); rotate_left; (first | omega | (simp <;> omega)))))); have q1z := hb.size; (try simp at q1z); have q1t : w.heap.size ≤ w1.heap.size := (by omega); have q1s0 : w.heap.size < w1.heap.size := (by omega); have q1n0_0 : ¬ w1.heap.size = w.heap.size := (by omega); have q1n0_1 : ¬ w1.heap.size + 1 = w.heap.size := (by omega); have q1n0_2 : ¬ w1.heap.size + 2 = w.heap.size := (by omega); have q1c0_0 := hb.cell (p := ⟨w.heap.size, 0, none⟩) (by first | omega | (simp <;> omega)); simp [go_sem, *] at q1c0_0; have q1c0_2 := hb.cell (p := ⟨w.heap.size, 2, none⟩) (by first | omega | (simp <;> omega)); simp [go_sem, *] at q1c0_2; have q1c0_18 := hb.cell (p := ⟨w.heap.size, 18, none⟩) (by first | omega | (simp <;> omega)); simp [go_sem, *] at q1c0_18; have q1f0 := fun o => hb.frozen (p := ⟨w.heap.size, o, none⟩) (by first | omega | (simp <;> omega)); simp [go_sem, *] at q1f0; have q1o : ∀ b o, b < w.heap.size → w1.cell? ⟨b, o, none⟩ = w.cell? ⟨b, o, none⟩ := fun b o h => q1B.cell (p := ⟨b, o, none⟩) h; have hbS := hb; have hbS1 := hb; clear hb); have HB1 := hide q1B; have t1 : w.heap.size + 2 ≤ w1.heap.size := (by omega))
          refine hK.out _ _ ?_ (fun hHeld => ?_)
          · exact fun _ _ h => absurd h (Nat.not_lt_zero _)
          clear hK K
          (try simp only [Act.put, putA, putB, putC])
          refine wpAnyH_ready (rs := [5, 7]) (by kernel_rfl) (by simp) ?_
          refine ord_run (i := 5) (preB 7 8) rfl (by kernel_rfl) (by rfl) (fun K hK => ?_) ?_
          · go_simp
            go_wp2_with (go_at_call 66; refine (HF2.out _ (HR2.out.below (HB1.out.trans (by (repeat (first | (with_reducible first | exact Below.refl _ _ | assumption | refine Below.drew ?_) | ((with_reducible first | refine Below.alloc ?_ ?_ _ | refine Below.setCell ?_ ?_ _); rotate_left; (first | omega | (simp <;> omega))))))))).mono ?_; rintro r w2 ⟨B2, p2, D2, rfl, hc, hN, hb⟩; have HC2 := hide hc; clear hc; have HN2 := hide hN; clear hN; have HM2 := hide (show Below w1.heap.size w1 w2 from hb); have HP2 := hide (show w2.heap[w.heap.size]? = some (.cells X 41 (0, 0)) from blk_below hb (by first | omega | (simp <;> omega)) HP1.out); have HZ2 := hide (show w2.heap[w.heap.size + 1]? = some (.cells #[.slice none 0 0, .slice none 0 0, .slice none 0 0, .int .i64 0, .int .i64 0, .int .i64 0, .int .i64 0, .int .i64 0, .int .i64 0, .int .i64 0, .int .i64 0, .int .i64 0, .int .i64 0, .int .i64 0, .int .i64 0, .int .i64 0, .int .i64 0, .slice none 0 0, .slice none 0 0, .slice none 0 0, .slice none 0 0, .slice none 0 0] 41 (0, 0)) from blk_below hb (by first | omega | (simp <;> omega)) HZ1.out); (have q2B : Below w1.heap.size w1 w2 := (by refine Below.trans ?_ (hb.mono (by first | omega | (simp <;> omega))); (repeat (first | (with_reducible first | exact Below.refl _ _ | assumption | refine Below.drew ?_) | ((with_reducible first | refine Below.alloc ?_ ?_ _ | refine Below.setCell ?_ ?_ _); rotate_left; (first | omega | (simp <;> omega)))))); have q2z := hb.size; (try simp at q2z); have q2t : w1.heap.size ≤ w2.heap.size := (by omega); have q2s0 : w.heap.size < w2.heap.size := (by omega); have q2n0_0 : ¬ w2.heap.size = w.heap.size := (by omega); have q2n0_1 : ¬ w2.heap.size + 1 = w.heap.size := (by omega); have q2n0_2 : ¬ w2.heap.size + 2 = w.heap.size := (by omega); have q2c0_0 := hb.cell (p := ⟨w.heap.size, 0, none⟩) (by first | omega | (simp <;> omega)); simp [go_sem, *] at q2c0_0; have q2c0_2 := hb.cell (p := ⟨w.heap.size, 2, none⟩) (by first | omega | (simp <;> omega)); simp [go_sem, *] at q2c0_2; have q2c0_18 := hb.cell (p := ⟨w.heap.size, 18, none⟩) (by first | omega | (simp <;> omega)); simp [go_sem, *] at q2c0_18; have q2f0 := fun o => hb.frozen (p := ⟨w.heap.size, o, none⟩) (by first | omega | (simp <;> omega)); simp [go_sem, *] at q2f0; have q2o : ∀ b o, b < w1.heap.size → w2.cell? ⟨b, o, none⟩ = w1.cell? ⟨b, o, none⟩ := fun b o h => q2B.cell (p := ⟨b, o, none⟩) h; have hbS := hb; have hbS2 := hb; clear hb); have HB2 := hide (HB1.out.trans (q2B.mono HB1.out.size)); have t2 : w.heap.size + 2 ≤ w2.heap.size := (by omega))
            refine hK.out _ _ ?_ (fun hHeld => ?_)
            · exact fun _ _ h => absurd h (Nat.not_lt_zero _)
            clear hK K
            (try simp only [Act.put, putA, putB, putC])
            refine wpAnyH_ready (rs := [7]) (by kernel_rfl) (by simp) ?_
            refine ord_run (i := 7) (preB 8 7) rfl (by kernel_rfl) (by rfl) (fun K hK => ?_) AllReadyH.nil
            go_simp
            refine hK.out _ _ ?_ (fun hHeld => ?_)
            · exact fun _ _ h => absurd h (Nat.not_lt_zero _)
            clear hK K
            (try simp only [Act.put, putA, putB, putC])
            refine ord_take (i := 9) #[true, true, true, true, true, true, true, true, false, true, false, false, false, false, false] ?_ rfl (by kernel_rfl) (by kernel_rfl) (by kernel_rfl) (by kernel_rfl) (fun _ _ _ h => h) hHeld (by rfl) (fun wx hSx => ?_) ?_
            rotate_left
            · (unfold SB at hSx; go_simp; (try with_reducible rfl))
            (try simp only [Act.put, putA, putB, putC])
            refine wpAnyH_ready (rs := [8]) (by kernel_rfl) (by simp) ?_
            refine ord_run (i := 8) (preB 10 5) rfl (by kernel_rfl) (by rfl) (fun K hK => ?_) AllReadyH.nil
            go_simp
            go_wp2_with (go_at_call 67; refine (HF18.out _ (HR18.out.below (HB2.out.trans (by (repeat (first | (with_reducible first | exact Below.refl _ _ | assumption | refine Below.drew ?_) | ((with_reducible first | refine Below.alloc ?_ ?_ _ | refine Below.setCell ?_ ?_ _); rotate_left; (first | omega | (simp <;> omega))))))))).mono ?_; rintro r w3 ⟨B18, p18, rfl, hN, hb⟩; have HN18 := hide hN; clear hN; have HM3 := hide (show Below w2.heap.size w2 w3 from hb); have HP3 := hide (show w3.heap[w.heap.size]? = some (.cells X 41 (0, 0)) from blk_below hb (by first | omega | (simp <;> omega)) HP2.out); have HZ3 := hide (show w3.heap[w.heap.size + 1]? = some (.cells #[.slice none 0 0, .slice none 0 0, .slice none 0 0, .int .i64 0, .int .i64 0, .int .i64 0, .int .i64 0, .int .i64 0, .int .i64 0, .int .i64 0, .int .i64 0, .int .i64 0, .int .i64 0, .int .i64 0, .int .i64 0, .int .i64 0, .int .i64 0, .slice none 0 0, .slice none 0 0, .slice none 0 0, .slice none 0 0, .slice none 0 0] 41 (0, 0)) from blk_below hb (by first | omega | (simp <;> omega)) HZ2.out); (have q3B : Below w2.heap.size w2 w3 := (by refine Below.trans ?_ (hb.mono (by first | omega | (simp <;> omega))); (repeat (first | (with_reducible first | exact Below.refl _ _ | assumption | refine Below.drew ?_) | ((with_reducible first | refine Below.alloc ?_ ?_ _ | refine Below.setCell ?_ ?_ _); rotate_left; (first | omega | (simp <;> omega)))))); have q3z := hb.size; (try simp at q3z); have q3t : w2.heap.size ≤ w3.heap.size := (by omega); have q3s0 : w.heap.size < w3.heap.size := (by omega); have q3n0_0 : ¬ w3.heap.size = w.heap.size := (by omega); have q3n0_1 : ¬ w3.heap.size + 1 = w.heap.size := (by omega); have q3n0_2 : ¬ w3.heap.size + 2 = w.heap.size := (by omega); have q3c0_0 := hb.cell (p := ⟨w.heap.size, 0, none⟩) (by first | omega | (simp <;> omega)); simp [go_sem, *] at q3c0_0; have q3c0_2 := hb.cell (p := ⟨w.heap.size, 2, none⟩) (by first | omega | (simp <;> omega)); simp [go_sem, *] at q3c0_2; have q3c0_18 := hb.cell (p := ⟨w.heap.size, 18, none⟩) (by first | omega | (simp <;> omega)); simp [go_sem, *] at q3c0_18; have q3f0 := fun o => hb.frozen (p := ⟨w.heap.size, o, none⟩) (by first | omega | (simp <;> omega)); simp [go_sem, *] at q3f0; have q3o : ∀ b o, b < w2.heap.size → w3.cell? ⟨b, o, none⟩ = w2.cell? ⟨b, o, none⟩ := fun b o h => q3B.cell (p := ⟨b, o, none⟩) h; have hbS := hb; have hbS3 := hb; clear hb); have HB3 := hide (HB2.out.trans (q3B.mono HB2.out.size)); have t3 : w.heap.size + 2 ≤ w3.heap.size := (by omega))
            refine hK.out _ _ ?_ (fun hHeld => ?_)
            · exact fun _ _ h => absurd h (Nat.not_lt_zero _)
            clear hK K
            (try simp only [Act.put, putA, putB, putC])
            refine wpAnyH_ready (rs := [10]) (by kernel_rfl) (by simp) ?_
            refine ord_run (i := 10) (preB 11 4) rfl (by kernel_rfl) (by rfl) (fun K hK => ?_) AllReadyH.nil
            go_simp
            refine hK.out _ _ ?_ (fun hHeld => ?_)
            · exact fun _ _ h => absurd h (Nat.not_lt_zero _)
            clear hK K
            (try simp only [Act.put, putA, putB, putC])
            refine ord_take (i := 11) (preB 12 3) ?_ rfl (by kernel_rfl) (by kernel_rfl) (by kernel_rfl) (by kernel_rfl) (fun _ _ _ h => h) hHeld (by rfl) (fun wx hSx => ?_) ?_
            rotate_left
            · (unfold SB at hSx; go_simp; (try with_reducible rfl))
            (try simp only [Act.put, putA, putB, putC])
            refine wpAnyH_ready (rs := [12]) (by kernel_rfl) (by simp) ?_
            refine ord_run (i := 12) (preB 13 2) rfl (by kernel_rfl) (by rfl) (fun K hK => ?_) AllReadyH.nil
            go_simp
            refine hK.out _ _ ?_ (fun hHeld => ?_)
            · exact fun _ _ h => absurd h (Nat.not_lt_zero _)
            clear hK K
            (try simp only [Act.put, putA, putB, putC])
            refine ord_take (i := 13) (preB 14 1) ?_ rfl (by kernel_rfl) (by kernel_rfl) (by kernel_rfl) (by kernel_rfl) (fun _ _ _ h => h) hHeld (by rfl) (fun wx hSx => ?_) ?_
            rotate_left
            · (unfold SB at hSx; go_simp; (try with_reducible rfl))
            (try simp only [Act.put, putA, putB, putC])
            refine wpAnyH_ready (rs := [14]) (by kernel_rfl) (by simp) ?_
            refine ord_run (i := 14) (preB 15 0) rfl (by kernel_rfl) (by rfl) (fun K hK => ?_) AllReadyH.nil
            go_simp
            refine hK.out _ _ ?_ (fun hHeld => ?_)
            · exact fun _ _ h => absurd h (Nat.not_lt_zero _)
            clear hK K
            (try simp only [Act.put, putA, putB, putC])
            refine wpAnyH_done (by kernel_rfl) ?_ _
            go_wp2_with fail
            go_meet
            have hv : ∀ q, (Value.slice B18 n18 p18).ownBlock = some q → w2.heap.size ≤ q := fun q hq => by have h3 := own_ge HN18.out q hq; (try simp at h3); omega
            have r0 : RowT (Av (w.heap.size + 2) (.slice B18 n18 p18) w3) w3 1 B0 n0 c0 D0 := av_old (HN0.out.mono (S' := New (w.heap.size + 2) w2) (fun b h => ⟨by have h3 := h.1; (try simp at h3); omega, Nat.lt_of_lt_of_le h.2 HM2.out.size⟩) (fun b h => HM2.out.block b h.2)) (Nat.le_refl _) HM3.out hv
            have r2 : RowT (Av (w.heap.size + 2) (.slice B18 n18 p18) w3) w3 3 B2 n2 c2 D2 := av_old (HN2.out.mono (S' := New (w.heap.size + 2) w2) (fun b h => ⟨by have h3 := h.1; (try simp at h3); omega, h.2⟩) (fun _ _ => rfl)) (Nat.le_refl _) HM3.out hv
            have ro : w3.ownsRow (w.heap.size + 2) 44 7 (.slice B18 n18 p18) n18 (rowA (elA 9 C18) n18) := own_low HN18.out (by first | omega | (simp <;> omega))
            exact ⟨B0, p0, D0, B2, p2, D2, B18, p18, blk_setCell (blk_setCell (blk_setCell (HP3.out))), blk_setOther (by simp) (blk_setOther (by simp) (blk_setOther (by simp) (HZ3.out))), ⟨av_keep r0 (by simp) (fun b h1 h2 => by refine (Go.Deep.blk_setCell_other _ _ _ _ (by simp; omega)).trans ?_; refine (Go.Deep.blk_setCell_other _ _ _ _ (by simp; omega)).trans ?_; refine (Go.Deep.blk_setCell_other _ _ _ _ (by simp; omega)).trans ?_; (with_reducible exact rfl)), HC0.out⟩, ⟨av_keep r2 (by simp) (fun b h1 h2 => by refine (Go.Deep.blk_setCell_other _ _ _ _ (by simp; omega)).trans ?_; refine (Go.Deep.blk_setCell_other _ _ _ _ (by simp; omega)).trans ?_; refine (Go.Deep.blk_setCell_other _ _ _ _ (by simp; omega)).trans ?_; (with_reducible exact rfl)), HC2.out⟩, own_keepB ro (fun b h1 h2 => by refine (Go.Deep.blk_setCell_other _ _ _ _ (by simp; omega)).trans ?_; refine (Go.Deep.blk_setCell_other _ _ _ _ (by simp; omega)).trans ?_; refine (Go.Deep.blk_setCell_other _ _ _ _ (by simp; omega)).trans ?_; (with_reducible exact rfl)), HB3.out.trans (by (repeat (first | (with_reducible first | exact Below.refl _ _ | assumption | refine Below.drew ?_) | ((with_reducible first | refine Below.alloc ?_ ?_ _ | refine Below.setCell ?_ ?_ _); rotate_left; (first | omega | (simp <;> omega)))))), (by simp; omega)⟩
          refine ord_run (i := 7) #[true, true, true, true, true, false, true, true, false, false, false, false, false, false, false] rfl (by kernel_rfl) (by rfl) (fun K hK => ?_) ?_
          · go_simp
            refine hK.out _ _ ?_ (fun hHeld => ?_)
            · exact fun _ _ h => absurd h (Nat.not_lt_zero _)
            clear hK K
            (try simp only [Act.put, putA, putB, putC])
            refine ord_take (i := 9) #[true, true, true, true, true, false, true, true, false, true, false, false, false, false, false] ?_ rfl (by kernel_rfl) (by kernel_rfl) (by kernel_rfl) (by kernel_rfl) (fun _ _ _ h => h) hHeld (by rfl) (fun wx hSx => ?_) ?_
            rotate_left
            · (unfold SB at hSx; go_simp; (try with_reducible rfl))
            (try simp only [Act.put, putA, putB, putC])
            refine wpAnyH_ready (rs := [5]) (by kernel_rfl) (by simp) ?_
            refine ord_run (i := 5) #[true, true, true, true, true, true, true, true, false, true, false, false, false, false, false] rfl (by kernel_rfl) (by rfl) (fun K hK => ?_) AllReadyH.nil
            go_simp
            go_wp2_with (go_at_call 66; refine (HF2.out _ (HR2.out.below (HB1.out.trans (by (repeat (first | (with_reducible first | exact Below.refl _ _ | assumption | refine Below.drew ?_) | ((with_reducible first | refine Below.alloc ?_ ?_ _ | refine Below.setCell ?_ ?_ _); rotate_left; (first | omega | (simp <;> omega))))))))).mono ?_; rintro r w2 ⟨B2, p2, D2, rfl, hc, hN, hb⟩; have HC2 := hide hc; clear hc; have HN2 := hide hN; clear hN; have HM2 := hide (show Below w1.heap.size w1 w2 from hb); have HP2 := hide (show w2.heap[w.heap.size]? = some (.cells X 41 (0, 0)) from blk_below hb (by first | omega | (simp <;> omega)) HP1.out); have HZ2 := hide (show w2.heap[w.heap.size + 1]? = some (.cells #[.slice none 0 0, .slice none 0 0, .slice none 0 0, .int .i64 0, .int .i64 0, .int .i64 0, .int .i64 0, .int .i64 0, .int .i64 0, .int .i64 0, .int .i64 0, .int .i64 0, .int .i64 0, .int .i64 0, .int .i64 0, .int .i64 0, .int .i64 0, .slice none 0 0, .slice none 0 0, .slice none 0 0, .slice none 0 0, .slice none 0 0] 41 (0, 0)) from blk_below hb (by first | omega | (simp <;> omega)) HZ1.out); (have q2B : Below w1.heap.size w1 w2 := (by refine Below.trans ?_ (hb.mono (by first | omega | (simp <;> omega))); (repeat (first | (with_reducible first | exact Below.refl _ _ | assumption | refine Below.drew ?_) | ((with_reducible first | refine Below.alloc ?_ ?_ _ | refine Below.setCell ?_ ?_ _); rotate_left; (first | omega | (simp <;> omega)))))); have q2z := hb.size; (try simp at q2z); have q2t : w1.heap.size ≤ w2.heap.size := (by omega); have q2s0 : w.heap.size < w2.heap.size := (by omega); have q2n0_0 : ¬ w2.heap.size = w.heap.size := (by omega); have q2n0_1 : ¬ w2.heap.size + 1 = w.heap.size := (by omega); have q2n0_2 : ¬ w2.heap.size + 2 = w.heap.size := (by omega); have q2c0_0 := hb.cell (p := ⟨w.heap.size, 0, none⟩) (by first | omega | (simp <;> omega)); simp [go_sem, *] at q2c0_0; have q2c0_2 := hb.cell (p := ⟨w.heap.size, 2, none⟩) (by first | omega | (simp <;> omega)); simp [go_sem, *] at q2c0_2; have q2c0_18 := hb.cell (p := ⟨w.heap.size, 18, none⟩) (by first | omega | (simp <;> omega)); simp [go_sem, *] at q2c0_18; have q2f0 := fun o => hb.frozen (p := ⟨w.heap.size, o, none⟩) (by first | omega | (simp <;> omega)); simp [go_sem, *] at q2f0; have q2o : ∀ b o, b < w1.heap.size → w2.cell? ⟨b, o, none⟩ = w1.cell? ⟨b, o, none⟩ := fun b o h => q2B.cell (p := ⟨b, o, none⟩) h; have hbS := hb; have hbS2 := hb; clear hb); have HB2 := hide (HB1.out.trans (q2B.mono HB1.out.size)); have t2 : w.heap.size + 2 ≤ w2.heap.size := (by omega))
            refine hK.out _ _ ?_ (fun hHeld => ?_)
            · exact fun _ _ h => absurd h (Nat.not_lt_zero _)
            clear hK K
            (try simp only [Act.put, putA, putB, putC])
            refine wpAnyH_ready (rs := [8]) (by kernel_rfl) (by simp) ?_
            refine ord_run (i := 8) (preB 10 5) rfl (by kernel_rfl) (by rfl) (fun K hK => ?_) AllReadyH.nil
            go_simp
            go_wp2_with (go_at_call 67; refine (HF18.out _ (HR18.out.below (HB2.out.trans (by (repeat (first | (with_reducible first | exact Below.refl _ _ | assumption | refine Below.drew ?_) | ((with_reducible first | refine Below.alloc ?_ ?_ _ | refine Below.setCell ?_ ?_ _); rotate_left; (first | omega | (simp <;> omega))))))))).mono ?_; rintro r w3 ⟨B18, p18, rfl, hN, hb⟩; have HN18 := hide hN; clear hN; have HM3 := hide (show Below w2.heap.size w2 w3 from hb); have HP3 := hide (show w3.heap[w.heap.size]? = some (.cells X 41 (0, 0)) from blk_below hb (by first | omega | (simp <;> omega)) HP2.out); have HZ3 := hide (show w3.heap[w.heap.size + 1]? = some (.cells #[.slice none 0 0, .slice none 0 0, .slice none 0 0, .int .i64 0, .int .i64 0, .int .i64 0, .int .i64 0, .int .i64 0, .int .i64 0, .int .i64 0, .int .i64 0, .int .i64 0, .int .i64 0, .int .i64 0, .int .i64 0, .int .i64 0, .int .i64 0, .slice none 0 0, .slice none 0 0, .slice none 0 0, .slice none 0 0, .slice none 0 0] 41 (0, 0)) from blk_below hb (by first | omega | (simp <;> omega)) HZ2.out); (have q3B : Below w2.heap.size w2 w3 := (by refine Below.trans ?_ (hb.mono (by first | omega | (simp <;> omega))); (repeat (first | (with_reducible first | exact Below.refl _ _ | assumption | refine Below.drew ?_) | ((with_reducible first | refine Below.alloc ?_ ?_ _ | refine Below.setCell ?_ ?_ _); rotate_left; (first | omega | (simp <;> omega)))))); have q3z := hb.size; (try simp at q3z); have q3t : w2.heap.size ≤ w3.heap.size := (by omega); have q3s0 : w.heap.size < w3.heap.size := (by omega); have q3n0_0 : ¬ w3.heap.size = w.heap.size := (by omega); have q3n0_1 : ¬ w3.heap.size + 1 = w.heap.size := (by omega); have q3n0_2 : ¬ w3.heap.size + 2 = w.heap.size := (by omega); have q3c0_0 := hb.cell (p := ⟨w.heap.size, 0, none⟩) (by first | omega | (simp <;> omega)); simp [go_sem, *] at q3c0_0; have q3c0_2 := hb.cell (p := ⟨w.heap.size, 2, none⟩) (by first | omega | (simp <;> omega)); simp [go_sem, *] at q3c0_2; have q3c0_18 := hb.cell (p := ⟨w.heap.size, 18, none⟩) (by first | omega | (simp <;> omega)); simp [go_sem, *] at q3c0_18; have q3f0 := fun o => hb.frozen (p := ⟨w.heap.size, o, none⟩) (by first | omega | (simp <;> omega)); simp [go_sem, *] at q3f0; have q3o : ∀ b o, b < w2.heap.size → w3.cell? ⟨b, o, none⟩ = w2.cell? ⟨b, o, none⟩ := fun b o h => q3B.cell (p := ⟨b, o, none⟩) h; have hbS := hb; have hbS3 := hb; clear hb); have HB3 := hide (HB2.out.trans (q3B.mono HB2.out.size)); have t3 : w.heap.size + 2 ≤ w3.heap.size := (by omega))
            refine hK.out _ _ ?_ (fun hHeld => ?_)
            · exact fun _ _ h => absurd h (Nat.not_lt_zero _)
            clear hK K
            (try simp only [Act.put, putA, putB, putC])
            refine wpAnyH_ready (rs := [10]) (by kernel_rfl) (by simp) ?_
            refine ord_run (i := 10) (preB 11 4) rfl (by kernel_rfl) (by rfl) (fun K hK => ?_) AllReadyH.nil
            go_simp
            refine hK.out _ _ ?_ (fun hHeld => ?_)
            · exact fun _ _ h => absurd h (Nat.not_lt_zero _)
            clear hK K
            (try simp only [Act.put, putA, putB, putC])
            refine ord_take (i := 11) (preB 12 3) ?_ rfl (by kernel_rfl) (by kernel_rfl) (by kernel_rfl) (by kernel_rfl) (fun _ _ _ h => h) hHeld (by rfl) (fun wx hSx => ?_) ?_
            rotate_left
            · (unfold SB at hSx; go_simp; (try with_reducible rfl))
            (try simp only [Act.put, putA, putB, putC])
            refine wpAnyH_ready (rs := [12]) (by kernel_rfl) (by simp) ?_
            refine ord_run (i := 12) (preB 13 2) rfl (by kernel_rfl) (by rfl) (fun K hK => ?_) AllReadyH.nil
            go_simp
            refine hK.out _ _ ?_ (fun hHeld => ?_)
            · exact fun _ _ h => absurd h (Nat.not_lt_zero _)
            clear hK K
            (try simp only [Act.put, putA, putB, putC])
            refine ord_take (i := 13) (preB 14 1) ?_ rfl (by kernel_rfl) (by kernel_rfl) (by kernel_rfl) (by kernel_rfl) (fun _ _ _ h => h) hHeld (by rfl) (fun wx hSx => ?_) ?_
            rotate_left
            · (unfold SB at hSx; go_simp; (try with_reducible rfl))
            (try simp only [Act.put, putA, putB, putC])
            refine wpAnyH_ready (rs := [14]) (by kernel_rfl) (by simp) ?_
            refine ord_run (i := 14) (preB 15 0) rfl (by kernel_rfl) (by rfl) (fun K hK => ?_) AllReadyH.nil
            go_simp
            refine hK.out _ _ ?_ (fun hHeld => ?_)
            · exact fun _ _ h => absurd h (Nat.not_lt_zero _)
            clear hK K
            (try simp only [Act.put, putA, putB, putC])
            refine wpAnyH_done (by kernel_rfl) ?_ _
            go_wp2_with fail
            go_meet
            have hv : ∀ q, (Value.slice B18 n18 p18).ownBlock = some q → w2.heap.size ≤ q := fun q hq => by have h3 := own_ge HN18.out q hq; (try simp at h3); omega
            have r0 : RowT (Av (w.heap.size + 2) (.slice B18 n18 p18) w3) w3 1 B0 n0 c0 D0 := av_old (HN0.out.mono (S' := New (w.heap.size + 2) w2) (fun b h => ⟨by have h3 := h.1; (try simp at h3); omega, Nat.lt_of_lt_of_le h.2 HM2.out.size⟩) (fun b h => HM2.out.block b h.2)) (Nat.le_refl _) HM3.out hv
            have r2 : RowT (Av (w.heap.size + 2) (.slice B18 n18 p18) w3) w3 3 B2 n2 c2 D2 := av_old (HN2.out.mono (S' := New (w.heap.size + 2) w2) (fun b h => ⟨by have h3 := h.1; (try simp at h3); omega, h.2⟩) (fun _ _ => rfl)) (Nat.le_refl _) HM3.out hv
            have ro : w3.ownsRow (w.heap.size + 2) 44 7 (.slice B18 n18 p18) n18 (rowA (elA 9 C18) n18) := own_low HN18.out (by first | omega | (simp <;> omega))
            exact ⟨B0, p0, D0, B2, p2, D2, B18, p18, blk_setCell (blk_setCell (blk_setCell (HP3.out))), blk_setOther (by simp) (blk_setOther (by simp) (blk_setOther (by simp) (HZ3.out))), ⟨av_keep r0 (by simp) (fun b h1 h2 => by refine (Go.Deep.blk_setCell_other _ _ _ _ (by simp; omega)).trans ?_; refine (Go.Deep.blk_setCell_other _ _ _ _ (by simp; omega)).trans ?_; refine (Go.Deep.blk_setCell_other _ _ _ _ (by simp; omega)).trans ?_; (with_reducible exact rfl)), HC0.out⟩, ⟨av_keep r2 (by simp) (fun b h1 h2 => by refine (Go.Deep.blk_setCell_other _ _ _ _ (by simp; omega)).trans ?_; refine (Go.Deep.blk_setCell_other _ _ _ _ (by simp; omega)).trans ?_; refine (Go.Deep.blk_setCell_other _ _ _ _ (by simp; omega)).trans ?_; (with_reducible exact rfl)), HC2.out⟩, own_keepB ro (fun b h1 h2 => by refine (Go.Deep.blk_setCell_other _ _ _ _ (by simp; omega)).trans ?_; refine (Go.Deep.blk_setCell_other _ _ _ _ (by simp; omega)).trans ?_; refine (Go.Deep.blk_setCell_other _ _ _ _ (by simp; omega)).trans ?_; (with_reducible exact rfl)), HB3.out.trans (by (repeat (first | (with_reducible first | exact Below.refl _ _ | assumption | refine Below.drew ?_) | ((with_reducible first | refine Below.alloc ?_ ?_ _ | refine Below.setCell ?_ ?_ _); rotate_left; (first | omega | (simp <;> omega)))))), (by simp; omega)⟩
          exact AllReadyH.nil
        refine ord_run (i := 7) #[true, true, false, true, true, false, true, true, false, false, false, false, false, false, false] rfl (by kernel_rfl) (by rfl) (fun K hK => ?_) ?_
        · go_simp
          refine hK.out _ _ ?_ (fun hHeld => ?_)
          · exact fun _ _ h => absurd h (Nat.not_lt_zero _)
          clear hK K
          (try simp only [Act.put, putA, putB, putC])
          refine wpAnyH_ready (rs := [2]) (by kernel_rfl) (by simp) ?_
          refine ord_run (i := 2) #[true, true, true, true, true, false, true, true, false, false, false, false, false, false, false] rfl (by kernel_rfl) (by rfl) (fun K hK => ?_) AllReadyH.nil
          go_simp
          go_wp2_with (go_at_call 65; refine (HF0.out _ (HR0.out.below (by (repeat (first | (with_reducible first | exact Below.refl _ _ | assumption | refine Below.drew ?_) | ((with_reducible first | refine Below.alloc ?_ ?_ _ | refine Below.setCell ?_ ?_ _); rotate_left; (first | omega | (simp <;> omega)))))))).mono ?_; rintro r w1 ⟨B0, p0, D0, rfl, hc, hN, hb⟩; have HC0 := hide hc; clear hc; have HN0 := hide hN; clear hN; have HP1 := hide (show w1.heap[w.heap.size]? = some (.cells X 41 (0, 0)) from blk_below hb (by first | omega | (simp <;> omega)) (by repeat (first | (exact blk_new (by simp)) | (with_reducible refine blk_drew ?_) | (with_reducible refine blk_under ?_)))); have HZ1 := hide (show w1.heap[w.heap.size + 1]? = some (.cells #[.slice none 0 0, .slice none 0 0, .slice none 0 0, .int .i64 0, .int .i64 0, .int .i64 0, .int .i64 0, .int .i64 0, .int .i64 0, .int .i64 0, .int .i64 0, .int .i64 0, .int .i64 0, .int .i64 0, .int .i64 0, .int .i64 0, .int .i64 0, .slice none 0 0, .slice none 0 0, .slice none 0 0, .slice none 0 0, .slice none 0 0] 41 (0, 0)) from blk_below hb (by first | omega | (simp <;> omega)) (by first | exact blk_new (by simp) | exact blk_drew (blk_new (by simp)))); (have q1B : Below w.heap.size w w1 := (by refine Below.trans ?_ (hb.mono (by first | omega | (simp <;> omega))); (repeat (first | (with_reducible first | exact Below.refl _ _ | assumption | refine Below.drew ?_) | ((with_reducible first | refine Below.alloc ?_ ?_ _ | refine Below.setCell ?_ ?_ _); rotate_left; (first | omega | (simp <;> omega)))))); have q1z := hb.size; (try simp at q1z); have q1t : w.heap.size ≤ w1.heap.size := (by omega); have q1s0 : w.heap.size < w1.heap.size := (by omega); have q1n0_0 : ¬ w1.heap.size = w.heap.size := (by omega); have q1n0_1 : ¬ w1.heap.size + 1 = w.heap.size := (by omega); have q1n0_2 : ¬ w1.heap.size + 2 = w.heap.size := (by omega); have q1c0_0 := hb.cell (p := ⟨w.heap.size, 0, none⟩) (by first | omega | (simp <;> omega)); simp [go_sem, *] at q1c0_0; have q1c0_2 := hb.cell (p := ⟨w.heap.size, 2, none⟩) (by first | omega | (simp <;> omega)); simp [go_sem, *] at q1c0_2; have q1c0_18 := hb.cell (p := ⟨w.heap.size, 18, none⟩) (by first | omega | (simp <;> omega)); simp [go_sem, *] at q1c0_18; have q1f0 := fun o => hb.frozen (p := ⟨w.heap.size, o, none⟩) (by first | omega | (simp <;> omega)); simp [go_sem, *] at q1f0; have q1o : ∀ b o, b < w.heap.size → w1.cell? ⟨b, o, none⟩ = w.cell? ⟨b, o, none⟩ := fun b o h => q1B.cell (p := ⟨b, o, none⟩) h; have hbS := hb; have hbS1 := hb; clear hb); have HB1 := hide q1B; have t1 : w.heap.size + 2 ≤ w1.heap.size := (by omega))
          refine hK.out _ _ ?_ (fun hHeld => ?_)
          · exact fun _ _ h => absurd h (Nat.not_lt_zero _)
          clear hK K
          (try simp only [Act.put, putA, putB, putC])
          refine ord_take (i := 9) #[true, true, true, true, true, false, true, true, false, true, false, false, false, false, false] ?_ rfl (by kernel_rfl) (by kernel_rfl) (by kernel_rfl) (by kernel_rfl) (fun _ _ _ h => h) hHeld (by rfl) (fun wx hSx => ?_) ?_
          rotate_left
          · (unfold SB at hSx; go_simp; (try with_reducible rfl))
          (try simp only [Act.put, putA, putB, putC])
          refine wpAnyH_ready (rs := [5]) (by kernel_rfl) (by simp) ?_
          refine ord_run (i := 5) #[true, true, true, true, true, true, true, true, false, true, false, false, false, false, false] rfl (by kernel_rfl) (by rfl) (fun K hK => ?_) AllReadyH.nil
          go_simp
          go_wp2_with (go_at_call 66; refine (HF2.out _ (HR2.out.below (HB1.out.trans (by (repeat (first | (with_reducible first | exact Below.refl _ _ | assumption | refine Below.drew ?_) | ((with_reducible first | refine Below.alloc ?_ ?_ _ | refine Below.setCell ?_ ?_ _); rotate_left; (first | omega | (simp <;> omega))))))))).mono ?_; rintro r w2 ⟨B2, p2, D2, rfl, hc, hN, hb⟩; have HC2 := hide hc; clear hc; have HN2 := hide hN; clear hN; have HM2 := hide (show Below w1.heap.size w1 w2 from hb); have HP2 := hide (show w2.heap[w.heap.size]? = some (.cells X 41 (0, 0)) from blk_below hb (by first | omega | (simp <;> omega)) HP1.out); have HZ2 := hide (show w2.heap[w.heap.size + 1]? = some (.cells #[.slice none 0 0, .slice none 0 0, .slice none 0 0, .int .i64 0, .int .i64 0, .int .i64 0, .int .i64 0, .int .i64 0, .int .i64 0, .int .i64 0, .int .i64 0, .int .i64 0, .int .i64 0, .int .i64 0, .int .i64 0, .int .i64 0, .int .i64 0, .slice none 0 0, .slice none 0 0, .slice none 0 0, .slice none 0 0, .slice none 0 0] 41 (0, 0)) from blk_below hb (by first | omega | (simp <;> omega)) HZ1.out); (have q2B : Below w1.heap.size w1 w2 := (by refine Below.trans ?_ (hb.mono (by first | omega | (simp <;> omega))); (repeat (first | (with_reducible first | exact Below.refl _ _ | assumption | refine Below.drew ?_) | ((with_reducible first | refine Below.alloc ?_ ?_ _ | refine Below.setCell ?_ ?_ _); rotate_left; (first | omega | (simp <;> omega)))))); have q2z := hb.size; (try simp at q2z); have q2t : w1.heap.size ≤ w2.heap.size := (by omega); have q2s0 : w.heap.size < w2.heap.size := (by omega); have q2n0_0 : ¬ w2.heap.size = w.heap.size := (by omega); have q2n0_1 : ¬ w2.heap.size + 1 = w.heap.size := (by omega); have q2n0_2 : ¬ w2.heap.size + 2 = w.heap.size := (by omega); have q2c0_0 := hb.cell (p := ⟨w.heap.size, 0, none⟩) (by first | omega | (simp <;> omega)); simp [go_sem, *] at q2c0_0; have q2c0_2 := hb.cell (p := ⟨w.heap.size, 2, none⟩) (by first | omega | (simp <;> omega)); simp [go_sem, *] at q2c0_2; have q2c0_18 := hb.cell (p := ⟨w.heap.size, 18, none⟩) (by first | omega | (simp <;> omega)); simp [go_sem, *] at q2c0_18; have q2f0 := fun o => hb.frozen (p := ⟨w.heap.size, o, none⟩) (by first | omega | (simp <;> omega)); simp [go_sem, *] at q2f0; have q2o : ∀ b o, b < w1.heap.size → w2.cell? ⟨b, o, none⟩ = w1.cell? ⟨b, o, none⟩ := fun b o h => q2B.cell (p := ⟨b, o, none⟩) h; have hbS := hb; have hbS2 := hb; clear hb); have HB2 := hide (HB1.out.trans (q2B.mono HB1.out.size)); have t2 : w.heap.size + 2 ≤ w2.heap.size := (by omega))
          refine hK.out _ _ ?_ (fun hHeld => ?_)
          · exact fun _ _ h => absurd h (Nat.not_lt_zero _)
          clear hK K
          (try simp only [Act.put, putA, putB, putC])
          refine wpAnyH_ready (rs := [8]) (by kernel_rfl) (by simp) ?_
          refine ord_run (i := 8) (preB 10 5) rfl (by kernel_rfl) (by rfl) (fun K hK => ?_) AllReadyH.nil
          go_simp
          go_wp2_with (go_at_call 67; refine (HF18.out _ (HR18.out.below (HB2.out.trans (by (repeat (first | (with_reducible first | exact Below.refl _ _ | assumption | refine Below.drew ?_) | ((with_reducible first | refine Below.alloc ?_ ?_ _ | refine Below.setCell ?_ ?_ _); rotate_left; (first | omega | (simp <;> omega))))))))).mono ?_; rintro r w3 ⟨B18, p18, rfl, hN, hb⟩; have HN18 := hide hN; clear hN; have HM3 := hide (show Below w2.heap.size w2 w3 from hb); have HP3 := hide (show w3.heap[w.heap.size]? = some (.cells X 41 (0, 0)) from blk_below hb (by first | omega | (simp <;> omega)) HP2.out); have HZ3 := hide (show w3.heap[w.heap.size + 1]? = some (.cells #[.slice none 0 0, .slice none 0 0, .slice none 0 0, .int .i64 0, .int .i64 0, .int .i64 0, .int .i64 0, .int .i64 0, .int .i64 0, .int .i64 0, .int .i64 0, .int .i64 0, .int .i64 0, .int .i64 0, .int .i64 0, .int .i64 0, .int .i64 0, .slice none 0 0, .slice none 0 0, .slice none 0 0, .slice none 0 0, .slice none 0 0] 41 (0, 0)) from blk_below hb (by first | omega | (simp <;> omega)) HZ2.out); (have q3B : Below w2.heap.size w2 w3 := (by refine Below.trans ?_ (hb.mono (by first | omega | (simp <;> omega))); (repeat (first | (with_reducible first | exact Below.refl _ _ | assumption | refine Below.drew ?_) | ((with_reducible first | refine Below.alloc ?_ ?_ _ | refine Below.setCell ?_ ?_ _); rotate_left; (first | omega | (simp <;> omega)))))); have q3z := hb.size; (try simp at q3z); have q3t : w2.heap.size ≤ w3.heap.size := (by omega); have q3s0 : w.heap.size < w3.heap.size := (by omega); have q3n0_0 : ¬ w3.heap.size = w.heap.size := (by omega); have q3n0_1 : ¬ w3.heap.size + 1 = w.heap.size := (by omega); have q3n0_2 : ¬ w3.heap.size + 2 = w.heap.size := (by omega); have q3c0_0 := hb.cell (p := ⟨w.heap.size, 0, none⟩) (by first | omega | (simp <;> omega)); simp [go_sem, *] at q3c0_0; have q3c0_2 := hb.cell (p := ⟨w.heap.size, 2, none⟩) (by first | omega | (simp <;> omega)); simp [go_sem, *] at q3c0_2; have q3c0_18 := hb.cell (p := ⟨w.heap.size, 18, none⟩) (by first | omega | (simp <;> omega)); simp [go_sem, *] at q3c0_18; have q3f0 := fun o => hb.frozen (p := ⟨w.heap.size, o, none⟩) (by first | omega | (simp <;> omega)); simp [go_sem, *] at q3f0; have q3o : ∀ b o, b < w2.heap.size → w3.cell? ⟨b, o, none⟩ = w2.cell? ⟨b, o, none⟩ := fun b o h => q3B.cell (p := ⟨b, o, none⟩) h; have hbS := hb; have hbS3 := hb; clear hb); have HB3 := hide (HB2.out.trans (q3B.mono HB2.out.size)); have t3 : w.heap.size + 2 ≤ w3.heap.size := (by omega))
          refine hK.out _ _ ?_ (fun hHeld => ?_)
          · exact fun _ _ h => absurd h (Nat.not_lt_zero _)
          clear hK K
          (try simp only [Act.put, putA, putB, putC])
          refine wpAnyH_ready (rs := [10]) (by kernel_rfl) (by simp) ?_
          refine ord_run (i := 10) (preB 11 4) rfl (by kernel_rfl) (by rfl) (fun K hK => ?_) AllReadyH.nil
          go_simp
          refine hK.out _ _ ?_ (fun hHeld => ?_)
          · exact fun _ _ h => absurd h (Nat.not_lt_zero _)
          clear hK K
          (try simp only [Act.put, putA, putB, putC])
          refine ord_take (i := 11) (preB 12 3) ?_ rfl (by kernel_rfl) (by kernel_rfl) (by kernel_rfl) (by kernel_rfl) (fun _ _ _ h => h) hHeld (by rfl) (fun wx hSx => ?_) ?_
          rotate_left
          · (unfold SB at hSx; go_simp; (try with_reducible rfl))
          (try simp only [Act.put, putA, putB, putC])
          refine wpAnyH_ready (rs := [12]) (by kernel_rfl) (by simp) ?_
          refine ord_run (i := 12) (preB 13 2) rfl (by kernel_rfl) (by rfl) (fun K hK => ?_) AllReadyH.nil
          go_simp
          refine hK.out _ _ ?_ (fun hHeld => ?_)
          · exact fun _ _ h => absurd h (Nat.not_lt_zero _)
          clear hK K
          (try simp only [Act.put, putA, putB, putC])
          refine ord_take (i := 13) (preB 14 1) ?_ rfl (by kernel_rfl) (by kernel_rfl) (by kernel_rfl) (by kernel_rfl) (fun _ _ _ h => h) hHeld (by rfl) (fun wx hSx => ?_) ?_
          rotate_left
          · (unfold SB at hSx; go_simp; (try with_reducible rfl))
          (try simp only [Act.put, putA, putB, putC])
          refine wpAnyH_ready (rs := [14]) (by kernel_rfl) (by simp) ?_
          refine ord_run (i := 14) (preB 15 0) rfl (by kernel_rfl) (by rfl) (fun K hK => ?_) AllReadyH.nil
          go_simp
          refine hK.out _ _ ?_ (fun hHeld => ?_)
          · exact fun _ _ h => absurd h (Nat.not_lt_zero _)
          clear hK K
          (try simp only [Act.put, putA, putB, putC])
          refine wpAnyH_done (by kernel_rfl) ?_ _
          go_wp2_with fail
          go_meet
          have hv : ∀ q, (Value.slice B18 n18 p18).ownBlock = some q → w2.heap.size ≤ q := fun q hq => by have h3 := own_ge HN18.out q hq; (try simp at h3); omega
          have r0 : RowT (Av (w.heap.size + 2) (.slice B18 n18 p18) w3) w3 1 B0 n0 c0 D0 := av_old (HN0.out.mono (S' := New (w.heap.size + 2) w2) (fun b h => ⟨by have h3 := h.1; (try simp at h3); omega, Nat.lt_of_lt_of_le h.2 HM2.out.size⟩) (fun b h => HM2.out.block b h.2)) (Nat.le_refl _) HM3.out hv
          have r2 : RowT (Av (w.heap.size + 2) (.slice B18 n18 p18) w3) w3 3 B2 n2 c2 D2 := av_old (HN2.out.mono (S' := New (w.heap.size + 2) w2) (fun b h => ⟨by have h3 := h.1; (try simp at h3); omega, h.2⟩) (fun _ _ => rfl)) (Nat.le_refl _) HM3.out hv
          have ro : w3.ownsRow (w.heap.size + 2) 44 7 (.slice B18 n18 p18) n18 (rowA (elA 9 C18) n18) := own_low HN18.out (by first | omega | (simp <;> omega))
          exact ⟨B0, p0, D0, B2, p2, D2, B18, p18, blk_setCell (blk_setCell (blk_setCell (HP3.out))), blk_setOther (by simp) (blk_setOther (by simp) (blk_setOther (by simp) (HZ3.out))), ⟨av_keep r0 (by simp) (fun b h1 h2 => by refine (Go.Deep.blk_setCell_other _ _ _ _ (by simp; omega)).trans ?_; refine (Go.Deep.blk_setCell_other _ _ _ _ (by simp; omega)).trans ?_; refine (Go.Deep.blk_setCell_other _ _ _ _ (by simp; omega)).trans ?_; (with_reducible exact rfl)), HC0.out⟩, ⟨av_keep r2 (by simp) (fun b h1 h2 => by refine (Go.Deep.blk_setCell_other _ _ _ _ (by simp; omega)).trans ?_; refine (Go.Deep.blk_setCell_other _ _ _ _ (by simp; omega)).trans ?_; refine (Go.Deep.blk_setCell_other _ _ _ _ (by simp; omega)).trans ?_; (with_reducible exact rfl)), HC2.out⟩, own_keepB ro (fun b h1 h2 => by refine (Go.Deep.blk_setCell_other _ _ _ _ (by simp; omega)).trans ?_; refine (Go.Deep.blk_setCell_other _ _ _ _ (by simp; omega)).trans ?_; refine (Go.Deep.blk_setCell_other _ _ _ _ (by simp; omega)).trans ?_; (with_reducible exact rfl)), HB3.out.trans (by (repeat (first | (with_reducible first | exact Below.refl _ _ | assumption | refine Below.drew ?_) | ((with_reducible first | refine Below.alloc ?_ ?_ _ | refine Below.setCell ?_ ?_ _); rotate_left; (first | omega | (simp <;> omega)))))), (by simp; omega)⟩
        exact AllReadyH.nil
      refine ord_run (i := 7) #[true, true, false, true, false, false, true, true, false, false, false, false, false, false, false] rfl (by kernel_rfl) (by rfl) (fun K hK => ?_) ?_
      · go_simp
        refine hK.out _ _ ?_ (fun hHeld => ?_)
        · exact fun _ _ h => absurd h (Nat.not_lt_zero _)
        clear hK K
        (try simp only [Act.put, putA, putB, putC])
        refine wpAnyH_ready (rs := [2, 4]) (by kernel_rfl) (by simp) ?_
        refine ord_run (i := 2) #[true, true, true, true, false, false, true, true, false, false, false, false, false, false, false] rfl (by kernel_rfl) (by rfl) (fun K hK => ?_) ?_
        · go_simp
          go_wp2_with (go_at_call 65; refine (HF0.out _ (HR0.out.below (by (repeat (first | (with_reducible first | exact Below.refl _ _ | assumption | refine Below.drew ?_) | ((with_reducible first | refine Below.alloc ?_ ?_ _ | refine Below.setCell ?_ ?_ _); rotate_left; (first | omega | (simp <;> omega)))))))).mono ?_; rintro r w1 ⟨B0, p0, D0, rfl, hc, hN, hb⟩; have HC0 := hide hc; clear hc; have HN0 := hide hN; clear hN; have HP1 := hide (show w1.heap[w.heap.size]? = some (.cells X 41 (0, 0)) from blk_below hb (by first | omega | (simp <;> omega)) (by repeat (first | (exact blk_new (by simp)) | (with_reducible refine blk_drew ?_) | (with_reducible refine blk_under ?_)))); have HZ1 := hide (show w1.heap[w.heap.size + 1]? = some (.cells #[.slice none 0 0, .slice none 0 0, .slice none 0 0, .int .i64 0, .int .i64 0, .int .i64 0, .int .i64 0, .int .i64 0, .int .i64 0, .int .i64 0, .int .i64 0, .int .i64 0, .int .i64 0, .int .i64 0, .int .i64 0, .int .i64 0, .int .i64 0, .slice none 0 0, .slice none 0 0, .slice none 0 0, .slice none 0 0, .slice none 0 0] 41 (0, 0)) from blk_below hb (by first | omega | (simp <;> omega)) (by first | exact blk_new (by simp) | exact blk_drew (blk_new (by simp)))); (have q1B : Below w.heap.size w w1 := (by refine Below.trans ?_ (hb.mono (by first | omega | (simp <;> omega))); (repeat (first | (with_reducible first | exact Below.refl _ _ | assumption | refine Below.drew ?_) | ((with_reducible first | refine Below.alloc ?_ ?_ _ | refine Below.setCell ?_ ?_ _); rotate_left; (first | omega | (simp <;> omega)))))); have q1z := hb.size; (try simp at q1z); have q1t : w.heap.size ≤ w1.heap.size := (by omega); have q1s0 : w.heap.size < w1.heap.size := (by omega); have q1n0_0 : ¬ w1.heap.size = w.heap.size := (by omega); have q1n0_1 : ¬ w1.heap.size + 1 = w.heap.size := (by omega); have q1n0_2 : ¬ w1.heap.size + 2 = w.heap.size := (by omega); have q1c0_0 := hb.cell (p := ⟨w.heap.size, 0, none⟩) (by first | omega | (simp <;> omega)); simp [go_sem, *] at q1c0_0; have q1c0_2 := hb.cell (p := ⟨w.heap.size, 2, none⟩) (by first | omega | (simp <;> omega)); simp [go_sem, *] at q1c0_2; have q1c0_18 := hb.cell (p := ⟨w.heap.size, 18, none⟩) (by first | omega | (simp <;> omega)); simp [go_sem, *] at q1c0_18; have q1f0 := fun o => hb.frozen (p := ⟨w.heap.size, o, none⟩) (by first | omega | (simp <;> omega)); simp [go_sem, *] at q1f0; have q1o : ∀ b o, b < w.heap.size → w1.cell? ⟨b, o, none⟩ = w.cell? ⟨b, o, none⟩ := fun b o h => q1B.cell (p := ⟨b, o, none⟩) h; have hbS := hb; have hbS1 := hb; clear hb); have HB1 := hide q1B; have t1 : w.heap.size + 2 ≤ w1.heap.size := (by omega))
          refine hK.out _ _ ?_ (fun hHeld => ?_)
          · exact fun _ _ h => absurd h (Nat.not_lt_zero _)
          clear hK K
          (try simp only [Act.put, putA, putB, putC])
          refine wpAnyH_ready (rs := [4]) (by kernel_rfl) (by simp) ?_
          refine ord_run (i := 4) #[true, true, true, true, true, false, true, true, false, false, false, false, false, false, false] rfl (by kernel_rfl) (by rfl) (fun K hK => ?_) AllReadyH.nil
          go_simp
          refine hK.out _ _ ?_ (fun hHeld => ?_)
          · exact fun _ _ h => absurd h (Nat.not_lt_zero _)
          clear hK K
          (try simp only [Act.put, putA, putB, putC])
          refine ord_take (i := 9) #[true, true, true, true, true, false, true, true, false, true, false, false, false, false, false] ?_ rfl (by kernel_rfl) (by kernel_rfl) (by kernel_rfl) (by kernel_rfl) (fun _ _ _ h => h) hHeld (by rfl) (fun wx hSx => ?_) ?_
          rotate_left
          · (unfold SB at hSx; go_simp; (try with_reducible rfl))
          (try simp only [Act.put, putA, putB, putC])
          refine wpAnyH_ready (rs := [5]) (by kernel_rfl) (by simp) ?_
          refine ord_run (i := 5) #[true, true, true, true, true, true, true, true, false, true, false, false, false, false, false] rfl (by kernel_rfl) (by rfl) (fun K hK => ?_) AllReadyH.nil
          go_simp
          go_wp2_with (go_at_call 66; refine (HF2.out _ (HR2.out.below (HB1.out.trans (by (repeat (first | (with_reducible first | exact Below.refl _ _ | assumption | refine Below.drew ?_) | ((with_reducible first | refine Below.alloc ?_ ?_ _ | refine Below.setCell ?_ ?_ _); rotate_left; (first | omega | (simp <;> omega))))))))).mono ?_; rintro r w2 ⟨B2, p2, D2, rfl, hc, hN, hb⟩; have HC2 := hide hc; clear hc; have HN2 := hide hN; clear hN; have HM2 := hide (show Below w1.heap.size w1 w2 from hb); have HP2 := hide (show w2.heap[w.heap.size]? = some (.cells X 41 (0, 0)) from blk_below hb (by first | omega | (simp <;> omega)) HP1.out); have HZ2 := hide (show w2.heap[w.heap.size + 1]? = some (.cells #[.slice none 0 0, .slice none 0 0, .slice none 0 0, .int .i64 0, .int .i64 0, .int .i64 0, .int .i64 0, .int .i64 0, .int .i64 0, .int .i64 0, .int .i64 0, .int .i64 0, .int .i64 0, .int .i64 0, .int .i64 0, .int .i64 0, .int .i64 0, .slice none 0 0, .slice none 0 0, .slice none 0 0, .slice none 0 0, .slice none 0 0] 41 (0, 0)) from blk_below hb (by first | omega | (simp <;> omega)) HZ1.out); (have q2B : Below w1.heap.size w1 w2 := (by refine Below.trans ?_ (hb.mono (by first | omega | (simp <;> omega))); (repeat (first | (with_reducible first | exact Below.refl _ _ | assumption | refine Below.drew ?_) | ((with_reducible first | refine Below.alloc ?_ ?_ _ | refine Below.setCell ?_ ?_ _); rotate_left; (first | omega | (simp <;> omega)))))); have q2z := hb.size; (try simp at q2z); have q2t : w1.heap.size ≤ w2.heap.size := (by omega); have q2s0 : w.heap.size < w2.heap.size := (by omega); have q2n0_0 : ¬ w2.heap.size = w.heap.size := (by omega); have q2n0_1 : ¬ w2.heap.size + 1 = w.heap.size := (by omega); have q2n0_2 : ¬ w2.heap.size + 2 = w.heap.size := (by omega); have q2c0_0 := hb.cell (p := ⟨w.heap.size, 0, none⟩) (by first | omega | (simp <;> omega)); simp [go_sem, *] at q2c0_0; have q2c0_2 := hb.cell (p := ⟨w.heap.size, 2, none⟩) (by first | omega | (simp <;> omega)); simp [go_sem, *] at q2c0_2; have q2c0_18 := hb.cell (p := ⟨w.heap.size, 18, none⟩) (by first | omega | (simp <;> omega)); simp [go_sem, *] at q2c0_18; have q2f0 := fun o => hb.frozen (p := ⟨w.heap.size, o, none⟩) (by first | omega | (simp <;> omega)); simp [go_sem, *] at q2f0; have q2o : ∀ b o, b < w1.heap.size → w2.cell? ⟨b, o, none⟩ = w1.cell? ⟨b, o, none⟩ := fun b o h => q2B.cell (p := ⟨b, o, none⟩) h; have hbS := hb; have hbS2 := hb; clear hb); have HB2 := hide (HB1.out.trans (q2B.mono HB1.out.size)); have t2 : w.heap.size + 2 ≤ w2.heap.size := (by omega))
          refine hK.out _ _ ?_ (fun hHeld => ?_)
          · exact fun _ _ h => absurd h (Nat.not_lt_zero _)
          clear hK K
          (try simp only [Act.put, putA, putB, putC])
          refine wpAnyH_ready (rs := [8]) (by kernel_rfl) (by simp) ?_
          refine ord_run (i := 8) (preB 10 5) rfl (by kernel_rfl) (by rfl) (fun K hK => ?_) AllReadyH.nil
          go_simp
          go_wp2_with (go_at_call 67; refine (HF18.out _ (HR18.out.below (HB2.out.trans (by (repeat (first | (with_reducible first | exact Below.refl _ _ | assumption | refine Below.drew ?_) | ((with_reducible first | refine Below.alloc ?_ ?_ _ | refine Below.setCell ?_ ?_ _); rotate_left; (first | omega | (simp <;> omega))))))))).mono ?_; rintro r w3 ⟨B18, p18, rfl, hN, hb⟩; have HN18 := hide hN; clear hN; have HM3 := hide (show Below w2.heap.size w2 w3 from hb); have HP3 := hide (show w3.heap[w.heap.size]? = some (.cells X 41 (0, 0)) from blk_below hb (by first | omega | (simp <;> omega)) HP2.out); have HZ3 := hide (show w3.heap[w.heap.size + 1]? = some (.cells #[.slice none 0 0, .slice none 0 0, .slice none 0 0, .int .i64 0, .int .i64 0, .int .i64 0, .int .i64 0, .int .i64 0, .int .i64 0, .int .i64 0, .int .i64 0, .int .i64 0, .int .i64 0, .int .i64 0, .int .i64 0, .int .i64 0, .int .i64 0, .slice none 0 0, .slice none 0 0, .slice none 0 0, .slice none 0 0, .slice none 0 0] 41 (0, 0)) from blk_below hb (by first | omega | (simp <;> omega)) HZ2.out); (have q3B : Below w2.heap.size w2 w3 := (by refine Below.trans ?_ (hb.mono (by first | omega | (simp <;> omega))); (repeat (first | (with_reducible first | exact Below.refl _ _ | assumption | refine Below.drew ?_) | ((with_reducible first | refine Below.alloc ?_ ?_ _ | refine Below.setCell ?_ ?_ _); rotate_left; (first | omega | (simp <;> omega)))))); have q3z := hb.size; (try simp at q3z); have q3t : w2.heap.size ≤ w3.heap.size := (by omega); have q3s0 : w.heap.size < w3.heap.size := (by omega); have q3n0_0 : ¬ w3.heap.size = w.heap.size := (by omega); have q3n0_1 : ¬ w3.heap.size + 1 = w.heap.size := (by omega); have q3n0_2 : ¬ w3.heap.size + 2 = w.heap.size := (by omega); have q3c0_0 := hb.cell (p := ⟨w.heap.size, 0, none⟩) (by first | omega | (simp <;> omega)); simp [go_sem, *] at q3c0_0; have q3c0_2 := hb.cell (p := ⟨w.heap.size, 2, none⟩) (by first | omega | (simp <;> omega)); simp [go_sem, *] at q3c0_2; have q3c0_18 := hb.cell (p := ⟨w.heap.size, 18, none⟩) (by first | omega | (simp <;> omega)); simp [go_sem, *] at q3c0_18; have q3f0 := fun o => hb.frozen (p := ⟨w.heap.size, o, none⟩) (by first | omega | (simp <;> omega)); simp [go_sem, *] at q3f0; have q3o : ∀ b o, b < w2.heap.size → w3.cell? ⟨b, o, none⟩ = w2.cell? ⟨b, o, none⟩ := fun b o h => q3B.cell (p := ⟨b, o, none⟩) h; have hbS := hb; have hbS3 := hb; clear hb); have HB3 := hide (HB2.out.trans (q3B.mono HB2.out.size)); have t3 : w.heap.size + 2 ≤ w3.heap.size := (by omega))
          refine hK.out _ _ ?_ (fun hHeld => ?_)
          · exact fun _ _ h => absurd h (Nat.not_lt_zero _)
          clear hK K
          (try simp only [Act.put, putA, putB, putC])
          refine wpAnyH_ready (rs := [10]) (by kernel_rfl) (by simp) ?_
          refine ord_run (i := 10) (preB 11 4) rfl (by kernel_rfl) (by rfl) (fun K hK => ?_) AllReadyH.nil
          go_simp
          refine hK.out _ _ ?_ (fun hHeld => ?_)
          · exact fun _ _ h => absurd h (Nat.not_lt_zero _)
          clear hK K
          (try simp only [Act.put, putA, putB, putC])
          refine ord_take (i := 11) (preB 12 3) ?_ rfl (by kernel_rfl) (by kernel_rfl) (by kernel_rfl) (by kernel_rfl) (fun _ _ _ h => h) hHeld (by rfl) (fun wx hSx => ?_) ?_
          rotate_left
          · (unfold SB at hSx; go_simp; (try with_reducible rfl))
          (try simp only [Act.put, putA, putB, putC])
          refine wpAnyH_ready (rs := [12]) (by kernel_rfl) (by simp) ?_
          refine ord_run (i := 12) (preB 13 2) rfl (by kernel_rfl) (by rfl) (fun K hK => ?_) AllReadyH.nil
          go_simp
          refine hK.out _ _ ?_ (fun hHeld => ?_)
          · exact fun _ _ h => absurd h (Nat.not_lt_zero _)
          clear hK K
          (try simp only [Act.put, putA, putB, putC])
          refine ord_take (i := 13) (preB 14 1) ?_ rfl (by kernel_rfl) (by kernel_rfl) (by kernel_rfl) (by kernel_rfl) (fun _ _ _ h => h) hHeld (by rfl) (fun wx hSx => ?_) ?_
          rotate_left
          · (unfold SB at hSx; go_simp; (try with_reducible rfl))
          (try simp only [Act.put, putA, putB, putC])
          refine wpAnyH_ready (rs := [14]) (by kernel_rfl) (by simp) ?_
          refine ord_run (i := 14) (preB 15 0) rfl (by kernel_rfl) (by rfl) (fun K hK => ?_) AllReadyH.nil
          go_simp
          refine hK.out _ _ ?_ (fun hHeld => ?_)
          · exact fun _ _ h => absurd h (Nat.not_lt_zero _)
          clear hK K
          (try simp only [Act.put, putA, putB, putC])
          refine wpAnyH_done (by kernel_rfl) ?_ _
          go_wp2_with fail
          go_meet
          have hv : ∀ q, (Value.slice B18 n18 p18).ownBlock = some q → w2.heap.size ≤ q := fun q hq => by have h3 := own_ge HN18.out q hq; (try simp at h3); omega
          have r0 : RowT (Av (w.heap.size + 2) (.slice B18 n18 p18) w3) w3 1 B0 n0 c0 D0 := av_old (HN0.out.mono (S' := New (w.heap.size + 2) w2) (fun b h => ⟨by have h3 := h.1; (try simp at h3); omega, Nat.lt_of_lt_of_le h.2 HM2.out.size⟩) (fun b h => HM2.out.block b h.2)) (Nat.le_refl _) HM3.out hv
          have r2 : RowT (Av (w.heap.size + 2) (.slice B18 n18 p18) w3) w3 3 B2 n2 c2 D2 := av_old (HN2.out.mono (S' := New (w.heap.size + 2) w2) (fun b h => ⟨by have h3 := h.1; (try simp at h3); omega, h.2⟩) (fun _ _ => rfl)) (Nat.le_refl _) HM3.out hv
          have ro : w3.ownsRow (w.heap.size + 2) 44 7 (.slice B18 n18 p18) n18 (rowA (elA 9 C18) n18) := own_low HN18.out (by first | omega | (simp <;> omega))
          exact ⟨B0, p0, D0, B2, p2, D2, B18, p18, blk_setCell (blk_setCell (blk_setCell (HP3.out))), blk_setOther (by simp) (blk_setOther (by simp) (blk_setOther (by simp) (HZ3.out))), ⟨av_keep r0 (by simp) (fun b h1 h2 => by refine (Go.Deep.blk_setCell_other _ _ _ _ (by simp; omega)).trans ?_; refine (Go.Deep.blk_setCell_other _ _ _ _ (by simp; omega)).trans ?_; refine (Go.Deep.blk_setCell_other _ _ _ _ (by simp; omega)).trans ?_; (with_reducible exact rfl)), HC0.out⟩, ⟨av_keep r2 (by simp) (fun b h1 h2 => by refine (Go.Deep.blk_setCell_other _ _ _ _ (by simp; omega)).trans ?_; refine (Go.Deep.blk_setCell_other _ _ _ _ (by simp; omega)).trans ?_; refine (Go.Deep.blk_setCell_other _ _ _ _ (by simp; omega)).trans ?_; (with_reducible exact rfl)), HC2.out⟩, own_keepB ro (fun b h1 h2 => by refine (Go.Deep.blk_setCell_other _ _ _ _ (by simp; omega)).trans ?_; refine (Go.Deep.blk_setCell_other _ _ _ _ (by simp; omega)).trans ?_; refine (Go.Deep.blk_setCell_other _ _ _ _ (by simp; omega)).trans ?_; (with_reducible exact rfl)), HB3.out.trans (by (repeat (first | (with_reducible first | exact Below.refl _ _ | assumption | refine Below.drew ?_) | ((with_reducible first | refine Below.alloc ?_ ?_ _ | refine Below.setCell ?_ ?_ _); rotate_left; (first | omega | (simp <;> omega)))))), (by simp; omega)⟩
        refine ord_run (i := 4) #[true, true, false, true, true, false, true, true, false, false, false, false, false, false, false] rfl (by kernel_rfl) (by rfl) (fun K hK => ?_) ?_
        · go_simp
          refine hK.out _ _ ?_ (fun hHeld => ?_)
          · exact fun _ _ h => absurd h (Nat.not_lt_zero _)
          clear hK K
          (try simp only [Act.put, putA, putB, putC])
          refine wpAnyH_ready (rs := [2]) (by kernel_rfl) (by simp) ?_
          refine ord_run (i := 2) #[true, true, true, true, true, false, true, true, false, false, false, false, false, false, false] rfl (by kernel_rfl) (by rfl) (fun K hK => ?_) AllReadyH.nil
          go_simp
          go_wp2_with (go_at_call 65; refine (HF0.out _ (HR0.out.below (by (repeat (first | (with_reducible first | exact Below.refl _ _ | assumption | refine Below.drew ?_) | ((with_reducible first | refine Below.alloc ?_ ?_ _ | refine Below.setCell ?_ ?_ _); rotate_left; (first | omega | (simp <;> omega)))))))).mono ?_; rintro r w1 ⟨B0, p0, D0, rfl, hc, hN, hb⟩; have HC0 := hide hc; clear hc; have HN0 := hide hN; clear hN; have HP1 := hide (show w1.heap[w.heap.size]? = some (.cells X 41 (0, 0)) from blk_below hb (by first | omega | (simp <;> omega)) (by repeat (first | (exact blk_new (by simp)) | (with_reducible refine blk_drew ?_) | (with_reducible refine blk_under ?_)))); have HZ1 := hide (show w1.heap[w.heap.size + 1]? = some (.cells #[.slice none 0 0, .slice none 0 0, .slice none 0 0, .int .i64 0, .int .i64 0, .int .i64 0, .int .i64 0, .int .i64 0, .int .i64 0, .int .i64 0, .int .i64 0, .int .i64 0, .int .i64 0, .int .i64 0, .int .i64 0, .int .i64 0, .int .i64 0, .slice none 0 0, .slice none 0 0, .slice none 0 0, .slice none 0 0, .slice none 0 0] 41 (0, 0)) from blk_below hb (by first | omega | (simp <;> omega)) (by first | exact blk_new (by simp) | exact blk_drew (blk_new (by simp)))); (have q1B : Below w.heap.size w w1 := (by refine Below.trans ?_ (hb.mono (by first | omega | (simp <;> omega))); (repeat (first | (with_reducible first | exact Below.refl _ _ | assumption | refine Below.drew ?_) | ((with_reducible first | refine Below.alloc ?_ ?_ _ | refine Below.setCell ?_ ?_ _); rotate_left; (first | omega | (simp <;> omega)))))); have q1z := hb.size; (try simp at q1z); have q1t : w.heap.size ≤ w1.heap.size := (by omega); have q1s0 : w.heap.size < w1.heap.size := (by omega); have q1n0_0 : ¬ w1.heap.size = w.heap.size := (by omega); have q1n0_1 : ¬ w1.heap.size + 1 = w.heap.size := (by omega); have q1n0_2 : ¬ w1.heap.size + 2 = w.heap.size := (by omega); have q1c0_0 := hb.cell (p := ⟨w.heap.size, 0, none⟩) (by first | omega | (simp <;> omega)); simp [go_sem, *] at q1c0_0; have q1c0_2 := hb.cell (p := ⟨w.heap.size, 2, none⟩) (by first | omega | (simp <;> omega)); simp [go_sem, *] at q1c0_2; have q1c0_18 := hb.cell (p := ⟨w.heap.size, 18, none⟩) (by first | omega | (simp <;> omega)); simp [go_sem, *] at q1c0_18; have q1f0 := fun o => hb.frozen (p := ⟨w.heap.size, o, none⟩) (by first | omega | (simp <;> omega)); simp [go_sem, *] at q1f0; have q1o : ∀ b o, b < w.heap.size → w1.cell? ⟨b, o, none⟩ = w.cell? ⟨b, o, none⟩ := fun b o h => q1B.cell (p := ⟨b, o, none⟩) h; have hbS := hb; have hbS1 := hb; clear hb); have HB1 := hide q1B; have t1 : w.heap.size + 2 ≤ w1.heap.size := (by omega))
          refine hK.out _ _ ?_ (fun hHeld => ?_)
          · exact fun _ _ h => absurd h (Nat.not_lt_zero _)
          clear hK K
          (try simp only [Act.put, putA, putB, putC])
          refine ord_take (i := 9) #[true, true, true, true, true, false, true, true, false, true, false, false, false, false, false] ?_ rfl (by kernel_rfl) (by kernel_rfl) (by kernel_rfl) (by kernel_rfl) (fun _ _ _ h => h) hHeld (by rfl) (fun wx hSx => ?_) ?_
          rotate_left
          · (unfold SB at hSx; go_simp; (try with_reducible rfl))
          (try simp only [Act.put, putA, putB, putC])
          refine wpAnyH_ready (rs := [5]) (by kernel_rfl) (by simp) ?_
          refine ord_run (i := 5) #[true, true, true, true, true, true, true, true, false, true, false, false, false, false, false] rfl (by kernel_rfl) (by rfl) (fun K hK => ?_) AllReadyH.nil
          go_simp
          go_wp2_with (go_at_call 66; refine (HF2.out _ (HR2.out.below (HB1.out.trans (by (repeat (first | (with_reducible first | exact Below.refl _ _ | assumption | refine Below.drew ?_) | ((with_reducible first | refine Below.alloc ?_ ?_ _ | refine Below.setCell ?_ ?_ _); rotate_left; (first | omega | (simp <;> omega))))))))).mono ?_; rintro r w2 ⟨B2, p2, D2, rfl, hc, hN, hb⟩; have HC2 := hide hc; clear hc; have HN2 := hide hN; clear hN; have HM2 := hide (show Below w1.heap.size w1 w2 from hb); have HP2 := hide (show w2.heap[w.heap.size]? = some (.cells X 41 (0, 0)) from blk_below hb (by first | omega | (simp <;> omega)) HP1.out); have HZ2 := hide (show w2.heap[w.heap.size + 1]? = some (.cells #[.slice none 0 0, .slice none 0 0, .slice none 0 0, .int .i64 0, .int .i64 0, .int .i64 0, .int .i64 0, .int .i64 0, .int .i64 0, .int .i64 0, .int .i64 0, .int .i64 0, .int .i64 0, .int .i64 0, .int .i64 0, .int .i64 0, .int .i64 0, .slice none 0 0, .slice none 0 0, .slice none 0 0, .slice none 0 0, .slice none 0 0] 41 (0, 0)) from blk_below hb (by first | omega | (simp <;> omega)) HZ1.out); (have q2B : Below w1.heap.size w1 w2 := (by refine Below.trans ?_ (hb.mono (by first | omega | (simp <;> omega))); (repeat (first | (with_reducible first | exact Below.refl _ _ | assumption | refine Below.drew ?_) | ((with_reducible first | refine Below.alloc ?_ ?_ _ | refine Below.setCell ?_ ?_ _); rotate_left; (first | omega | (simp <;> omega)))))); have q2z := hb.size; (try simp at q2z); have q2t : w1.heap.size ≤ w2.heap.size := (by omega); have q2s0 : w.heap.size < w2.heap.size := (by omega); have q2n0_0 : ¬ w2.heap.size = w.heap.size := (by omega); have q2n0_1 : ¬ w2.heap.size + 1 = w.heap.size := (by omega); have q2n0_2 : ¬ w2.heap.size + 2 = w.heap.size := (by omega); have q2c0_0 := hb.cell (p := ⟨w.heap.size, 0, none⟩) (by first | omega | (simp <;> omega)); simp [go_sem, *] at q2c0_0; have q2c0_2 := hb.cell (p := ⟨w.heap.size, 2, none⟩) (by first | omega | (simp <;> omega)); simp [go_sem, *] at q2c0_2; have q2c0_18 := hb.cell (p := ⟨w.heap.size, 18, none⟩) (by first | omega | (simp <;> omega)); simp [go_sem, *] at q2c0_18; have q2f0 := fun o => hb.frozen (p := ⟨w.heap.size, o, none⟩) (by first | omega | (simp <;> omega)); simp [go_sem, *] at q2f0; have q2o : ∀ b o, b < w1.heap.size → w2.cell? ⟨b, o, none⟩ = w1.cell? ⟨b, o, none⟩ := fun b o h => q2B.cell (p := ⟨b, o, none⟩) h; have hbS := hb; have hbS2 := hb; clear hb); have HB2 := hide (HB1.out.trans (q2B.mono HB1.out.size)); have t2 : w.heap.size + 2 ≤ w2.heap.size := (by omega))
          refine hK.out _ _ ?_ (fun hHeld => ?_)
          · exact fun _ _ h => absurd h (Nat.not_lt_zero _)
          clear hK K
          (try simp only [Act.put, putA, putB, putC])
          refine wpAnyH_ready (rs := [8]) (by kernel_rfl) (by simp) ?_
          refine ord_run (i := 8) (preB 10 5) rfl (by kernel_rfl) (by rfl) (fun K hK => ?_) AllReadyH.nil
          go_simp
          go_wp2_with (go_at_call 67; refine (HF18.out _ (HR18.out.below (HB2.out.trans (by (repeat (first | (with_reducible first | exact Below.refl _ _ | assumption | refine Below.drew ?_) | ((with_reducible first | refine Below.alloc ?_ ?_ _ | refine Below.setCell ?_ ?_ _); rotate_left; (first | omega | (simp <;> omega))))))))).mono ?_; rintro r w3 ⟨B18, p18, rfl, hN, hb⟩; have HN18 := hide hN; clear hN; have HM3 := hide (show Below w2.heap.size w2 w3 from hb); have HP3 := hide (show w3.heap[w.heap.size]? = some (.cells X 41 (0, 0)) from blk_below hb (by first | omega | (simp <;> omega)) HP2.out); have HZ3 := hide (show w3.heap[w.heap.size + 1]? = some (.cells #[.slice none 0 0, .slice none 0 0, .slice none 0 0, .int .i64 0, .int .i64 0, .int .i64 0, .int .i64 0, .int .i64 0, .int .i64 0, .int .i64 0, .int .i64 0, .int .i64 0, .int .i64 0, .int .i64 0, .int .i64 0, .int .i64 0, .int .i64 0, .slice none 0 0, .slice none 0 0, .slice none 0 0, .slice none 0 0, .slice none 0 0] 41 (0, 0)) from blk_below hb (by first | omega | (simp <;> omega)) HZ2.out); (have q3B : Below w2.heap.size w2 w3 := (by refine Below.trans ?_ (hb.mono (by first | omega | (simp <;> omega))); (repeat (first | (with_reducible first | exact Below.refl _ _ | assumption | refine Below.drew ?_) | ((with_reducible first | refine Below.alloc ?_ ?_ _ | refine Below.setCell ?_ ?_ _); rotate_left; (first | omega | (simp <;> omega)))))); have q3z := hb.size; (try simp at q3z); have q3t : w2.heap.size ≤ w3.heap.size := (by omega); have q3s0 : w.heap.size < w3.heap.size := (by omega); have q3n0_0 : ¬ w3.heap.size = w.heap.size := (by omega); have q3n0_1 : ¬ w3.heap.size + 1 = w.heap.size := (by omega); have q3n0_2 : ¬ w3.heap.size + 2 = w.heap.size := (by omega); have q3c0_0 := hb.cell (p := ⟨w.heap.size, 0, none⟩) (by first | omega | (simp <;> omega)); simp [go_sem, *] at q3c0_0; have q3c0_2 := hb.cell (p := ⟨w.heap.size, 2, none⟩) (by first | omega | (simp <;> omega)); simp [go_sem, *] at q3c0_2; have q3c0_18 := hb.cell (p := ⟨w.heap.size, 18, none⟩) (by first | omega | (simp <;> omega)); simp [go_sem, *] at q3c0_18; have q3f0 := fun o => hb.frozen (p := ⟨w.heap.size, o, none⟩) (by first | omega | (simp <;> omega)); simp [go_sem, *] at q3f0; have q3o : ∀ b o, b < w2.heap.size → w3.cell? ⟨b, o, none⟩ = w2.cell? ⟨b, o, none⟩ := fun b o h => q3B.cell (p := ⟨b, o, none⟩) h; have hbS := hb; have hbS3 := hb; clear hb); have HB3 := hide (HB2.out.trans (q3B.mono HB2.out.size)); have t3 : w.heap.size + 2 ≤ w3.heap.size := (by omega))
          refine hK.out _ _ ?_ (fun hHeld => ?_)
          · exact fun _ _ h => absurd h (Nat.not_lt_zero _)
          clear hK K
          (try simp only [Act.put, putA, putB, putC])
          refine wpAnyH_ready (rs := [10]) (by kernel_rfl) (by simp) ?_
          refine ord_run (i := 10) (preB 11 4) rfl (by kernel_rfl) (by rfl) (fun K hK => ?_) AllReadyH.nil
          go_simp
          refine hK.out _ _ ?_ (fun hHeld => ?_)
          · exact fun _ _ h => absurd h (Nat.not_lt_zero _)
          clear hK K
          (try simp only [Act.put, putA, putB, putC])
          refine ord_take (i := 11) (preB 12 3) ?_ rfl (by kernel_rfl) (by kernel_rfl) (by kernel_rfl) (by kernel_rfl) (fun _ _ _ h => h) hHeld (by rfl) (fun wx hSx => ?_) ?_
          rotate_left
          · (unfold SB at hSx; go_simp; (try with_reducible rfl))
          (try simp only [Act.put, putA, putB, putC])
          refine wpAnyH_ready (rs := [12]) (by kernel_rfl) (by simp) ?_
          refine ord_run (i := 12) (preB 13 2) rfl (by kernel_rfl) (by rfl) (fun K hK => ?_) AllReadyH.nil
          go_simp
          refine hK.out _ _ ?_ (fun hHeld => ?_)
          · exact fun _ _ h => absurd h (Nat.not_lt_zero _)
          clear hK K
          (try simp only [Act.put, putA, putB, putC])
          refine ord_take (i := 13) (preB 14 1) ?_ rfl (by kernel_rfl) (by kernel_rfl) (by kernel_rfl) (by kernel_rfl) (fun _ _ _ h => h) hHeld (by rfl) (fun wx hSx => ?_) ?_
          rotate_left
          · (unfold SB at hSx; go_simp; (try with_reducible rfl))
          (try simp only [Act.put, putA, putB, putC])
          refine wpAnyH_ready (rs := [14]) (by kernel_rfl) (by simp) ?_
          refine ord_run (i := 14) (preB 15 0) rfl (by kernel_rfl) (by rfl) (fun K hK => ?_) AllReadyH.nil
          go_simp
          refine hK.out _ _ ?_ (fun hHeld => ?_)
          · exact fun _ _ h => absurd h (Nat.not_lt_zero _)
          clear hK K
          (try simp only [Act.put, putA, putB, putC])
          refine wpAnyH_done (by kernel_rfl) ?_ _
          go_wp2_with fail
          go_meet
          have hv : ∀ q, (Value.slice B18 n18 p18).ownBlock = some q → w2.heap.size ≤ q := fun q hq => by have h3 := own_ge HN18.out q hq; (try simp at h3); omega
          have r0 : RowT (Av (w.heap.size + 2) (.slice B18 n18 p18) w3) w3 1 B0 n0 c0 D0 := av_old (HN0.out.mono (S' := New (w.heap.size + 2) w2) (fun b h => ⟨by have h3 := h.1; (try simp at h3); omega, Nat.lt_of_lt_of_le h.2 HM2.out.size⟩) (fun b h => HM2.out.block b h.2)) (Nat.le_refl _) HM3.out hv
          have r2 : RowT (Av (w.heap.size + 2) (.slice B18 n18 p18) w3) w3 3 B2 n2 c2 D2 := av_old (HN2.out.mono (S' := New (w.heap.size + 2) w2) (fun b h => ⟨by have h3 := h.1; (try simp at h3); omega, h.2⟩) (fun _ _ => rfl)) (Nat.le_refl _) HM3.out hv
          have ro : w3.ownsRow (w.heap.size + 2) 44 7 (.slice B18 n18 p18) n18 (rowA (elA 9 C18) n18) := own_low HN18.out (by first | omega | (simp <;> omega))
          exact ⟨B0, p0, D0, B2, p2, D2, B18, p18, blk_setCell (blk_setCell (blk_setCell (HP3.out))), blk_setOther (by simp) (blk_setOther (by simp) (blk_setOther (by simp) (HZ3.out))), ⟨av_keep r0 (by simp) (fun b h1 h2 => by refine (Go.Deep.blk_setCell_other _ _ _ _ (by simp; omega)).trans ?_; refine (Go.Deep.blk_setCell_other _ _ _ _ (by simp; omega)).trans ?_; refine (Go.Deep.blk_setCell_other _ _ _ _ (by simp; omega)).trans ?_; (with_reducible exact rfl)), HC0.out⟩, ⟨av_keep r2 (by simp) (fun b h1 h2 => by refine (Go.Deep.blk_setCell_other _ _ _ _ (by simp; omega)).trans ?_; refine (Go.Deep.blk_setCell_other _ _ _ _ (by simp; omega)).trans ?_; refine (Go.Deep.blk_setCell_other _ _ _ _ (by simp; omega)).trans ?_; (with_reducible exact rfl)), HC2.out⟩, own_keepB ro (fun b h1 h2 => by refine (Go.Deep.blk_setCell_other _ _ _ _ (by simp; omega)).trans ?_; refine (Go.Deep.blk_setCell_other _ _ _ _ (by simp; omega)).trans ?_; refine (Go.Deep.blk_setCell_other _ _ _ _ (by simp; omega)).trans ?_; (with_reducible exact rfl)), HB3.out.trans (by (repeat (first | (with_reducible first | exact Below.refl _ _ | assumption | refine Below.drew ?_) | ((with_reducible first | refine Below.alloc ?_ ?_ _ | refine Below.setCell ?_ ?_ _); rotate_left; (first | omega | (simp <;> omega)))))), (by simp; omega)⟩
        exact AllReadyH.nil
      exact AllReadyH.nil
    refine ord_run (i := 4) #[true, false, false, true, true, false, true, false, false, false, false, false, false, false, false] rfl (by kernel_rfl) (by rfl) (fun K hK => ?_) ?_
    · go_simp
      refine hK.out _ _ ?_ (fun hHeld => ?_)
      · exact fun _ _ h => absurd h (Nat.not_lt_zero _)
      clear hK K
      (try simp only [Act.put, putA, putB, putC])
      refine wpAnyH_ready (rs := [1, 7]) (by kernel_rfl) (by simp) ?_
      refine ord_run (i := 1) #[true, true, false, true, true, false, true, false, false, false, false, false, false, false, false] rfl (by kernel_rfl) (by rfl) (fun K hK => ?_) ?_
      · go_simp
        refine hK.out _ _ ?_ (fun hHeld => ?_)
        · exact fun _ _ h => absurd h (Nat.not_lt_zero _)
        clear hK K
        (try simp only [Act.put, putA, putB, putC])
        refine wpAnyH_ready (rs := [2, 7]) (by kernel_rfl) (by simp) ?_
        refine ord_run (i := 2) #[true, true, true, true, true, false, true, false, false, false, false, false, false, false, false] rfl (by kernel_rfl) (by rfl) (fun K hK => ?_) ?_
        · go_simp
          go_wp2_with (go_at_call 65; refine (HF0.out _ (HR0.out.below (by (repeat (first | (with_reducible first | exact Below.refl _ _ | assumption | refine Below.drew ?_) | ((with_reducible first | refine Below.alloc ?_ ?_ _ | refine Below.setCell ?_ ?_ _); rotate_left; (first | omega | (simp <;> omega)))))))).mono ?_; rintro r w1 ⟨B0, p0, D0, rfl, hc, hN, hb⟩; have HC0 := hide hc; clear hc; have HN0 := hide hN; clear hN; have HP1 := hide (show w1.heap[w.heap.size]? = some (.cells X 41 (0, 0)) from blk_below hb (by first | omega | (simp <;> omega)) (by repeat (first | (exact blk_new (by simp)) | (with_reducible refine blk_drew ?_) | (with_reducible refine blk_under ?_)))); have HZ1 := hide (show w1.heap[w.heap.size + 1]? = some (.cells #[.slice none 0 0, .slice none 0 0, .slice none 0 0, .int .i64 0, .int .i64 0, .int .i64 0, .int .i64 0, .int .i64 0, .int .i64 0, .int .i64 0, .int .i64 0, .int .i64 0, .int .i64 0, .int .i64 0, .int .i64 0, .int .i64 0, .int .i64 0, .slice none 0 0, .slice none 0 0, .slice none 0 0, .slice none 0 0, .slice none 0 0] 41 (0, 0)) from blk_below hb (by first | omega | (simp <;> omega)) (by first | exact blk_new (by simp) | exact blk_drew (blk_new (by simp)))); (have q1B : Below w.heap.size w w1 := (by refine Below.trans ?_ (hb.mono (by first | omega | (simp <;> omega))); (repeat (first | (with_reducible first | exact Below.refl _ _ | assumption | refine Below.drew ?_) | ((with_reducible first | refine Below.alloc ?_ ?_ _ | refine Below.setCell ?_ ?_ _); rotate_left; (first | omega | (simp <;> omega)))))); have q1z := hb.size; (try simp at q1z); have q1t : w.heap.size ≤ w1.heap.size := (by omega); have q1s0 : w.heap.size < w1.heap.size := (by omega); have q1n0_0 : ¬ w1.heap.size = w.heap.size := (by omega); have q1n0_1 : ¬ w1.heap.size + 1 = w.heap.size := (by omega); have q1n0_2 : ¬ w1.heap.size + 2 = w.heap.size := (by omega); have q1c0_0 := hb.cell (p := ⟨w.heap.size, 0, none⟩) (by first | omega | (simp <;> omega)); simp [go_sem, *] at q1c0_0; have q1c0_2 := hb.cell (p := ⟨w.heap.size, 2, none⟩) (by first | omega | (simp <;> omega)); simp [go_sem, *] at q1c0_2; have q1c0_18 := hb.cell (p := ⟨w.heap.size, 18, none⟩) (by first | omega | (simp <;> omega)); simp [go_sem, *] at q1c0_18; have q1f0 := fun o => hb.frozen (p := ⟨w.heap.size, o, none⟩) (by first | omega | (simp <;> omega)); simp [go_sem, *] at q1f0; have q1o : ∀ b o, b < w.heap.size → w1.cell? ⟨b, o, none⟩ = w.cell? ⟨b, o, none⟩ := fun b o h => q1B.cell (p := ⟨b, o, none⟩) h; have hbS := hb; have hbS1 := hb; clear hb); have HB1 := hide q1B; have t1 : w.heap.size + 2 ≤ w1.heap.size := (by omega))
          refine hK.out _ _ ?_ (fun hHeld => ?_)
          · exact fun _ _ h => absurd h (Nat.not_lt_zero _)
          clear hK K
          (try simp only [Act.put, putA, putB, putC])
          refine wpAnyH_ready (rs := [5, 7]) (by kernel_rfl) (by simp) ?_
          refine ord_run (i := 5) (preB 7 8) rfl (by kernel_rfl) (by rfl) (fun K hK => ?_) ?_
          · go_simp
            go_wp2_with (go_at_call 66; refine (HF2.out _ (HR2.out.below (HB1.out.trans (by (repeat (first | (with_reducible first | exact Below.refl _ _ | assumption | refine Below.drew ?_) | ((with_reducible first | refine Below.alloc ?_ ?_ _ | refine Below.setCell ?_ ?_ _); rotate_left; (first | omega | (simp <;> omega))))))))).mono ?_; rintro r w2 ⟨B2, p2, D2, rfl, hc, hN, hb⟩; have HC2 := hide hc; clear hc; have HN2 := hide hN; clear hN; have HM2 := hide (show Below w1.heap.size w1 w2 from hb); have HP2 := hide (show w2.heap[w.heap.size]? = some (.cells X 41 (0, 0)) from blk_below hb (by first | omega | (simp <;> omega)) HP1.out); have HZ2 := hide (show w2.heap[w.heap.size + 1]? = some (.cells #[.slice none 0 0, .slice none 0 0, .slice none 0 0, .int .i64 0, .int .i64 0, .int .i64 0, .int .i64 0, .int .i64 0, .int .i64 0, .int .i64 0, .int .i64 0, .int .i64 0, .int .i64 0, .int .i64 0, .int .i64 0, .int .i64 0, .int .i64 0, .slice none 0 0, .slice none 0 0, .slice none 0 0, .slice none 0 0, .slice none 0 0] 41 (0, 0)) from blk_below hb (by first | omega | (simp <;> omega)) HZ1.out); (have q2B : Below w1.heap.size w1 w2 := (by refine Below.trans ?_ (hb.mono (by first | omega | (simp <;> omega))); (repeat (first | (with_reducible first | exact Below.refl _ _ | assumption | refine Below.drew ?_) | ((with_reducible first | refine Below.alloc ?_ ?_ _ | refine Below.setCell ?_ ?_ _); rotate_left; (first | omega | (simp <;> omega)))))); have q2z := hb.size; (try simp at q2z); have q2t : w1.heap.size ≤ w2.heap.size := (by omega); have q2s0 : w.heap.size < w2.heap.size := (by omega); have q2n0_0 : ¬ w2.heap.size = w.heap.size := (by omega); have q2n0_1 : ¬ w2.heap.size + 1 = w.heap.size := (by omega); have q2n0_2 : ¬ w2.heap.size + 2 = w.heap.size := (by omega); have q2c0_0 := hb.cell (p := ⟨w.heap.size, 0, none⟩) (by first | omega | (simp <;> omega)); simp [go_sem, *] at q2c0_0; have q2c0_2 := hb.cell (p := ⟨w.heap.size, 2, none⟩) (by first | omega | (simp <;> omega)); simp [go_sem, *] at q2c0_2; have q2c0_18 := hb.cell (p := ⟨w.heap.size, 18, none⟩) (by first | omega | (simp <;> omega)); simp [go_sem, *] at q2c0_18; have q2f0 := fun o => hb.frozen (p := ⟨w.heap.size, o, none⟩) (by first | omega | (simp <;> omega)); simp [go_sem, *] at q2f0; have q2o : ∀ b o, b < w1.heap.size → w2.cell? ⟨b, o, none⟩ = w1.cell? ⟨b, o, none⟩ := fun b o h => q2B.cell (p := ⟨b, o, none⟩) h; have hbS := hb; have hbS2 := hb; clear hb); have HB2 := hide (HB1.out.trans (q2B.mono HB1.out.size)); have t2 : w.heap.size + 2 ≤ w2.heap.size := (by omega))
            refine hK.out _ _ ?_ (fun hHeld => ?_)
            · exact fun _ _ h => absurd h (Nat.not_lt_zero _)
            clear hK K
            (try simp only [Act.put, putA, putB, putC])
            refine wpAnyH_ready (rs := [7]) (by kernel_rfl) (by simp) ?_
            refine ord_run (i := 7) (preB 8 7) rfl (by kernel_rfl) (by rfl) (fun K hK => ?_) AllReadyH.nil
            go_simp
            refine hK.out _ _ ?_ (fun hHeld => ?_)
            · exact fun _ _ h => absurd h (Nat.not_lt_zero _)
            clear hK K
            (try simp only [Act.put, putA, putB, putC])
            refine ord_take (i := 9) #[true, true, true, true, true, true, true, true, false, true, false, false, false, false, false] ?_ rfl (by kernel_rfl) (by kernel_rfl) (by kernel_rfl) (by kernel_rfl) (fun _ _ _ h => h) hHeld (by rfl) (fun wx hSx => ?_) ?_
            rotate_left
            · (unfold SB at hSx; go_simp; (try with_reducible rfl))
            (try simp only [Act.put, putA, putB, putC])
            refine wpAnyH_ready (rs := [8]) (by kernel_rfl) (by simp) ?_
            refine ord_run (i := 8) (preB 10 5) rfl (by kernel_rfl) (by rfl) (fun K hK => ?_) AllReadyH.nil
            go_simp
            go_wp2_with (go_at_call 67; refine (HF18.out _ (HR18.out.below (HB2.out.trans (by (repeat (first | (with_reducible first | exact Below.refl _ _ | assumption | refine Below.drew ?_) | ((with_reducible first | refine Below.alloc ?_ ?_ _ | refine Below.setCell ?_ ?_ _); rotate_left; (first | omega | (simp <;> omega))))))))).mono ?_; rintro r w3 ⟨B18, p18, rfl, hN, hb⟩; have HN18 := hide hN; clear hN; have HM3 := hide (show Below w2.heap.size w2 w3 from hb); have HP3 := hide (show w3.heap[w.heap.size]? = some (.cells X 41 (0, 0)) from blk_below hb (by first | omega | (simp <;> omega)) HP2.out); have HZ3 := hide (show w3.heap[w.heap.size + 1]? = some (.cells #[.slice none 0 0, .slice none 0 0, .slice none 0 0, .int .i64 0, .int .i64 0, .int .i64 0, .int .i64 0, .int .i64 0, .int .i64 0, .int .i64 0, .int .i64 0, .int .i64 0, .int .i64 0, .int .i64 0, .int .i64 0, .int .i64 0, .int .i64 0, .slice none 0 0, .slice none 0 0, .slice none 0 0, .slice none 0 0, .slice none 0 0] 41 (0, 0)) from blk_below hb (by first | omega | (simp <;> omega)) HZ2.out); (have q3B : Below w2.heap.size w2 w3 := (by refine Below.trans ?_ (hb.mono (by first | omega | (simp <;> omega))); (repeat (first | (with_reducible first | exact Below.refl _ _ | assumption | refine Below.drew ?_) | ((with_reducible first | refine Below.alloc ?_ ?_ _ | refine Below.setCell ?_ ?_ _); rotate_left; (first | omega | (simp <;> omega)))))); have q3z := hb.size; (try simp at q3z); have q3t : w2.heap.size ≤ w3.heap.size := (by omega); have q3s0 : w.heap.size < w3.heap.size := (by omega); have q3n0_0 : ¬ w3.heap.size = w.heap.size := (by omega); have q3n0_1 : ¬ w3.heap.size + 1 = w.heap.size := (by omega); have q3n0_2 : ¬ w3.heap.size + 2 = w.heap.size := (by omega); have q3c0_0 := hb.cell (p := ⟨w.heap.size, 0, none⟩) (by first | omega | (simp <;> omega)); simp [go_sem, *] at q3c0_0; have q3c0_2 := hb.cell (p := ⟨w.heap.size, 2, none⟩) (by first | omega | (simp <;> omega)); simp [go_sem, *] at q3c0_2; have q3c0_18 := hb.cell (p := ⟨w.heap.size, 18, none⟩) (by first | omega | (simp <;> omega)); simp [go_sem, *] at q3c0_18; have q3f0 := fun o => hb.frozen (p := ⟨w.heap.size, o, none⟩) (by first | omega | (simp <;> omega)); simp [go_sem, *] at q3f0; have q3o : ∀ b o, b < w2.heap.size → w3.cell? ⟨b, o, none⟩ = w2.cell? ⟨b, o, none⟩ := fun b o h => q3B.cell (p := ⟨b, o, none⟩) h; have hbS := hb; have hbS3 := hb; clear hb); have HB3 := hide (HB2.out.trans (q3B.mono HB2.out.size)); have t3 : w.heap.size + 2 ≤ w3.heap.size := (by omega))
            refine hK.out _ _ ?_ (fun hHeld => ?_)
            · exact fun _ _ h => absurd h (Nat.not_lt_zero _)
            clear hK K
            (try simp only [Act.put, putA, putB, putC])
            refine wpAnyH_ready (rs := [10]) (by kernel_rfl) (by simp) ?_
            refine ord_run (i := 10) (preB 11 4) rfl (by kernel_rfl) (by rfl) (fun K hK => ?_) AllReadyH.nil
            go_simp
            refine hK.out _ _ ?_ (fun hHeld => ?_)
            · exact fun _ _ h => absurd h (Nat.not_lt_zero _)
            clear hK K
            (try simp only [Act.put, putA, putB, putC])
            refine ord_take (i := 11) (preB 12 3) ?_ rfl (by kernel_rfl) (by kernel_rfl) (by kernel_rfl) (by kernel_rfl) (fun _ _ _ h => h) hHeld (by rfl) (fun wx hSx => ?_) ?_
            rotate_left
            · (unfold SB at hSx; go_simp; (try with_reducible rfl))
            (try simp only [Act.put, putA, putB, putC])
            refine wpAnyH_ready (rs := [12]) (by kernel_rfl) (by simp) ?_
            refine ord_run (i := 12) (preB 13 2) rfl (by kernel_rfl) (by rfl) (fun K hK => ?_) AllReadyH.nil
            go_simp
            refine hK.out _ _ ?_ (fun hHeld => ?_)
            · exact fun _ _ h => absurd h (Nat.not_lt_zero _)
            clear hK K
            (try simp only [Act.put, putA, putB, putC])
            refine ord_take (i := 13) (preB 14 1) ?_ rfl (by kernel_rfl) (by kernel_rfl) (by kernel_rfl) (by kernel_rfl) (fun _ _ _ h => h) hHeld (by rfl) (fun wx hSx => ?_) ?_
            rotate_left
            · (unfold SB at hSx; go_simp; (try with_reducible rfl))
            (try simp only [Act.put, putA, putB, putC])
            refine wpAnyH_ready (rs := [14]) (by kernel_rfl) (by simp) ?_
            refine ord_run (i := 14) (preB 15 0) rfl (by kernel_rfl) (by rfl) (fun K hK => ?_) AllReadyH.nil
            go_simp
            refine hK.out _ _ ?_ (fun hHeld => ?_)
            · exact fun _ _ h => absurd h (Nat.not_lt_zero _)
            clear hK K
            (try simp only [Act.put, putA, putB, putC])
            refine wpAnyH_done (by kernel_rfl) ?_ _
            go_wp2_with fail
            go_meet
            have hv : ∀ q, (Value.slice B18 n18 p18).ownBlock = some q → w2.heap.size ≤ q := fun q hq => by have h3 := own_ge HN18.out q hq; (try simp at h3); omega
            have r0 : RowT (Av (w.heap.size + 2) (.slice B18 n18 p18) w3) w3 1 B0 n0 c0 D0 := av_old (HN0.out.mono (S' := New (w.heap.size + 2) w2) (fun b h => ⟨by have h3 := h.1; (try simp at h3); omega, Nat.lt_of_lt_of_le h.2 HM2.out.size⟩) (fun b h => HM2.out.block b h.2)) (Nat.le_refl _) HM3.out hv
            have r2 : RowT (Av (w.heap.size + 2) (.slice B18 n18 p18) w3) w3 3 B2 n2 c2 D2 := av_old (HN2.out.mono (S' := New (w.heap.size + 2) w2) (fun b h => ⟨by have h3 := h.1; (try simp at h3); omega, h.2⟩) (fun _ _ => rfl)) (Nat.le_refl _) HM3.out hv
            have ro : w3.ownsRow (w.heap.size + 2) 44 7 (.slice B18 n18 p18) n18 (rowA (elA 9 C18) n18) := own_low HN18.out (by first | omega | (simp <;> omega))
            exact ⟨B0, p0, D0, B2, p2, D2, B18, p18, blk_setCell (blk_setCell (blk_setCell (HP3.out))), blk_setOther (by simp) (blk_setOther (by simp) (blk_setOther (by simp) (HZ3.out))), ⟨av_keep r0 (by simp) (fun b h1 h2 => by refine (Go.Deep.blk_setCell_other _ _ _ _ (by simp; omega)).trans ?_; refine (Go.Deep.blk_setCell_other _ _ _ _ (by simp; omega)).trans ?_; refine (Go.Deep.blk_setCell_other _ _ _ _ (by simp; omega)).trans ?_; (with_reducible exact rfl)), HC0.out⟩, ⟨av_keep r2 (by simp) (fun b h1 h2 => by refine (Go.Deep.blk_setCell_other _ _ _ _ (by simp; omega)).trans ?_; refine (Go.Deep.blk_setCell_other _ _ _ _ (by simp; omega)).trans ?_; refine (Go.Deep.blk_setCell_other _ _ _ _ (by simp; omega)).trans ?_; (with_reducible exact rfl)), HC2.out⟩, own_keepB ro (fun b h1 h2 => by refine (Go.Deep.blk_setCell_other _ _ _ _ (by simp; omega)).trans ?_; refine (Go.Deep.blk_setCell_other _ _ _ _ (by simp; omega)).trans ?_; refine (Go.Deep.blk_setCell_other _ _ _ _ (by simp; omega)).trans ?_; (with_reducible exact rfl)), HB3.out.trans (by (repeat (first | (with_reducible first | exact Below.refl _ _ | assumption | refine Below.drew ?_) | ((with_reducible first | refine Below.alloc ?_ ?_ _ | refine Below.setCell ?_ ?_ _); rotate_left; (first | omega | (simp <;> omega)))))), (by simp; omega)⟩
          refine ord_run (i := 7) #[true, true, true, true, true, false, true, true, false, false, false, false, false, false, false] rfl (by kernel_rfl) (by rfl) (fun K hK => ?_) ?_
          · go_simp
            refine hK.out _ _ ?_ (fun hHeld => ?_)
            · exact fun _ _ h => absurd h (Nat.not_lt_zero _)
            clear hK K
            (try simp only [Act.put, putA, putB, putC])
            refine ord_take (i := 9) #[true, true, true, true, true, false, true, true, false, true, false, false, false, false, false] ?_ rfl (by kernel_rfl) (by kernel_rfl) (by kernel_rfl) (by kernel_rfl) (fun _ _ _ h => h) hHeld (by rfl) (fun wx hSx => ?_) ?_
            rotate_left
            · (unfold SB at hSx; go_simp; (try with_reducible rfl))
            (try simp only [Act.put, putA, putB, putC])
            refine wpAnyH_ready (rs := [5]) (by kernel_rfl) (by simp) ?_
            refine ord_run (i := 5) #[true, true, true, true, true, true, true, true, false, true, false, false, false, false, false] rfl (by kernel_rfl) (by rfl) (fun K hK => ?_) AllReadyH.nil
            go_simp
            go_wp2_with (go_at_call 66; refine (HF2.out _ (HR2.out.below (HB1.out.trans (by (repeat (first | (with_reducible first | exact Below.refl _ _ | assumption | refine Below.drew ?_) | ((with_reducible first | refine Below.alloc ?_ ?_ _ | refine Below.setCell ?_ ?_ _); rotate_left; (first | omega | (simp <;> omega))))))))).mono ?_; rintro r w2 ⟨B2, p2, D2, rfl, hc, hN, hb⟩; have HC2 := hide hc; clear hc; have HN2 := hide hN; clear hN; have HM2 := hide (show Below w1.heap.size w1 w2 from hb); have HP2 := hide (show w2.heap[w.heap.size]? = some (.cells X 41 (0, 0)) from blk_below hb (by first | omega | (simp <;> omega)) HP1.out); have HZ2 := hide (show w2.heap[w.heap.size + 1]? = some (.cells #[.slice none 0 0, .slice none 0 0, .slice none 0 0, .int .i64 0, .int .i64 0, .int .i64 0, .int .i64 0, .int .i64 0, .int .i64 0, .int .i64 0, .int .i64 0, .int .i64 0, .int .i64 0, .int .i64 0, .int .i64 0, .int .i64 0, .int .i64 0, .slice none 0 0, .slice none 0 0, .slice none 0 0, .slice none 0 0, .slice none 0 0] 41 (0, 0)) from blk_below hb (by first | omega | (simp <;> omega)) HZ1.out); (have q2B : Below w1.heap.size w1 w2 := (by refine Below.trans ?_ (hb.mono (by first | omega | (simp <;> omega))); (repeat (first | (with_reducible first | exact Below.refl _ _ | assumption | refine Below.drew ?_) | ((with_reducible first | refine Below.alloc ?_ ?_ _ | refine Below.setCell ?_ ?_ _); rotate_left; (first | omega | (simp <;> omega)))))); have q2z := hb.size; (try simp at q2z); have q2t : w1.heap.size ≤ w2.heap.size := (by omega); have q2s0 : w.heap.size < w2.heap.size := (by omega); have q2n0_0 : ¬ w2.heap.size = w.heap.size := (by omega); have q2n0_1 : ¬ w2.heap.size + 1 = w.heap.size := (by omega); have q2n0_2 : ¬ w2.heap.size + 2 = w.heap.size := (by omega); have q2c0_0 := hb.cell (p := ⟨w.heap.size, 0, none⟩) (by first | omega | (simp <;> omega)); simp [go_sem, *] at q2c0_0; have q2c0_2 := hb.cell (p := ⟨w.heap.size, 2, none⟩) (by first | omega | (simp <;> omega)); simp [go_sem, *] at q2c0_2; have q2c0_18 := hb.cell (p := ⟨w.heap.size, 18, none⟩) (by first | omega | (simp <;> omega)); simp [go_sem, *] at q2c0_18; have q2f0 := fun o => hb.frozen (p := ⟨w.heap.size, o, none⟩) (by first | omega | (simp <;> omega)); simp [go_sem, *] at q2f0; have q2o : ∀ b o, b < w1.heap.size → w2.cell? ⟨b, o, none⟩ = w1.cell? ⟨b, o, none⟩ := fun b o h => q2B.cell (p := ⟨b, o, none⟩) h; have hbS := hb; have hbS2 := hb; clear hb); have HB2 := hide (HB1.out.trans (q2B.mono HB1.out.size)); have t2 : w.heap.size + 2 ≤ w2.heap.size := (by omega))
            refine hK.out _ _ ?_ (fun hHeld => ?_)
            · exact fun _ _ h => absurd h (Nat.not_lt_zero _)
            clear hK K
            (try simp only [Act.put, putA, putB, putC])
            refine wpAnyH_ready (rs := [8]) (by kernel_rfl) (by simp) ?_
            refine ord_run (i := 8) (preB 10 5) rfl (by kernel_rfl) (by rfl) (fun K hK => ?_) AllReadyH.nil
            go_simp
            go_wp2_with (go_at_call 67; refine (HF18.out _ (HR18.out.below (HB2.out.trans (by (repeat (first | (with_reducible first | exact Below.refl _ _ | assumption | refine Below.drew ?_) | ((with_reducible first | refine Below.alloc ?_ ?_ _ | refine Below.setCell ?_ ?_ _); rotate_left; (first | omega | (simp <;> omega))))))))).mono ?_; rintro r w3 ⟨B18, p18, rfl, hN, hb⟩; have HN18 := hide hN; clear hN; have HM3 := hide (show Below w2.heap.size w2 w3 from hb); have HP3 := hide (show w3.heap[w.heap.size]? = some (.cells X 41 (0, 0)) from blk_below hb (by first | omega | (simp <;> omega)) HP2.out); have HZ3 := hide (show w3.heap[w.heap.size + 1]? = some (.cells #[.slice none 0 0, .slice none 0 0, .slice none 0 0, .int .i64 0, .int .i64 0, .int .i64 0, .int .i64 0, .int .i64 0, .int .i64 0, .int .i64 0, .int .i64 0, .int .i64 0, .int .i64 0, .int .i64 0, .int .i64 0, .int .i64 0, .int .i64 0, .slice none 0 0, .slice none 0 0, .slice none 0 0, .slice none 0 0, .slice none 0 0] 41 (0, 0)) from blk_below hb (by first | omega | (simp <;> omega)) HZ2.out); (have q3B : Below w2.heap.size w2 w3 := (by refine Below.trans ?_ (hb.mono (by first | omega | (simp <;> omega))); (repeat (first | (with_reducible first | exact Below.refl _ _ | assumption | refine Below.drew ?_) | ((with_reducible first | refine Below.alloc ?_ ?_ _ | refine Below.setCell ?_ ?_ _); rotate_left; (first | omega | (simp <;> omega)))))); have q3z := hb.size; (try simp at q3z); have q3t : w2.heap.size ≤ w3.heap.size := (by omega); have q3s0 : w.heap.size < w3.heap.size := (by omega); have q3n0_0 : ¬ w3.heap.size = w.heap.size := (by omega); have q3n0_1 : ¬ w3.heap.size + 1 = w.heap.size := (by omega); have q3n0_2 : ¬ w3.heap.size + 2 = w.heap.size := (by omega); have q3c0_0 := hb.cell (p := ⟨w.heap.size, 0, none⟩) (by first | omega | (simp <;> omega)); simp [go_sem, *] at q3c0_0; have q3c0_2 := hb.cell (p := ⟨w.heap.size, 2, none⟩) (by first | omega | (simp <;> omega)); simp [go_sem, *] at q3c0_2; have q3c0_18 := hb.cell (p := ⟨w.heap.size, 18, none⟩) (by first | omega | (simp <;> omega)); simp [go_sem, *] at q3c0_18; have q3f0 := fun o => hb.frozen (p := ⟨w.heap.size, o, none⟩) (by first | omega | (simp <;> omega)); simp [go_sem, *] at q3f0; have q3o : ∀ b o, b < w2.heap.size → w3.cell? ⟨b, o, none⟩ = w2.cell? ⟨b, o, none⟩ := fun b o h => q3B.cell (p := ⟨b, o, none⟩) h; have hbS := hb; have hbS3 := hb; clear hb); have HB3 := hide (HB2.out.trans (q3B.mono HB2.out.size)); have t3 : w.heap.size + 2 ≤ w3.heap.size := (by omega))
            refine hK.out _ _ ?_ (fun hHeld => ?_)
            · exact fun _ _ h => absurd h (Nat.not_lt_zero _)
            clear hK K
            (try simp only [Act.put, putA, putB, putC])
            refine wpAnyH_ready (rs := [10]) (by kernel_rfl) (by simp) ?_
            refine ord_run (i := 10) (preB 11 4) rfl (by kernel_rfl) (by rfl) (fun K hK => ?_) AllReadyH.nil
            go_simp
            refine hK.out _ _ ?_ (fun hHeld => ?_)
            · exact fun _ _ h => absurd h (Nat.not_lt_zero _)
            clear hK K
            (try simp only [Act.put, putA, putB, putC])
            refine ord_take (i := 11) (preB 12 3) ?_ rfl (by kernel_rfl) (by kernel_rfl) (by kernel_rfl) (by kernel_rfl) (fun _ _ _ h => h) hHeld (by rfl) (fun wx hSx => ?_) ?_
            rotate_left
            · (unfold SB at hSx; go_simp; (try with_reducible rfl))
            (try simp only [Act.put, putA, putB, putC])
            refine wpAnyH_ready (rs := [12]) (by kernel_rfl) (by simp) ?_
            refine ord_run (i := 12) (preB 13 2) rfl (by kernel_rfl) (by rfl) (fun K hK => ?_) AllReadyH.nil
            go_simp
            refine hK.out _ _ ?_ (fun hHeld => ?_)
            · exact fun _ _ h => absurd h (Nat.not_lt_zero _)
            clear hK K
            (try simp only [Act.put, putA, putB, putC])
            refine ord_take (i := 13) (preB 14 1) ?_ rfl (by kernel_rfl) (by kernel_rfl) (by kernel_rfl) (by kernel_rfl) (fun _ _ _ h => h) hHeld (by rfl) (fun wx hSx => ?_) ?_
            rotate_left
            · (unfold SB at hSx; go_simp; (try with_reducible rfl))
            (try simp only [Act.put, putA, putB, putC])
            refine wpAnyH_ready (rs := [14]) (by kernel_rfl) (by simp) ?_
            refine ord_run (i := 14) (preB 15 0) rfl (by kernel_rfl) (by rfl) (fun K hK => ?_) AllReadyH.nil
            go_simp
            refine hK.out _ _ ?_ (fun hHeld => ?_)
            · exact fun _ _ h => absurd h (Nat.not_lt_zero _)
            clear hK K
            (try simp only [Act.put, putA, putB, putC])
            refine wpAnyH_done (by kernel_rfl) ?_ _
            go_wp2_with fail
            go_meet
            have hv : ∀ q, (Value.slice B18 n18 p18).ownBlock = some q → w2.heap.size ≤ q := fun q hq => by have h3 := own_ge HN18.out q hq; (try simp at h3); omega
            have r0 : RowT (Av (w.heap.size + 2) (.slice B18 n18 p18) w3) w3 1 B0 n0 c0 D0 := av_old (HN0.out.mono (S' := New (w.heap.size + 2) w2) (fun b h => ⟨by have h3 := h.1; (try simp at h3); omega, Nat.lt_of_lt_of_le h.2 HM2.out.size⟩) (fun b h => HM2.out.block b h.2)) (Nat.le_refl _) HM3.out hv
            have r2 : RowT (Av (w.heap.size + 2) (.slice B18 n18 p18) w3) w3 3 B2 n2 c2 D2 := av_old (HN2.out.mono (S' := New (w.heap.size + 2) w2) (fun b h => ⟨by have h3 := h.1; (try simp at h3); omega, h.2⟩) (fun _ _ => rfl)) (Nat.le_refl _) HM3.out hv
            have ro : w3.ownsRow (w.heap.size + 2) 44 7 (.slice B18 n18 p18) n18 (rowA (elA 9 C18) n18) := own_low HN18.out (by first | omega | (simp <;> omega))
            exact ⟨B0, p0, D0, B2, p2, D2, B18, p18, blk_setCell (blk_setCell (blk_setCell (HP3.out))), blk_setOther (by simp) (blk_setOther (by simp) (blk_setOther (by simp) (HZ3.out))), ⟨av_keep r0 (by simp) (fun b h1 h2 => by refine (Go.Deep.blk_setCell_other _ _ _ _ (by simp; omega)).trans ?_; refine (Go.Deep.blk_setCell_other _ _ _ _ (by simp; omega)).trans ?_; refine (Go.Deep.blk_setCell_other _ _ _ _ (by simp; omega)).trans ?_; (with_reducible exact rfl)), HC0.out⟩, ⟨av_keep r2 (by simp) (fun b h1 h2 => by refine (Go.Deep.blk_setCell_other _ _ _ _ (by simp; omega)).trans ?_; refine (Go.Deep.blk_setCell_other _ _ _ _ (by simp; omega)).trans ?_; refine (Go.Deep.blk_setCell_other _ _ _ _ (by simp; omega)).trans ?_; (with_reducible exact rfl)), HC2.out⟩, own_keepB ro (fun b h1 h2 => by refine (Go.Deep.blk_setCell_other _ _ _ _ (by simp; omega)).trans ?_; refine (Go.Deep.blk_setCell_other _ _ _ _ (by simp; omega)).trans ?_; refine (Go.Deep.blk_setCell_other _ _ _ _ (by simp; omega)).trans ?_; (with_reducible exact rfl)), HB3.out.trans (by (repeat (first | (with_reducible first | exact Below.refl _ _ | assumption | refine Below.drew ?_) | ((with_reducible first | refine Below.alloc ?_ ?_ _ | refine Below.setCell ?_ ?_ _); rotate_left; (first | omega | (simp <;> omega)))))), (by simp; omega)⟩
          exact AllReadyH.nil
        refine ord_run (i := 7) #[true, true, false, true, true, false, true, true, false, false, false, false, false, false, false] rfl (by kernel_rfl) (by rfl) (fun K hK => ?_) ?_
        · go_simp
          refine hK.out _ _ ?_ (fun hHeld => ?_)
          · exact fun _ _ h => absurd h (Nat.not_lt_zero _)
          clear hK K
          (try simp only [Act.put, putA, putB, putC])
          refine wpAnyH_ready (rs := [2]) (by kernel_rfl) (by simp) ?_
          refine ord_run (i := 2) #[true, true, true, true, true, false, true, true, false, false, false, false, false, false, false] rfl (by kernel_rfl) (by rfl) (fun K hK => ?_) AllReadyH.nil
          go_simp
          go_wp2_with (go_at_call 65; refine (HF0.out _ (HR0.out.below (by (repeat (first | (with_reducible first | exact Below.refl _ _ | assumption | refine Below.drew ?_) | ((with_reducible first | refine Below.alloc ?_ ?_ _ | refine Below.setCell ?_ ?_ _); rotate_left; (first | omega | (simp <;> omega)))))))).mono ?_; rintro r w1 ⟨B0, p0, D0, rfl, hc, hN, hb⟩; have HC0 := hide hc; clear hc; have HN0 := hide hN; clear hN; have HP1 := hide (show w1.heap[w.heap.size]? = some (.cells X 41 (0, 0)) from blk_below hb (by first | omega | (simp <;> omega)) (by repeat (first | (exact blk_new (by simp)) | (with_reducible refine blk_drew ?_) | (with_reducible refine blk_under ?_)))); have HZ1 := hide (show w1.heap[w.heap.size + 1]? = some (.cells #[.slice none 0 0, .slice none 0 0, .slice none 0 0, .int .i64 0, .int .i64 0, .int .i64 0, .int .i64 0, .int .i64 0, .int .i64 0, .int .i64 0, .int .i64 0, .int .i64 0, .int .i64 0, .int .i64 0, .int .i64 0, .int .i64 0, .int .i64 0, .slice none 0 0, .slice none 0 0, .slice none 0 0, .slice none 0 0, .slice none 0 0] 41 (0, 0)) from blk_below hb (by first | omega | (simp <;> omega)) (by first | exact blk_new (by simp) | exact blk_drew (blk_new (by simp)))); (have q1B : Below w.heap.size w w1 := (by refine Below.trans ?_ (hb.mono (by first | omega | (simp <;> omega))); (repeat (first | (with_reducible first | exact Below.refl _ _ | assumption | refine Below.drew ?_) | ((with_reducible first | refine Below.alloc ?_ ?_ _ | refine Below.setCell ?_ ?_ _); rotate_left; (first | omega | (simp <;> omega)))))); have q1z := hb.size; (try simp at q1z); have q1t : w.heap.size ≤ w1.heap.size := (by omega); have q1s0 : w.heap.size < w1.heap.size := (by omega); have q1n0_0 : ¬ w1.heap.size = w.heap.size := (by omega); have q1n0_1 : ¬ w1.heap.size + 1 = w.heap.size := (by omega); have q1n0_2 : ¬ w1.heap.size + 2 = w.heap.size := (by omega); have q1c0_0 := hb.cell (p := ⟨w.heap.size, 0, none⟩) (by first | omega | (simp <;> omega)); simp [go_sem, *] at q1c0_0; have q1c0_2 := hb.cell (p := ⟨w.heap.size, 2, none⟩) (by first | omega | (simp <;> omega)); simp [go_sem, *] at q1c0_2; have q1c0_18 := hb.cell (p := ⟨w.heap.size, 18, none⟩) (by first | omega | (simp <;> omega)); simp [go_sem, *] at q1c0_18; have q1f0 := fun o => hb.frozen (p := ⟨w.heap.size, o, none⟩) (by first | omega | (simp <;> omega)); simp [go_sem, *] at q1f0; have q1o : ∀ b o, b < w.heap.size → w1.cell? ⟨b, o, none⟩ = w.cell? ⟨b, o, none⟩ := fun b o h => q1B.cell (p := ⟨b, o, none⟩) h; have hbS := hb; have hbS1 := hb; clear hb); have HB1 := hide q1B; have t1 : w.heap.size + 2 ≤ w1.heap.size := (by omega))
          refine hK.out _ _ ?_ (fun hHeld => ?_)
          · exact fun _ _ h => absurd h (Nat.not_lt_zero _)
          clear hK K
          (try simp only [Act.put, putA, putB, putC])
          refine ord_take (i := 9) #[true, true, true, true, true, false, true, true, false, true, false, false, false, false, false] ?_ rfl (by kernel_rfl) (by kernel_rfl) (by kernel_rfl) (by kernel_rfl) (fun _ _ _ h => h) hHeld (by rfl) (fun wx hSx => ?_) ?_
          rotate_left
          · (unfold SB at hSx; go_simp; (try with_reducible rfl))
          (try simp only [Act.put, putA, putB, putC])
          refine wpAnyH_ready (rs := [5]) (by kernel_rfl) (by simp) ?_
          refine ord_run (i := 5) #[true, true, true, true, true, true, true, true, false, true, false, false, false, false, false] rfl (by kernel_rfl) (by rfl) (fun K hK => ?_) AllReadyH.nil
          go_simp
          go_wp2_with (go_at_call 66; refine (HF2.out _ (HR2.out.below (HB1.out.trans (by (repeat (first | (with_reducible first | exact Below.refl _ _ | assumption | refine Below.drew ?_) | ((with_reducible first | refine Below.alloc ?_ ?_ _ | refine Below.setCell ?_ ?_ _); rotate_left; (first | omega | (simp <;> omega))))))))).mono ?_; rintro r w2 ⟨B2, p2, D2, rfl, hc, hN, hb⟩; have HC2 := hide hc; clear hc; have HN2 := hide hN; clear hN; have HM2 := hide (show Below w1.heap.size w1 w2 from hb); have HP2 := hide (show w2.heap[w.heap.size]? = some (.cells X 41 (0, 0)) from blk_below hb (by first | omega | (simp <;> omega)) HP1.out); have HZ2 := hide (show w2.heap[w.heap.size + 1]? = some (.cells #[.slice none 0 0, .slice none 0 0, .slice none 0 0, .int .i64 0, .int .i64 0, .int .i64 0, .int .i64 0, .int .i64 0, .int .i64 0, .int .i64 0, .int .i64 0, .int .i64 0, .int .i64 0, .int .i64 0, .int .i64 0, .int .i64 0, .int .i64 0, .slice none 0 0, .slice none 0 0, .slice none 0 0, .slice none 0 0, .slice none 0 0] 41 (0, 0)) from blk_below hb (by first | omega | (simp <;> omega)) HZ1.out); (have q2B : Below w1.heap.size w1 w2 := (by refine Below.trans ?_ (hb.mono (by first | omega | (simp <;> omega))); (repeat (first | (with_reducible first | exact Below.refl _ _ | assumption | refine Below.drew ?_) | ((with_reducible first | refine Below.alloc ?_ ?_ _ | refine Below.setCell ?_ ?_ _); rotate_left; (first | omega | (simp <;> omega)))))); have q2z := hb.size; (try simp at q2z); have q2t : w1.heap.size ≤ w2.heap.size := (by omega); have q2s0 : w.heap.size < w2.heap.size := (by omega); have q2n0_0 : ¬ w2.heap.size = w.heap.size := (by omega); have q2n0_1 : ¬ w2.heap.size + 1 = w.heap.size := (by omega); have q2n0_2 : ¬ w2.heap.size + 2 = w.heap.size := (by omega); have q2c0_0 := hb.cell (p := ⟨w.heap.size, 0, none⟩) (by first | omega | (simp <;> omega)); simp [go_sem, *] at q2c0_0; have q2c0_2 := hb.cell (p := ⟨w.heap.size, 2, none⟩) (by first | omega | (simp <;> omega)); simp [go_sem, *] at q2c0_2; have q2c0_18 := hb.cell (p := ⟨w.heap.size, 18, none⟩) (by first | omega | (simp <;> omega)); simp [go_sem, *] at q2c0_18; have q2f0 := fun o => hb.frozen (p := ⟨w.heap.size, o, none⟩) (by first | omega | (simp <;> omega)); simp [go_sem, *] at q2f0; have q2o : ∀ b o, b < w1.heap.size → w2.cell? ⟨b, o, none⟩ = w1.cell? ⟨b, o, none⟩ := fun b o h => q2B.cell (p := ⟨b, o, none⟩) h; have hbS := hb; have hbS2 := hb; clear hb); have HB2 := hide (HB1.out.trans (q2B.mono HB1.out.size)); have t2 : w.heap.size + 2 ≤ w2.heap.size := (by omega))
          refine hK.out _ _ ?_ (fun hHeld => ?_)
          · exact fun _ _ h => absurd h (Nat.not_lt_zero _)
          clear hK K
          (try simp only [Act.put, putA, putB, putC])
          refine wpAnyH_ready (rs := [8]) (by kernel_rfl) (by simp) ?_
          refine ord_run (i := 8) (preB 10 5) rfl (by kernel_rfl) (by rfl) (fun K hK => ?_) AllReadyH.nil
          go_simp
          go_wp2_with (go_at_call 67; refine (HF18.out _ (HR18.out.below (HB2.out.trans (by (repeat (first | (with_reducible first | exact Below.refl _ _ | assumption | refine Below.drew ?_) | ((with_reducible first | refine Below.alloc ?_ ?_ _ | refine Below.setCell ?_ ?_ _); rotate_left; (first | omega | (simp <;> omega))))))))).mono ?_; rintro r w3 ⟨B18, p18, rfl, hN, hb⟩; have HN18 := hide hN; clear hN; have HM3 := hide (show Below w2.heap.size w2 w3 from hb); have HP3 := hide (show w3.heap[w.heap.size]? = some (.cells X 41 (0, 0)) from blk_below hb (by first | omega | (simp <;> omega)) HP2.out); have HZ3 := hide (show w3.heap[w.heap.size + 1]? = some (.cells #[.slice none 0 0, .slice none 0 0, .slice none 0 0, .int .i64 0, .int .i64 0, .int .i64 0, .int .i64 0, .int .i64 0, .int .i64 0, .int .i64 0, .int .i64 0, .int .i64 0, .int .i64 0, .int .i64 0, .int .i64 0, .int .i64 0, .int .i64 0, .slice none 0 0, .slice none 0 0, .slice none 0 0, .slice none 0 0, .slice none 0 0] 41 (0, 0)) from blk_below hb (by first | omega | (simp <;> omega)) HZ2.out); (have q3B : Below w2.heap.size w2 w3 := (by refine Below.trans ?_ (hb.mono (by first | omega | (simp <;> omega))); (repeat (first | (with_reducible first | exact Below.refl _ _ | assumption | refine Below.drew ?_) | ((with_reducible first | refine Below.alloc ?_ ?_ _ | refine Below.setCell ?_ ?_ _); rotate_left; (first | omega | (simp <;> omega)))))); have q3z := hb.size; (try simp at q3z); have q3t : w2.heap.size ≤ w3.heap.size := (by omega); have q3s0 : w.heap.size < w3.heap.size := (by omega); have q3n0_0 : ¬ w3.heap.size = w.heap.size := (by omega); have q3n0_1 : ¬ w3.heap.size + 1 = w.heap.size := (by omega); have q3n0_2 : ¬ w3.heap.size + 2 = w.heap.size := (by omega); have q3c0_0 := hb.cell (p := ⟨w.heap.size, 0, none⟩) (by first | omega | (simp <;> omega)); simp [go_sem, *] at q3c0_0; have q3c0_2 := hb.cell (p := ⟨w.heap.size, 2, none⟩) (by first | omega | (simp <;> omega)); simp [go_sem, *] at q3c0_2; have q3c0_18 := hb.cell (p := ⟨w.heap.size, 18, none⟩) (by first | omega | (simp <;> omega)); simp [go_sem, *] at q3c0_18; have q3f0 := fun o => hb.frozen (p := ⟨w.heap.size, o, none⟩) (by first | omega | (simp <;> omega)); simp [go_sem, *] at q3f0; have q3o : ∀ b o, b < w2.heap.size → w3.cell? ⟨b, o, none⟩ = w2.cell? ⟨b, o, none⟩ := fun b o h => q3B.cell (p := ⟨b, o, none⟩) h; have hbS := hb; have hbS3 := hb; clear hb); have HB3 := hide (HB2.out.trans (q3B.mono HB2.out.size)); have t3 : w.heap.size + 2 ≤ w3.heap.size := (by omega))
          refine hK.out _ _ ?_ (fun hHeld => ?_)
          · exact fun _ _ h => absurd h (Nat.not_lt_zero _)
          clear hK K
          (try simp only [Act.put, putA, putB, putC])
          refine wpAnyH_ready (rs := [10]) (by kernel_rfl) (by simp) ?_
          refine ord_run (i := 10) (preB 11 4) rfl (by kernel_rfl) (by rfl) (fun K hK => ?_) AllReadyH.nil
          go_simp
          refine hK.out _ _ ?_ (fun hHeld => ?_)
          · exact fun _ _ h => absurd h (Nat.not_lt_zero _)
          clear hK K
          (try simp only [Act.put, putA, putB, putC])
          refine ord_take (i := 11) (preB 12 3) ?_ rfl (by kernel_rfl) (by kernel_rfl) (by kernel_rfl) (by kernel_rfl) (fun _ _ _ h => h) hHeld (by rfl) (fun wx hSx => ?_) ?_
          rotate_left
          · (unfold SB at hSx; go_simp; (try with_reducible rfl))
          (try simp only [Act.put, putA, putB, putC])
          refine wpAnyH_ready (rs := [12]) (by kernel_rfl) (by simp) ?_
          refine ord_run (i := 12) (preB 13 2) rfl (by kernel_rfl) (by rfl) (fun K hK => ?_) AllReadyH.nil
          go_simp
          refine hK.out _ _ ?_ (fun hHeld => ?_)
          · exact fun _ _ h => absurd h (Nat.not_lt_zero _)
          clear hK K
          (try simp only [Act.put, putA, putB, putC])
          refine ord_take (i := 13) (preB 14 1) ?_ rfl (by kernel_rfl) (by kernel_rfl) (by kernel_rfl) (by kernel_rfl) (fun _ _ _ h => h) hHeld (by rfl) (fun wx hSx => ?_) ?_
          rotate_left
          · (unfold SB at hSx; go_simp; (try with_reducible rfl))
          (try simp only [Act.put, putA, putB, putC])
          refine wpAnyH_ready (rs := [14]) (by kernel_rfl) (by simp) ?_
          refine ord_run (i := 14) (preB 15 0) rfl (by kernel_rfl) (by rfl) (fun K hK => ?_) AllReadyH.nil
          go_simp
          refine hK.out _ _ ?_ (fun hHeld => ?_)
          · exact fun _ _ h => absurd h (Nat.not_lt_zero _)
          clear hK K
          (try simp only [Act.put, putA, putB, putC])
          refine wpAnyH_done (by kernel_rfl) ?_ _
          go_wp2_with fail
          go_meet
          have hv : ∀ q, (Value.slice B18 n18 p18).ownBlock = some q → w2.heap.size ≤ q := fun q hq => by have h3 := own_ge HN18.out q hq; (try simp at h3); omega
          have r0 : RowT (Av (w.heap.size + 2) (.slice B18 n18 p18) w3) w3 1 B0 n0 c0 D0 := av_old (HN0.out.mono (S' := New (w.heap.size + 2) w2) (fun b h => ⟨by have h3 := h.1; (try simp at h3); omega, Nat.lt_of_lt_of_le h.2 HM2.out.size⟩) (fun b h => HM2.out.block b h.2)) (Nat.le_refl _) HM3.out hv
          have r2 : RowT (Av (w.heap.size + 2) (.slice B18 n18 p18) w3) w3 3 B2 n2 c2 D2 := av_old (HN2.out.mono (S' := New (w.heap.size + 2) w2) (fun b h => ⟨by have h3 := h.1; (try simp at h3); omega, h.2⟩) (fun _ _ => rfl)) (Nat.le_refl _) HM3.out hv
          have ro : w3.ownsRow (w.heap.size + 2) 44 7 (.slice B18 n18 p18) n18 (rowA (elA 9 C18) n18) := own_low HN18.out (by first | omega | (simp <;> omega))
          exact ⟨B0, p0, D0, B2, p2, D2, B18, p18, blk_setCell (blk_setCell (blk_setCell (HP3.out))), blk_setOther (by simp) (blk_setOther (by simp) (blk_setOther (by simp) (HZ3.out))), ⟨av_keep r0 (by simp) (fun b h1 h2 => by refine (Go.Deep.blk_setCell_other _ _ _ _ (by simp; omega)).trans ?_; refine (Go.Deep.blk_setCell_other _ _ _ _ (by simp; omega)).trans ?_; refine (Go.Deep.blk_setCell_other _ _ _ _ (by simp; omega)).trans ?_; (with_reducible exact rfl)), HC0.out⟩, ⟨av_keep r2 (by simp) (fun b h1 h2 => by refine (Go.Deep.blk_setCell_other _ _ _ _ (by simp; omega)).trans ?_; refine (Go.Deep.blk_setCell_other _ _ _ _ (by simp; omega)).trans ?_; refine (Go.Deep.blk_setCell_other _ _ _ _ (by simp; omega)).trans ?_; (with_reducible exact rfl)), HC2.out⟩, own_keepB ro (fun b h1 h2 => by refine (Go.Deep.blk_setCell_other _ _ _ _ (by simp; omega)).trans ?_; refine (Go.Deep.blk_setCell_other _ _ _ _ (by simp; omega)).trans ?_; refine (Go.Deep.blk_setCell_other _ _ _ _ (by simp; omega)).trans ?_; (with_reducible exact rfl)), HB3.out.trans (by (repeat (first | (with_reducible first | exact Below.refl _ _ | assumption | refine Below.drew ?_) | ((with_reducible first | refine Below.alloc ?_ ?_ _ | refine Below.setCell ?_ ?_ _); rotate_left; (first | omega | (simp <;> omega)))))), (by simp; omega)⟩
        exact AllReadyH.nil
      refine ord_run (i := 7) #[true, false, false, true, true, false, true, true, false, false, false, false, false, false, false] rfl (by kernel_rfl) (by rfl) (fun K hK => ?_) ?_
      · go_simp
        refine hK.out _ _ ?_ (fun hHeld => ?_)
        · exact fun _ _ h => absurd h (Nat.not_lt_zero _)
        clear hK K
        (try simp only [Act.put, putA, putB, putC])
        refine wpAnyH_ready (rs := [1]) (by kernel_rfl) (by simp) ?_
        refine ord_run (i := 1) #[true, true, false, true, true, false, true, true, false, false, false, false, false, false, false] rfl (by kernel_rfl) (by rfl) (fun K hK => ?_) AllReadyH.nil
        go_simp
        refine hK.out _ _ ?_ (fun hHeld => ?_)
        · exact fun _ _ h => absurd h (Nat.not_lt_zero _)
        clear hK K
        (try simp only [Act.put, putA, putB, putC])
        refine wpAnyH_ready (rs := [2]) (by kernel_rfl) (by simp) ?_
        refine ord_run (i := 2) #[true, true, true, true, true, false, true, true, false, false, false, false, false, false, false] rfl (by kernel_rfl) (by rfl) (fun K hK => ?_) AllReadyH.nil
        go_simp
        go_wp2_with (go_at_call 65; refine (HF0.out _ (HR0.out.below (by (repeat (first | (with_reducible first | exact Below.refl _ _ | assumption | refine Below.drew ?_) | ((with_reducible first | refine Below.alloc ?_ ?_ _ | refine Below.setCell ?_ ?_ _); rotate_left; (first | omega | (simp <;> omega)))))))).mono ?_; rintro r w1 ⟨B0, p0, D0, rfl, hc, hN, hb⟩; have HC0 := hide hc; clear hc; have HN0 := hide hN; clear hN; have HP1 := hide (show w1.heap[w.heap.size]? = some (.cells X 41 (0, 0)) from blk_below hb (by first | omega | (simp <;> omega)) (by repeat (first | (exact blk_new (by simp)) | (with_reducible refine blk_drew ?_) | (with_reducible refine blk_under ?_)))); have HZ1 := hide (show w1.heap[w.heap.size + 1]? = some (.cells #[.slice none 0 0, .slice none 0 0, .slice none 0 0, .int .i64 0, .int .i64 0, .int .i64 0, .int .i64 0, .int .i64 0, .int .i64 0, .int .i64 0, .int .i64 0, .int .i64 0, .int .i64 0, .int .i64 0, .int .i64 0, .int .i64 0, .int .i64 0, .slice none 0 0, .slice none 0 0, .slice none 0 0, .slice none 0 0, .slice none 0 0] 41 (0, 0)) from blk_below hb (by first | omega | (simp <;> omega)) (by first | exact blk_new (by simp) | exact blk_drew (blk_new (by simp)))); (have q1B : Below w.heap.size w w1 := (by refine Below.trans ?_ (hb.mono (by first | omega | (simp <;> omega))); (repeat (first | (with_reducible first | exact Below.refl _ _ | assumption | refine Below.drew ?_) | ((with_reducible first | refine Below.alloc ?_ ?_ _ | refine Below.setCell ?_ ?_ _); rotate_left; (first | omega | (simp <;> omega)))))); have q1z := hb.size; (try simp at q1z); have q1t : w.heap.size ≤ w1.heap.size := (by omega); have q1s0 : w.heap.size < w1.heap.size := (by omega); have q1n0_0 : ¬ w1.heap.size = w.heap.size := (by omega); have q1n0_1 : ¬ w1.heap.size + 1 = w.heap.size := (by omega); have q1n0_2 : ¬ w1.heap.size + 2 = w.heap.size := (by omega); have q1c0_0 := hb.cell (p := ⟨w.heap.size, 0, none⟩) (by first | omega | (simp <;> omega)); simp [go_sem, *] at q1c0_0; have q1c0_2 := hb.cell (p := ⟨w.heap.size, 2, none⟩) (by first | omega | (simp <;> omega)); simp [go_sem, *] at q1c0_2; have q1c0_18 := hb.cell (p := ⟨w.heap.size, 18, none⟩) (by first | omega | (simp <;> omega)); simp [go_sem, *] at q1c0_18; have q1f0 := fun o => hb.frozen (p := ⟨w.heap.size, o, none⟩) (by first | omega | (simp <;> omega)); simp [go_sem, *] at q1f0; have q1o : ∀ b o, b < w.heap.size → w1.cell? ⟨b, o, none⟩ = w.cell? ⟨b, o, none⟩ := fun b o h => q1B.cell (p := ⟨b, o, none⟩) h; have hbS := hb; have hbS1 := hb; clear hb); have HB1 := hide q1B; have t1 : w.heap.size + 2 ≤ w1.heap.size := (by omega))
        refine hK.out _ _ ?_ (fun hHeld => ?_)
        · exact fun _ _ h => absurd h (Nat.not_lt_zero _)
        clear hK K
        (try simp only [Act.put, putA, putB, putC])
        refine ord_take (i := 9) #[true, true, true, true, true, false, true, true, false, true, false, false, false, false, false] ?_ rfl (by kernel_rfl) (by kernel_rfl) (by kernel_rfl) (by kernel_rfl) (fun _ _ _ h => h) hHeld (by rfl) (fun wx hSx => ?_) ?_
        rotate_left
        · (unfold SB at hSx; go_simp; (try with_reducible rfl))
        (try simp only [Act.put, putA, putB, putC])
        refine wpAnyH_ready (rs := [5]) (by kernel_rfl) (by simp) ?_
        refine ord_run (i := 5) #[true, true, true, true, true, true, true, true, false, true, false, false, false, false, false] rfl (by kernel_rfl) (by rfl) (fun K hK => ?_) AllReadyH.nil
        go_simp
        go_wp2_with (go_at_call 66; refine (HF2.out _ (HR2.out.below (HB1.out.trans (by (repeat (first | (with_reducible first | exact Below.refl _ _ | assumption | refine Below.drew ?_) | ((with_reducible first | refine Below.alloc ?_ ?_ _ | refine Below.setCell ?_ ?_ _); rotate_left; (first | omega | (simp <;> omega))))))))).mono ?_; rintro r w2 ⟨B2, p2, D2, rfl, hc, hN, hb⟩; have HC2 := hide hc; clear hc; have HN2 := hide hN; clear hN; have HM2 := hide (show Below w1.heap.size w1 w2 from hb); have HP2 := hide (show w2.heap[w.heap.size]? = some (.cells X 41 (0, 0)) from blk_below hb (by first | omega | (simp <;> omega)) HP1.out); have HZ2 := hide (show w2.heap[w.heap.size + 1]? = some (.cells #[.slice none 0 0, .slice none 0 0, .slice none 0 0, .int .i64 0, .int .i64 0, .int .i64 0, .int .i64 0, .int .i64 0, .int .i64 0, .int .i64 0, .int .i64 0, .int .i64 0, .int .i64 0, .int .i64 0, .int .i64 0, .int .i64 0, .int .i64 0, .slice none 0 0, .slice none 0 0, .slice none 0 0, .slice none 0 0, .slice none 0 0] 41 (0, 0)) from blk_below hb (by first | omega | (simp <;> omega)) HZ1.out); (have q2B : Below w1.heap.size w1 w2 := (by refine Below.trans ?_ (hb.mono (by first | omega | (simp <;> omega))); (repeat (first | (with_reducible first | exact Below.refl _ _ | assumption | refine Below.drew ?_) | ((with_reducible first | refine Below.alloc ?_ ?_ _ | refine Below.setCell ?_ ?_ _); rotate_left; (first | omega | (simp <;> omega)))))); have q2z := hb.size; (try simp at q2z); have q2t : w1.heap.size ≤ w2.heap.size := (by omega); have q2s0 : w.heap.size < w2.heap.size := (by omega); have q2n0_0 : ¬ w2.heap.size = w.heap.size := (by omega); have q2n0_1 : ¬ w2.heap.size + 1 = w.heap.size := (by omega); have q2n0_2 : ¬ w2.heap.size + 2 = w.heap.size := (by omega); have q2c0_0 := hb.cell (p := ⟨w.heap.size, 0, none⟩) (by first | omega | (simp <;> omega)); simp [go_sem, *] at q2c0_0; have q2c0_2 := hb.cell (p := ⟨w.heap.size, 2, none⟩) (by first | omega | (simp <;> omega)); simp [go_sem, *] at q2c0_2; have q2c0_18 := hb.cell (p := ⟨w.heap.size, 18, none⟩) (by first | omega | (simp <;> omega)); simp [go_sem, *] at q2c0_18; have q2f0 := fun o => hb.frozen (p := ⟨w.heap.size, o, none⟩) (by first | omega | (simp <;> omega)); simp [go_sem, *] at q2f0; have q2o : ∀ b o, b < w1.heap.size → w2.cell? ⟨b, o, none⟩ = w1.cell? ⟨b, o, none⟩ := fun b o h => q2B.cell (p := ⟨b, o, none⟩) h; have hbS := hb; have hbS2 := hb; clear hb); have HB2 := hide (HB1.out.trans (q2B.mono HB1.out.size)); have t2 : w.heap.size + 2 ≤ w2.heap.size := (by omega))
        refine hK.out _ _ ?_ (fun hHeld => ?_)
        · exact fun _ _ h => absurd h (Nat.not_lt_zero _)
        clear hK K
        (try simp only [Act.put, putA, putB, putC])
        refine wpAnyH_ready (rs := [8]) (by kernel_rfl) (by simp) ?_
        refine ord_run (i := 8) (preB 10 5) rfl (by kernel_rfl) (by rfl) (fun K hK => ?_) AllReadyH.nil
        go_simp
        go_wp2_with (go_at_call 67; refine (HF18.out _ (HR18.out.below (HB2.out.trans (by (repeat (first | (with_reducible first | exact Below.refl _ _ | assumption | refine Below.drew ?_) | ((with_reducible first | refine Below.alloc ?_ ?_ _ | refine Below.setCell ?_ ?_ _); rotate_left; (first | omega | (simp <;> omega))))))))).mono ?_; rintro r w3 ⟨B18, p18, rfl, hN, hb⟩; have HN18 := hide hN; clear hN; have HM3 := hide (show Below w2.heap.size w2 w3 from hb); have HP3 := hide (show w3.heap[w.heap.size]? = some (.cells X 41 (0, 0)) from blk_below hb (by first | omega | (simp <;> omega)) HP2.out); have HZ3 := hide (show w3.heap[w.heap.size + 1]? = some (.cells #[.slice none 0 0, .slice none 0 0, .slice none 0 0, .int .i64 0, .int .i64 0, .int .i64 0, .int .i64 0, .int .i64 0, .int .i64 0, .int .i64 0, .int .i64 0, .int .i64 0, .int .i64 0, .int .i64 0, .int .i64 0, .int .i64 0, .int .i64 0, .slice none 0 0, .slice none 0 0, .slice none 0 0, .slice none 0 0, .slice none 0 0] 41 (0, 0)) from blk_below hb (by first | omega | (simp <;> omega)) HZ2.out); (have q3B : Below w2.heap.size w2 w3 := (by refine Below.trans ?_ (hb.mono (by first | omega | (simp <;> omega))); (repeat (first | (with_reducible first | exact Below.refl _ _ | assumption | refine Below.drew ?_) | ((with_reducible first | refine Below.alloc ?_ ?_ _ | refine Below.setCell ?_ ?_ _); rotate_left; (first | omega | (simp <;> omega)))))); have q3z := hb.size; (try simp at q3z); have q3t : w2.heap.size ≤ w3.heap.size := (by omega); have q3s0 : w.heap.size < w3.heap.size := (by omega); have q3n0_0 : ¬ w3.heap.size = w.heap.size := (by omega); have q3n0_1 : ¬ w3.heap.size + 1 = w.heap.size := (by omega); have q3n0_2 : ¬ w3.heap.size + 2 = w.heap.size := (by omega); have q3c0_0 := hb.cell (p := ⟨w.heap.size, 0, none⟩) (by first | omega | (simp <;> omega)); simp [go_sem, *] at q3c0_0; have q3c0_2 := hb.cell (p := ⟨w.heap.size, 2, none⟩) (by first | omega | (simp <;> omega)); simp [go_sem, *] at q3c0_2; have q3c0_18 := hb.cell (p := ⟨w.heap.size, 18, none⟩) (by first | omega | (simp <;> omega)); simp [go_sem, *] at q3c0_18; have q3f0 := fun o => hb.frozen (p := ⟨w.heap.size, o, none⟩) (by first | omega | (simp <;> omega)); simp [go_sem, *] at q3f0; have q3o : ∀ b o, b < w2.heap.size → w3.cell? ⟨b, o, none⟩ = w2.cell? ⟨b, o, none⟩ := fun b o h => q3B.cell (p := ⟨b, o, none⟩) h; have hbS := hb; have hbS3 := hb; clear hb); have HB3 := hide (HB2.out.trans (q3B.mono HB2.out.size)); have t3 : w.heap.size + 2 ≤ w3.heap.size := (by omega))
        refine hK.out _ _ ?_ (fun hHeld => ?_)
        · exact fun _ _ h => absurd h (Nat.not_lt_zero _)
        clear hK K
        (try simp only [Act.put, putA, putB, putC])
        refine wpAnyH_ready (rs := [10]) (by kernel_rfl) (by simp) ?_
        refine ord_run (i := 10) (preB 11 4) rfl (by kernel_rfl) (by rfl) (fun K hK => ?_) AllReadyH.nil
        go_simp
        refine hK.out _ _ ?_ (fun hHeld => ?_)
        · exact fun _ _ h => absurd h (Nat.not_lt_zero _)
        clear hK K
        (try simp only [Act.put, putA, putB, putC])
        refine ord_take (i := 11) (preB 12 3) ?_ rfl (by kernel_rfl) (by kernel_rfl) (by kernel_rfl) (by kernel_rfl) (fun _ _ _ h => h) hHeld (by rfl) (fun wx hSx => ?_) ?_
        rotate_left
        · (unfold SB at hSx; go_simp; (try with_reducible rfl))
        (try simp only [Act.put, putA, putB, putC])
        refine wpAnyH_ready (rs := [12]) (by kernel_rfl) (by simp) ?_
        refine ord_run (i := 12) (preB 13 2) rfl (by kernel_rfl) (by rfl) (fun K hK => ?_) AllReadyH.nil
        go_simp
        refine hK.out _ _ ?_ (fun hHeld => ?_)
        · exact fun _ _ h => absurd h (Nat.not_lt_zero _)
        clear hK K
        (try simp only [Act.put, putA, putB, putC])
        refine ord_take (i := 13) (preB 14 1) ?_ rfl (by kernel_rfl) (by kernel_rfl) (by kernel_rfl) (by kernel_rfl) (fun _ _ _ h => h) hHeld (by rfl) (fun wx hSx => ?_) ?_
        rotate_left
        · (unfold SB at hSx; go_simp; (try with_reducible rfl))
        (try simp only [Act.put, putA, putB, putC])
        refine wpAnyH_ready (rs := [14]) (by kernel_rfl) (by simp) ?_
        refine ord_run (i := 14) (preB 15 0) rfl (by kernel_rfl) (by rfl) (fun K hK => ?_) AllReadyH.nil
        go_simp
        refine hK.out _ _ ?_ (fun hHeld => ?_)
        · exact fun _ _ h => absurd h (Nat.not_lt_zero _)
        clear hK K
        (try simp only [Act.put, putA, putB, putC])
        refine wpAnyH_done (by kernel_rfl) ?_ _
        go_wp2_with fail
        go_meet
        have hv : ∀ q, (Value.slice B18 n18 p18).ownBlock = some q → w2.heap.size ≤ q := fun q hq => by have h3 := own_ge HN18.out q hq; (try simp at h3); omega
        have r0 : RowT (Av (w.heap.size + 2) (.slice B18 n18 p18) w3) w3 1 B0 n0 c0 D0 := av_old (HN0.out.mono (S' := New (w.heap.size + 2) w2) (fun b h => ⟨by have h3 := h.1; (try simp at h3); omega, Nat.lt_of_lt_of_le h.2 HM2.out.size⟩) (fun b h => HM2.out.block b h.2)) (Nat.le_refl _) HM3.out hv
        have r2 : RowT (Av (w.heap.size + 2) (.slice B18 n18 p18) w3) w3 3 B2 n2 c2 D2 := av_old (HN2.out.mono (S' := New (w.heap.size + 2) w2) (fun b h => ⟨by have h3 := h.1; (try simp at h3); omega, h.2⟩) (fun _ _ => rfl)) (Nat.le_refl _) HM3.out hv
        have ro : w3.ownsRow (w.heap.size + 2) 44 7 (.slice B18 n18 p18) n18 (rowA (elA 9 C18) n18) := own_low HN18.out (by first | omega | (simp <;> omega))
        exact ⟨B0, p0, D0, B2, p2, D2, B18, p18, blk_setCell (blk_setCell (blk_setCell (HP3.out))), blk_setOther (by simp) (blk_setOther (by simp) (blk_setOther (by simp) (HZ3.out))), ⟨av_keep r0 (by simp) (fun b h1 h2 => by refine (Go.Deep.blk_setCell_other _ _ _ _ (by simp; omega)).trans ?_; refine (Go.Deep.blk_setCell_other _ _ _ _ (by simp; omega)).trans ?_; refine (Go.Deep.blk_setCell_other _ _ _ _ (by simp; omega)).trans ?_; (with_reducible exact rfl)), HC0.out⟩, ⟨av_keep r2 (by simp) (fun b h1 h2 => by refine (Go.Deep.blk_setCell_other _ _ _ _ (by simp; omega)).trans ?_; refine (Go.Deep.blk_setCell_other _ _ _ _ (by simp; omega)).trans ?_; refine (Go.Deep.blk_setCell_other _ _ _ _ (by simp; omega)).trans ?_; (with_reducible exact rfl)), HC2.out⟩, own_keepB ro (fun b h1 h2 => by refine (Go.Deep.blk_setCell_other _ _ _ _ (by simp; omega)).trans ?_; refine (Go.Deep.blk_setCell_other _ _ _ _ (by simp; omega)).trans ?_; refine (Go.Deep.blk_setCell_other _ _ _ _ (by simp; omega)).trans ?_; (with_reducible exact rfl)), HB3.out.trans (by (repeat (first | (with_reducible first | exact Below.refl _ _ | assumption | refine Below.drew ?_) | ((with_reducible first | refine Below.alloc ?_ ?_ _ | refine Below.setCell ?_ ?_ _); rotate_left; (first | omega | (simp <;> omega)))))), (by simp; omega)⟩
      exact AllReadyH.nil
    refine ord_run (i := 7) #[true, false, false, true, false, false, true, true, false, false, false, false, false, false, false] rfl (by kernel_rfl) (by rfl) (fun K hK => ?_) ?_
    · go_simp
      refine hK.out _ _ ?_ (fun hHeld => ?_)
      · exact fun _ _ h => absurd h (Nat.not_lt_zero _)
      clear hK K
      (try simp only [Act.put, putA, putB, putC])
      refine wpAnyH_ready (rs := [1, 4]) (by kernel_rfl) (by simp) ?_
      refine ord_run (i := 1) #[true, true, false, true, false, false, true, true, false, false, false, false, false, false, false] rfl (by kernel_rfl) (by rfl) (fun K hK => ?_) ?_
      · go_simp
        refine hK.out _ _ ?_ (fun hHeld => ?_)
        · exact fun _ _ h => absurd h (Nat.not_lt_zero _)
        clear hK K
        (try simp only [Act.put, putA, putB, putC])
        refine wpAnyH_ready (rs := [2, 4]) (by kernel_rfl) (by simp) ?_
        refine ord_run (i := 2) #[true, true, true, true, false, false, true, true, false, false, false, false, false, false, false] rfl (by kernel_rfl) (by rfl) (fun K hK => ?_) ?_
        · go_simp
          go_wp2_with (go_at_call 65; refine (HF0.out _ (HR0.out.below (by (repeat (first | (with_reducible first | exact Below.refl _ _ | assumption | refine Below.drew ?_) | ((with_reducible first | refine Below.alloc ?_ ?_ _ | refine Below.setCell ?_ ?_ _); rotate_left; (first | omega | (simp <;> omega)))))))).mono ?_; rintro r w1 ⟨B0, p0, D0, rfl, hc, hN, hb⟩; have HC0 := hide hc; clear hc; have HN0 := hide hN; clear hN; have HP1 := hide (show w1.heap[w.heap.size]? = some (.cells X 41 (0, 0)) from blk_below hb (by first | omega | (simp <;> omega)) (by repeat (first | (exact blk_new (by simp)) | (with_reducible refine blk_drew ?_) | (with_reducible refine blk_under ?_)))); have HZ1 := hide (show w1.heap[w.heap.size + 1]? = some (.cells #[.slice none 0 0, .slice none 0 0, .slice none 0 0, .int .i64 0, .int .i64 0, .int .i64 0, .int .i64 0, .int .i64 0, .int .i64 0, .int .i64 0, .int .i64 0, .int .i64 0, .int .i64 0, .int .i64 0, .int .i64 0, .int .i64 0, .int .i64 0, .slice none 0 0, .slice none 0 0, .slice none 0 0, .slice none 0 0, .slice none 0 0] 41 (0, 0)) from blk_below hb (by first | omega | (simp <;> omega)) (by first | exact blk_new (by simp) | exact blk_drew (blk_new (by simp)))); (have q1B : Below w.heap.size w w1 := (by refine Below.trans ?_ (hb.mono (by first | omega | (simp <;> omega))); (repeat (first | (with_reducible first | exact Below.refl _ _ | assumption | refine Below.drew ?_) | ((with_reducible first | refine Below.alloc ?_ ?_ _ | refine Below.setCell ?_ ?_ _); rotate_left; (first | omega | (simp <;> omega)))))); have q1z := hb.size; (try simp at q1z); have q1t : w.heap.size ≤ w1.heap.size := (by omega); have q1s0 : w.heap.size < w1.heap.size := (by omega); have q1n0_0 : ¬ w1.heap.size = w.heap.size := (by omega); have q1n0_1 : ¬ w1.heap.size + 1 = w.heap.size := (by omega); have q1n0_2 : ¬ w1.heap.size + 2 = w.heap.size := (by omega); have q1c0_0 := hb.cell (p := ⟨w.heap.size, 0, none⟩) (by first | omega | (simp <;> omega)); simp [go_sem, *] at q1c0_0; have q1c0_2 := hb.cell (p := ⟨w.heap.size, 2, none⟩) (by first | omega | (simp <;> omega)); simp [go_sem, *] at q1c0_2; have q1c0_18 := hb.cell (p := ⟨w.heap.size, 18, none⟩) (by first | omega | (simp <;> omega)); simp [go_sem, *] at q1c0_18; have q1f0 := fun o => hb.frozen (p := ⟨w.heap.size, o, none⟩) (by first | omega | (simp <;> omega)); simp [go_sem, *] at q1f0; have q1o : ∀ b o, b < w.heap.size → w1.cell? ⟨b, o, none⟩ = w.cell? ⟨b, o, none⟩ := fun b o h => q1B.cell (p := ⟨b, o, none⟩) h; have hbS := hb; have hbS1 := hb; clear hb); have HB1 := hide q1B; have t1 : w.heap.size + 2 ≤ w1.heap.size := (by omega))
          refine hK.out _ _ ?_ (fun hHeld => ?_)
          · exact fun _ _ h => absurd h (Nat.not_lt_zero _)
          clear hK K
          (try simp only [Act.put, putA, putB, putC])
          refine wpAnyH_ready (rs := [4]) (by kernel_rfl) (by simp) ?_
          refine ord_run (i := 4) #[true, true, true, true, true, false, true, true, false, false, false, false, false, false, false] rfl (by kernel_rfl) (by rfl) (fun K hK => ?_) AllReadyH.nil
          go_simp
          refine hK.out _ _ ?_ (fun hHeld => ?_)
          · exact fun _ _ h => absurd h (Nat.not_lt_zero _)
          clear hK K
          (try simp only [Act.put, putA, putB, putC])
          refine ord_take (i := 9) #[true, true, true, true, true, false, true, true, false, true, false, false, false, false, false] ?_ rfl (by kernel_rfl) (by kernel_rfl) (by kernel_rfl) (by kernel_rfl) (fun _ _ _ h => h) hHeld (by rfl) (fun wx hSx => ?_) ?_
          rotate_left
          · (unfold SB at hSx; go_simp; (try with_reducible rfl))
          (try simp only [Act.put, putA, putB, putC])
          refine wpAnyH_ready (rs := [5]) (by kernel_rfl) (by simp) ?_
          refine ord_run (i := 5) #[true, true, true, true, true, true, true, true, false, true, false, false, false, false, false] rfl (by kernel_rfl) (by rfl) (fun K hK => ?_) AllReadyH.nil
          go_simp
          go_wp2_with (go_at_call 66; refine (HF2.out _ (HR2.out.below (HB1.out.trans (by (repeat (first | (with_reducible first | exact Below.refl _ _ | assumption | refine Below.drew ?_) | ((with_reducible first | refine Below.alloc ?_ ?_ _ | refine Below.setCell ?_ ?_ _); rotate_left; (first | omega | (simp <;> omega))))))))).mono ?_; rintro r w2 ⟨B2, p2, D2, rfl, hc, hN, hb⟩; have HC2 := hide hc; clear hc; have HN2 := hide hN; clear hN; have HM2 := hide (show Below w1.heap.size w1 w2 from hb); have HP2 := hide (show w2.heap[w.heap.size]? = some (.cells X 41 (0, 0)) from blk_below hb (by first | omega | (simp <;> omega)) HP1.out); have HZ2 := hide (show w2.heap[w.heap.size + 1]? = some (.cells #[.slice none 0 0, .slice none 0 0, .slice none 0 0, .int .i64 0, .int .i64 0, .int .i64 0, .int .i64 0, .int .i64 0, .int .i64 0, .int .i64 0, .int .i64 0, .int .i64 0, .int .i64 0, .int .i64 0, .int .i64 0, .int .i64 0, .int .i64 0, .slice none 0 0, .slice none 0 0, .slice none 0 0, .slice none 0 0, .slice none 0 0] 41 (0, 0)) from blk_below hb (by first | omega | (simp <;> omega)) HZ1.out); (have q2B : Below w1.heap.size w1 w2 := (by refine Below.trans ?_ (hb.mono (by first | omega | (simp <;> omega))); (repeat (first | (with_reducible first | exact Below.refl _ _ | assumption | refine Below.drew ?_) | ((with_reducible first | refine Below.alloc ?_ ?_ _ | refine Below.setCell ?_ ?_ _); rotate_left; (first | omega | (simp <;> omega)))))); have q2z := hb.size; (try simp at q2z); have q2t : w1.heap.size ≤ w2.heap.size := (by omega); have q2s0 : w.heap.size < w2.heap.size := (by omega); have q2n0_0 : ¬ w2.heap.size = w.heap.size := (by omega); have q2n0_1 : ¬ w2.heap.size + 1 = w.heap.size := (by omega); have q2n0_2 : ¬ w2.heap.size + 2 = w.heap.size := (by omega); have q2c0_0 := hb.cell (p := ⟨w.heap.size, 0, none⟩) (by first | omega | (simp <;> omega)); simp [go_sem, *] at q2c0_0; have q2c0_2 := hb.cell (p := ⟨w.heap.size, 2, none⟩) (by first | omega | (simp <;> omega)); simp [go_sem, *] at q2c0_2; have q2c0_18 := hb.cell (p := ⟨w.heap.size, 18, none⟩) (by first | omega | (simp <;> omega)); simp [go_sem, *] at q2c0_18; have q2f0 := fun o => hb.frozen (p := ⟨w.heap.size, o, none⟩) (by first | omega | (simp <;> omega)); simp [go_sem, *] at q2f0; have q2o : ∀ b o, b < w1.heap.size → w2.cell? ⟨b, o, none⟩ = w1.cell? ⟨b, o, none⟩ := fun b o h => q2B.cell (p := ⟨b, o, none⟩) h; have hbS := hb; have hbS2 := hb; clear hb); have HB2 := hide (HB1.out.trans (q2B.mono HB1.out.size)); have t2 : w.heap.size + 2 ≤ w2.heap.size := (by omega))
          refine hK.out _ _ ?_ (fun hHeld => ?_)
          · exact fun _ _ h => absurd h (Nat.not_lt_zero _)
          clear hK K
          (try simp only [Act.put, putA, putB, putC])
          refine wpAnyH_ready (rs := [8]) (by kernel_rfl) (by simp) ?_
          refine ord_run (i := 8) (preB 10 5) rfl (by kernel_rfl) (by rfl) (fun K hK => ?_) AllReadyH.nil
          go_simp
          go_wp2_with (go_at_call 67; refine (HF18.out _ (HR18.out.below (HB2.out.trans (by (repeat (first | (with_reducible first | exact Below.refl _ _ | assumption | refine Below.drew ?_) | ((with_reducible first | refine Below.alloc ?_ ?_ _ | refine Below.setCell ?_ ?_ _); rotate_left; (first | omega | (simp <;> omega))))))))).mono ?_; rintro r w3 ⟨B18, p18, rfl, hN, hb⟩; have HN18 := hide hN; clear hN; have HM3 := hide (show Below w2.heap.size w2 w3 from hb); have HP3 := hide (show w3.heap[w.heap.size]? = some (.cells X 41 (0, 0)) from blk_below hb (by first | omega | (simp <;> omega)) HP2.out); have HZ3 := hide (show w3.heap[w.heap.size + 1]? = some (.cells #[.slice none 0 0, .slice none 0 0, .slice none 0 0, .int .i64 0, .int .i64 0, .int .i64 0, .int .i64 0, .int .i64 0, .int .i64 0, .int .i64 0, .int .i64 0, .int .i64 0, .int .i64 0, .int .i64 0, .int .i64 0, .int .i64 0, .int .i64 0, .slice none 0 0, .slice none 0 0, .slice none 0 0, .slice none 0 0, .slice none 0 0] 41 (0, 0)) from blk_below hb (by first | omega | (simp <;> omega)) HZ2.out); (have q3B : Below w2.heap.size w2 w3 := (by refine Below.trans ?_ (hb.mono (by first | omega | (simp <;> omega))); (repeat (first | (with_reducible first | exact Below.refl _ _ | assumption | refine Below.drew ?_) | ((with_reducible first | refine Below.alloc ?_ ?_ _ | refine Below.setCell ?_ ?_ _); rotate_left; (first | omega | (simp <;> omega)))))); have q3z := hb.size; (try simp at q3z); have q3t : w2.heap.size ≤ w3.heap.size := (by omega); have q3s0 : w.heap.size < w3.heap.size := (by omega); have q3n0_0 : ¬ w3.heap.size = w.heap.size := (by omega); have q3n0_1 : ¬ w3.heap.size + 1 = w.heap.size := (by omega); have q3n0_2 : ¬ w3.heap.size + 2 = w.heap.size := (by omega); have q3c0_0 := hb.cell (p := ⟨w.heap.size, 0, none⟩) (by first | omega | (simp <;> omega)); simp [go_sem, *] at q3c0_0; have q3c0_2 := hb.cell (p := ⟨w.heap.size, 2, none⟩) (by first | omega | (simp <;> omega)); simp [go_sem, *] at q3c0_2; have q3c0_18 := hb.cell (p := ⟨w.heap.size, 18, none⟩) (by first | omega | (simp <;> omega)); simp [go_sem, *] at q3c0_18; have q3f0 := fun o => hb.frozen (p := ⟨w.heap.size, o, none⟩) (by first | omega | (simp <;> omega)); simp [go_sem, *] at q3f0; have q3o : ∀ b o, b < w2.heap.size → w3.cell? ⟨b, o, none⟩ = w2.cell? ⟨b, o, none⟩ := fun b o h => q3B.cell (p := ⟨b, o, none⟩) h; have hbS := hb; have hbS3 := hb; clear hb); have HB3 := hide (HB2.out.trans (q3B.mono HB2.out.size)); have t3 : w.heap.size + 2 ≤ w3.heap.size := (by omega))
          refine hK.out _ _ ?_ (fun hHeld => ?_)
          · exact fun _ _ h => absurd h (Nat.not_lt_zero _)
          clear hK K
          (try simp only [Act.put, putA, putB, putC])
          refine wpAnyH_ready (rs := [10]) (by kernel_rfl) (by simp) ?_
          refine ord_run (i := 10) (preB 11 4) rfl (by kernel_rfl) (by rfl) (fun K hK => ?_) AllReadyH.nil
          go_simp
          refine hK.out _ _ ?_ (fun hHeld => ?_)
          · exact fun _ _ h => absurd h (Nat.not_lt_zero _)
          clear hK K
          (try simp only [Act.put, putA, putB, putC])
          refine ord_take (i := 11) (preB 12 3) ?_ rfl (by kernel_rfl) (by kernel_rfl) (by kernel_rfl) (by kernel_rfl) (fun _ _ _ h => h) hHeld (by rfl) (fun wx hSx => ?_) ?_
          rotate_left
          · (unfold SB at hSx; go_simp; (try with_reducible rfl))
          (try simp only [Act.put, putA, putB, putC])
          refine wpAnyH_ready (rs := [12]) (by kernel_rfl) (by simp) ?_
          refine ord_run (i := 12) (preB 13 2) rfl (by kernel_rfl) (by rfl) (fun K hK => ?_) AllReadyH.nil
          go_simp
          refine hK.out _ _ ?_ (fun hHeld => ?_)
          · exact fun _ _ h => absurd h (Nat.not_lt_zero _)
          clear hK K
          (try simp only [Act.put, putA, putB, putC])
          refine ord_take (i := 13) (preB 14 1) ?_ rfl (by kernel_rfl) (by kernel_rfl) (by kernel_rfl) (by kernel_rfl) (fun _ _ _ h => h) hHeld (by rfl) (fun wx hSx => ?_) ?_
          rotate_left
          · (unfold SB at hSx; go_simp; (try with_reducible rfl))
          (try simp only [Act.put, putA, putB, putC])
          refine wpAnyH_ready (rs := [14]) (by kernel_rfl) (by simp) ?_
          refine ord_run (i := 14) (preB 15 0) rfl (by kernel_rfl) (by rfl) (fun K hK => ?_) AllReadyH.nil
          go_simp
          refine hK.out _ _ ?_ (fun hHeld => ?_)
          · exact fun _ _ h => absurd h (Nat.not_lt_zero _)
          clear hK K
          (try simp only [Act.put, putA, putB, putC])
          refine wpAnyH_done (by kernel_rfl) ?_ _
          go_wp2_with fail
          go_meet
          have hv : ∀ q, (Value.slice B18 n18 p18).ownBlock = some q → w2.heap.size ≤ q := fun q hq => by have h3 := own_ge HN18.out q hq; (try simp at h3); omega
          have r0 : RowT (Av (w.heap.size + 2) (.slice B18 n18 p18) w3) w3 1 B0 n0 c0 D0 := av_old (HN0.out.mono (S' := New (w.heap.size + 2) w2) (fun b h => ⟨by have h3 := h.1; (try simp at h3); omega, Nat.lt_of_lt_of_le h.2 HM2.out.size⟩) (fun b h => HM2.out.block b h.2)) (Nat.le_refl _) HM3.out hv
          have r2 : RowT (Av (w.heap.size + 2) (.slice B18 n18 p18) w3) w3 3 B2 n2 c2 D2 := av_old (HN2.out.mono (S' := New (w.heap.size + 2) w2) (fun b h => ⟨by have h3 := h.1; (try simp at h3); omega, h.2⟩) (fun _ _ => rfl)) (Nat.le_refl _) HM3.out hv
          have ro : w3.ownsRow (w.heap.size + 2) 44 7 (.slice B18 n18 p18) n18 (rowA (elA 9 C18) n18) := own_low HN18.out (by first | omega | (simp <;> omega))
          exact ⟨B0, p0, D0, B2, p2, D2, B18, p18, blk_setCell (blk_setCell (blk_setCell (HP3.out))), blk_setOther (by simp) (blk_setOther (by simp) (blk_setOther (by simp) (HZ3.out))), ⟨av_keep r0 (by simp) (fun b h1 h2 => by refine (Go.Deep.blk_setCell_other _ _ _ _ (by simp; omega)).trans ?_; refine (Go.Deep.blk_setCell_other _ _ _ _ (by simp; omega)).trans ?_; refine (Go.Deep.blk_setCell_other _ _ _ _ (by simp; omega)).trans ?_; (with_reducible exact rfl)), HC0.out⟩, ⟨av_keep r2 (by simp) (fun b h1 h2 => by refine (Go.Deep.blk_setCell_other _ _ _ _ (by simp; omega)).trans ?_; refine (Go.Deep.blk_setCell_other _ _ _ _ (by simp; omega)).trans ?_; refine (Go.Deep.blk_setCell_other _ _ _ _ (by simp; omega)).trans ?_; (with_reducible exact rfl)), HC2.out⟩, own_keepB ro (fun b h1 h2 => by refine (Go.Deep.blk_setCell_other _ _ _ _ (by simp; omega)).trans ?_; refine (Go.Deep.blk_setCell_other _ _ _ _ (by simp; omega)).trans ?_; refine (Go.Deep.blk_setCell_other _ _ _ _ (by simp; omega)).trans ?_; (with_reducible exact rfl)), HB3.out.trans (by (repeat (first | (with_reducible first | exact Below.refl _ _ | assumption | refine Below.drew ?_) | ((with_reducible first | refine Below.alloc ?_ ?_ _ | refine Below.setCell ?_ ?_ _); rotate_left; (first | omega | (simp <;> omega)))))), (by simp; omega)⟩
        refine ord_run (i := 4) #[true, true, false, true, true, false, true, true, false, false, false, false, false, false, false] rfl (by kernel_rfl) (by rfl) (fun K hK => ?_) ?_
        · go_simp
          refine hK.out _ _ ?_ (fun hHeld => ?_)
          · exact fun _ _ h => absurd h (Nat.not_lt_zero _)
          clear hK K
          (try simp only [Act.put, putA, putB, putC])
          refine wpAnyH_ready (rs := [2]) (by kernel_rfl) (by simp) ?_
          refine ord_run (i := 2) #[true, true, true, true, true, false, true, true, false, false, false, false, false, false, false] rfl (by kernel_rfl) (by rfl) (fun K hK => ?_) AllReadyH.nil
          go_simp
          go_wp2_with (go_at_call 65; refine (HF0.out _ (HR0.out.below (by (repeat (first | (with_reducible first | exact Below.refl _ _ | assumption | refine Below.drew ?_) | ((with_reducible first | refine Below.alloc ?_ ?_ _ | refine Below.setCell ?_ ?_ _); rotate_left; (first | omega | (simp <;> omega)))))))).mono ?_; rintro r w1 ⟨B0, p0, D0, rfl, hc, hN, hb⟩; have HC0 := hide hc; clear hc; have HN0 := hide hN; clear hN; have HP1 := hide (show w1.heap[w.heap.size]? = some (.cells X 41 (0, 0)) from blk_below hb (by first | omega | (simp <;> omega)) (by repeat (first | (exact blk_new (by simp)) | (with_reducible refine blk_drew ?_) | (with_reducible refine blk_under ?_)))); have HZ1 := hide (show w1.heap[w.heap.size + 1]? = some (.cells #[.slice none 0 0, .slice none 0 0, .slice none 0 0, .int .i64 0, .int .i64 0, .int .i64 0, .int .i64 0, .int .i64 0, .int .i64 0, .int .i64 0, .int .i64 0, .int .i64 0, .int .i64 0, .int .i64 0, .int .i64 0, .int .i64 0, .int .i64 0, .slice none 0 0, .slice none 0 0, .slice none 0 0, .slice none 0 0, .slice none 0 0] 41 (0, 0)) from blk_below hb (by first | omega | (simp <;> omega)) (by first | exact blk_new (by simp) | exact blk_drew (blk_new (by simp)))); (have q1B : Below w.heap.size w w1 := (by refine Below.trans ?_ (hb.mono (by first | omega | (simp <;> omega))); (repeat (first | (with_reducible first | exact Below.refl _ _ | assumption | refine Below.drew ?_) | ((with_reducible first | refine Below.alloc ?_ ?_ _ | refine Below.setCell ?_ ?_ _); rotate_left; (first | omega | (simp <;> omega)))))); have q1z := hb.size; (try simp at q1z); have q1t : w.heap.size ≤ w1.heap.size := (by omega); have q1s0 : w.heap.size < w1.heap.size := (by omega); have q1n0_0 : ¬ w1.heap.size = w.heap.size := (by omega); have q1n0_1 : ¬ w1.heap.size + 1 = w.heap.size := (by omega); have q1n0_2 : ¬ w1.heap.size + 2 = w.heap.size := (by omega); have q1c0_0 := hb.cell (p := ⟨w.heap.size, 0, none⟩) (by first | omega | (simp <;> omega)); simp [go_sem, *] at q1c0_0; have q1c0_2 := hb.cell (p := ⟨w.heap.size, 2, none⟩) (by first | omega | (simp <;> omega)); simp [go_sem, *] at q1c0_2; have q1c0_18 := hb.cell (p := ⟨w.heap.size, 18, none⟩) (by first | omega | (simp <;> omega)); simp [go_sem, *] at q1c0_18; have q1f0 := fun o => hb.frozen (p := ⟨w.heap.size, o, none⟩) (by first | omega | (simp <;> omega)); simp [go_sem, *] at q1f0; have q1o : ∀ b o, b < w.heap.size → w1.cell? ⟨b, o, none⟩ = w.cell? ⟨b, o, none⟩ := fun b o h => q1B.cell (p := ⟨b, o, none⟩) h; have hbS := hb; have hbS1 := hb; clear hb); have HB1 := hide q1B; have t1 : w.heap.size + 2 ≤ w1.heap.size := (by omega))
          refine hK.out _ _ ?_ (fun hHeld => ?_)
          · exact fun _ _ h => absurd h (Nat.not_lt_zero _)
          clear hK K
          (try simp only [Act.put, putA, putB, putC])
          refine ord_take (i := 9) #[true, true, true, true, true, false, true, true, false, true, false, false, false, false, false] ?_ rfl (by kernel_rfl) (by kernel_rfl) (by kernel_rfl) (by kernel_rfl) (fun _ _ _ h => h) hHeld (by rfl) (fun wx hSx => ?_) ?_
          rotate_left
          · (unfold SB at hSx; go_simp; (try with_reducible rfl))
          (try simp only [Act.put, putA, putB, putC])
          refine wpAnyH_ready (rs := [5]) (by kernel_rfl) (by simp) ?_
          refine ord_run (i := 5) #[true, true, true, true, true, true, true, true, false, true, false, false, false, false, false] rfl (by kernel_rfl) (by rfl) (fun K hK => ?_) AllReadyH.nil
          go_simp
          go_wp2_with (go_at_call 66; refine (HF2.out _ (HR2.out.below (HB1.out.trans (by (repeat (first | (with_reducible first | exact Below.refl _ _ | assumption | refine Below.drew ?_) | ((with_reducible first | refine Below.alloc ?_ ?_ _ | refine Below.setCell ?_ ?_ _); rotate_left; (first | omega | (simp <;> omega))))))))).mono ?_; rintro r w2 ⟨B2, p2, D2, rfl, hc, hN, hb⟩; have HC2 := hide hc; clear hc; have HN2 := hide hN; clear hN; have HM2 := hide (show Below w1.heap.size w1 w2 from hb); have HP2 := hide (show w2.heap[w.heap.size]? = some (.cells X 41 (0, 0)) from blk_below hb (by first | omega | (simp <;> omega)) HP1.out); have HZ2 := hide (show w2.heap[w.heap.size + 1]? = some (.cells #[.slice none 0 0, .slice none 0 0, .slice none 0 0, .int .i64 0, .int .i64 0, .int .i64 0, .int .i64 0, .int .i64 0, .int .i64 0, .int .i64 0, .int .i64 0, .int .i64 0, .int .i64 0, .int .i64 0, .int .i64 0, .int .i64 0, .int .i64 0, .slice none 0 0, .slice none 0 0, .slice none 0 0, .slice none 0 0, .slice none 0 0] 41 (0, 0)) from blk_below hb (by first | omega | (simp <;> omega)) HZ1.out); (have q2B : Below w1.heap.size w1 w2 := (by refine Below.trans ?_ (hb.mono (by first | omega | (simp <;> omega))); (repeat (first | (with_reducible first | exact Below.refl _ _ | assumption | refine Below.drew ?_) | ((with_reducible first | refine Below.alloc ?_ ?_ _ | refine Below.setCell ?_ ?_ _); rotate_left; (first | omega | (simp <;> omega)))))); have q2z := hb.size; (try simp at q2z); have q2t : w1.heap.size ≤ w2.heap.size := (by omega); have q2s0 : w.heap.size < w2.heap.size := (by omega); have q2n0_0 : ¬ w2.heap.size = w.heap.size := (by omega); have q2n0_1 : ¬ w2.heap.size + 1 = w.heap.size := (by omega); have q2n0_2 : ¬ w2.heap.size + 2 = w.heap.size := (by omega); have q2c0_0 := hb.cell (p := ⟨w.heap.size, 0, none⟩) (by first | omega | (simp <;> omega)); simp [go_sem, *] at q2c0_0; have q2c0_2 := hb.cell (p := ⟨w.heap.size, 2, none⟩) (by first | omega | (simp <;> omega)); simp [go_sem, *] at q2c0_2; have q2c0_18 := hb.cell (p := ⟨w.heap.size, 18, none⟩) (by first | omega | (simp <;> omega)); simp [go_sem, *] at q2c0_18; have q2f0 := fun o => hb.frozen (p := ⟨w.heap.size, o, none⟩) (by first | omega | (simp <;> omega)); simp [go_sem, *] at q2f0; have q2o : ∀ b o, b < w1.heap.size → w2.cell? ⟨b, o, none⟩ = w1.cell? ⟨b, o, none⟩ := fun b o h => q2B.cell (p := ⟨b, o, none⟩) h; have hbS := hb; have hbS2 := hb; clear hb); have HB2 := hide (HB1.out.trans (q2B.mono HB1.out.size)); have t2 : w.heap.size + 2 ≤ w2.heap.size := (by omega))
          refine hK.out _ _ ?_ (fun hHeld => ?_)
          · exact fun _ _ h => absurd h (Nat.not_lt_zero _)
          clear hK K
          (try simp only [Act.put, putA, putB, putC])
          refine wpAnyH_ready (rs := [8]) (by kernel_rfl) (by simp) ?_
          refine ord_run (i := 8) (preB 10 5) rfl (by kernel_rfl) (by rfl) (fun K hK => ?_) AllReadyH.nil
          go_simp
          go_wp2_with (go_at_call 67; refine (HF18.out _ (HR18.out.below (HB2.out.trans (by (repeat (first | (with_reducible first | exact Below.refl _ _ | assumption | refine Below.drew ?_) | ((with_reducible first | refine Below.alloc ?_ ?_ _ | refine Below.setCell ?_ ?_ _); rotate_left; (first | omega | (simp <;> omega))))))))).mono ?_; rintro r w3 ⟨B18, p18, rfl, hN, hb⟩; have HN18 := hide hN; clear hN; have HM3 := hide (show Below w2.heap.size w2 w3 from hb); have HP3 := hide (show w3.heap[w.heap.size]? = some (.cells X 41 (0, 0)) from blk_below hb (by first | omega | (simp <;> omega)) HP2.out); have HZ3 := hide (show w3.heap[w.heap.size + 1]? = some (.cells #[.slice none 0 0, .slice none 0 0, .slice none 0 0, .int .i64 0, .int .i64 0, .int .i64 0, .int .i64 0, .int .i64 0, .int .i64 0, .int .i64 0, .int .i64 0, .int .i64 0, .int .i64 0, .int .i64 0, .int .i64 0, .int .i64 0, .int .i64 0, .slice none 0 0, .slice none 0 0, .slice none 0 0, .slice none 0 0, .slice none 0 0] 41 (0, 0)) from blk_below hb (by first | omega | (simp <;> omega)) HZ2.out); (have q3B : Below w2.heap.size w2 w3 := (by refine Below.trans ?_ (hb.mono (by first | omega | (simp <;> omega))); (repeat (first | (with_reducible first | exact Below.refl _ _ | assumption | refine Below.drew ?_) | ((with_reducible first | refine Below.alloc ?_ ?_ _ | refine Below.setCell ?_ ?_ _); rotate_left; (first | omega | (simp <;> omega)))))); have q3z := hb.size; (try simp at q3z); have q3t : w2.heap.size ≤ w3.heap.size := (by omega); have q3s0 : w.heap.size < w3.heap.size := (by omega); have q3n0_0 : ¬ w3.heap.size = w.heap.size := (by omega); have q3n0_1 : ¬ w3.heap.size + 1 = w.heap.size := (by omega); have q3n0_2 : ¬ w3.heap.size + 2 = w.heap.size := (by omega); have q3c0_0 := hb.cell (p := ⟨w.heap.size, 0, none⟩) (by first | omega | (simp <;> omega)); simp [go_sem, *] at q3c0_0; have q3c0_2 := hb.cell (p := ⟨w.heap.size, 2, none⟩) (by first | omega | (simp <;> omega)); simp [go_sem, *] at q3c0_2; have q3c0_18 := hb.cell (p := ⟨w.heap.size, 18, none⟩) (by first | omega | (simp <;> omega)); simp [go_sem, *] at q3c0_18; have q3f0 := fun o => hb.frozen (p := ⟨w.heap.size, o, none⟩) (by first | omega | (simp <;> omega)); simp [go_sem, *] at q3f0; have q3o : ∀ b o, b < w2.heap.size → w3.cell? ⟨b, o, none⟩ = w2.cell? ⟨b, o, none⟩ := fun b o h => q3B.cell (p := ⟨b, o, none⟩) h; have hbS := hb; have hbS3 := hb; clear hb); have HB3 := hide (HB2.out.trans (q3B.mono HB2.out.size)); have t3 : w.heap.size + 2 ≤ w3.heap.size := (by omega))
          refine hK.out _ _ ?_ (fun hHeld => ?_)
          · exact fun _ _ h => absurd h (Nat.not_lt_zero _)
          clear hK K
          (try simp only [Act.put, putA, putB, putC])
          refine wpAnyH_ready (rs := [10]) (by kernel_rfl) (by simp) ?_
          refine ord_run (i := 10) (preB 11 4) rfl (by kernel_rfl) (by rfl) (fun K hK => ?_) AllReadyH.nil
          go_simp
          refine hK.out _ _ ?_ (fun hHeld => ?_)
          · exact fun _ _ h => absurd h (Nat.not_lt_zero _)
          clear hK K
          (try simp only [Act.put, putA, putB, putC])
          refine ord_take (i := 11) (preB 12 3) ?_ rfl (by kernel_rfl) (by kernel_rfl) (by kernel_rfl) (by kernel_rfl) (fun _ _ _ h => h) hHeld (by rfl) (fun wx hSx => ?_) ?_
          rotate_left
          · (unfold SB at hSx; go_simp; (try with_reducible rfl))
          (try simp only [Act.put, putA, putB, putC])
          refine wpAnyH_ready (rs := [12]) (by kernel_rfl) (by simp) ?_
          refine ord_run (i := 12) (preB 13 2) rfl (by kernel_rfl) (by rfl) (fun K hK => ?_) AllReadyH.nil
          go_simp
          refine hK.out _ _ ?_ (fun hHeld => ?_)
          · exact fun _ _ h => absurd h (Nat.not_lt_zero _)
          clear hK K
          (try simp only [Act.put, putA, putB, putC])
          refine ord_take (i := 13) (preB 14 1) ?_ rfl (by kernel_rfl) (by kernel_rfl) (by kernel_rfl) (by kernel_rfl) (fun _ _ _ h => h) hHeld (by rfl) (fun wx hSx => ?_) ?_
          rotate_left
          · (unfold SB at hSx; go_simp; (try with_reducible rfl))
          (try simp only [Act.put, putA, putB, putC])
          refine wpAnyH_ready (rs := [14]) (by kernel_rfl) (by simp) ?_
          refine ord_run (i := 14) (preB 15 0) rfl (by kernel_rfl) (by rfl) (fun K hK => ?_) AllReadyH.nil
          go_simp
          refine hK.out _ _ ?_ (fun hHeld => ?_)
          · exact fun _ _ h => absurd h (Nat.not_lt_zero _)
          clear hK K
          (try simp only [Act.put, putA, putB, putC])
          refine wpAnyH_done (by kernel_rfl) ?_ _
          go_wp2_with fail
          go_meet
          have hv : ∀ q, (Value.slice B18 n18 p18).ownBlock = some q → w2.heap.size ≤ q := fun q hq => by have h3 := own_ge HN18.out q hq; (try simp at h3); omega
          have r0 : RowT (Av (w.heap.size + 2) (.slice B18 n18 p18) w3) w3 1 B0 n0 c0 D0 := av_old (HN0.out.mono (S' := New (w.heap.size + 2) w2) (fun b h => ⟨by have h3 := h.1; (try simp at h3); omega, Nat.lt_of_lt_of_le h.2 HM2.out.size⟩) (fun b h => HM2.out.block b h.2)) (Nat.le_refl _) HM3.out hv
          have r2 : RowT (Av (w.heap.size + 2) (.slice B18 n18 p18) w3) w3 3 B2 n2 c2 D2 := av_old (HN2.out.mono (S' := New (w.heap.size + 2) w2) (fun b h => ⟨by have h3 := h.1; (try simp at h3); omega, h.2⟩) (fun _ _ => rfl)) (Nat.le_refl _) HM3.out hv
          have ro : w3.ownsRow (w.heap.size + 2) 44 7 (.slice B18 n18 p18) n18 (rowA (elA 9 C18) n18) := own_low HN18.out (by first | omega | (simp <;> omega))
          exact ⟨B0, p0, D0, B2, p2, D2, B18, p18, blk_setCell (blk_setCell (blk_setCell (HP3.out))), blk_setOther (by simp) (blk_setOther (by simp) (blk_setOther (by simp) (HZ3.out))), ⟨av_keep r0 (by simp) (fun b h1 h2 => by refine (Go.Deep.blk_setCell_other _ _ _ _ (by simp; omega)).trans ?_; refine (Go.Deep.blk_setCell_other _ _ _ _ (by simp; omega)).trans ?_; refine (Go.Deep.blk_setCell_other _ _ _ _ (by simp; omega)).trans ?_; (with_reducible exact rfl)), HC0.out⟩, ⟨av_keep r2 (by simp) (fun b h1 h2 => by refine (Go.Deep.blk_setCell_other _ _ _ _ (by simp; omega)).trans ?_; refine (Go.Deep.blk_setCell_other _ _ _ _ (by simp; omega)).trans ?_; refine (Go.Deep.blk_setCell_other _ _ _ _ (by simp; omega)).trans ?_; (with_reducible exact rfl)), HC2.out⟩, own_keepB ro (fun b h1 h2 => by refine (Go.Deep.blk_setCell_other _ _ _ _ (by simp; omega)).trans ?_; refine (Go.Deep.blk_setCell_other _ _ _ _ (by simp; omega)).trans ?_; refine (Go.Deep.blk_setCell_other _ _ _ _ (by simp; omega)).trans ?_; (with_reducible exact rfl)), HB3.out.trans (by (repeat (first | (with_reducible first | exact Below.refl _ _ | assumption | refine Below.drew ?_) | ((with_reducible first | refine Below.alloc ?_ ?_ _ | refine Below.setCell ?_ ?_ _); rotate_left; (first | omega | (simp <;> omega)))))), (by simp; omega)⟩
        exact AllReadyH.nil
      refine ord_run (i := 4) #[true, false, false, true, true, false, true, true, false, false, false, false, false, false, false] rfl (by kernel_rfl) (by rfl) (fun K hK => ?_) ?_
      · go_simp
        refine hK.out _ _ ?_ (fun hHeld => ?_)
        · exact fun _ _ h => absurd h (Nat.not_lt_zero _)
        clear hK K
        (try simp only [Act.put, putA, putB, putC])
        refine wpAnyH_ready (rs := [1]) (by kernel_rfl) (by simp) ?_
        refine ord_run (i := 1) #[true, true, false, true, true, false, true, true, false, false, false, false, false, false, false] rfl (by kernel_rfl) (by rfl) (fun K hK => ?_) AllReadyH.nil
        go_simp
        refine hK.out _ _ ?_ (fun hHeld => ?_)
        · exact fun _ _ h => absurd h (Nat.not_lt_zero _)
        clear hK K
        (try simp only [Act.put, putA, putB, putC])
        refine wpAnyH_ready (rs := [2]) (by kernel_rfl) (by simp) ?_
        refine ord_run (i := 2) #[true, true, true, true, true, false, true, true, false, false, false, false, false, false, false] rfl (by kernel_rfl) (by rfl) (fun K hK => ?_) AllReadyH.nil
        go_simp
        go_wp2_with (go_at_call 65; refine (HF0.out _ (HR0.out.below (by (repeat (first | (with_reducible first | exact Below.refl _ _ | assumption | refine Below.drew ?_) | ((with_reducible first | refine Below.alloc ?_ ?_ _ | refine Below.setCell ?_ ?_ _); rotate_left; (first | omega | (simp <;> omega)))))))).mono ?_; rintro r w1 ⟨B0, p0, D0, rfl, hc, hN, hb⟩; have HC0 := hide hc; clear hc; have HN0 := hide hN; clear hN; have HP1 := hide (show w1.heap[w.heap.size]? = some (.cells X 41 (0, 0)) from blk_below hb (by first | omega | (simp <;> omega)) (by repeat (first | (exact blk_new (by simp)) | (with_reducible refine blk_drew ?_) | (with_reducible refine blk_under ?_)))); have HZ1 := hide (show w1.heap[w.heap.size + 1]? = some (.cells #[.slice none 0 0, .slice none 0 0, .slice none 0 0, .int .i64 0, .int .i64 0, .int .i64 0, .int .i64 0, .int .i64 0, .int .i64 0, .int .i64 0, .int .i64 0, .int .i64 0, .int .i64 0, .int .i64 0, .int .i64 0, .int .i64 0, .int .i64 0, .slice none 0 0, .slice none 0 0, .slice none 0 0, .slice none 0 0, .slice none 0 0] 41 (0, 0)) from blk_below hb (by first | omega | (simp <;> omega)) (by first | exact blk_new (by simp) | exact blk_drew (blk_new (by simp)))); (have q1B : Below w.heap.size w w1 := (by refine Below.trans ?_ (hb.mono (by first | omega | (simp <;> omega))); (repeat (first | (with_reducible first | exact Below.refl _ _ | assumption | refine Below.drew ?_) | ((with_reducible first | refine Below.alloc ?_ ?_ _ | refine Below.setCell ?_ ?_ _); rotate_left; (first | omega | (simp <;> omega)))))); have q1z := hb.size; (try simp at q1z); have q1t : w.heap.size ≤ w1.heap.size := (by omega); have q1s0 : w.heap.size < w1.heap.size := (by omega); have q1n0_0 : ¬ w1.heap.size = w.heap.size := (by omega); have q1n0_1 : ¬ w1.heap.size + 1 = w.heap.size := (by omega); have q1n0_2 : ¬ w1.heap.size + 2 = w.heap.size := (by omega); have q1c0_0 := hb.cell (p := ⟨w.heap.size, 0, none⟩) (by first | omega | (simp <;> omega)); simp [go_sem, *] at q1c0_0; have q1c0_2 := hb.cell (p := ⟨w.heap.size, 2, none⟩) (by first | omega | (simp <;> omega)); simp [go_sem, *] at q1c0_2; have q1c0_18 := hb.cell (p := ⟨w.heap.size, 18, none⟩) (by first | omega | (simp <;> omega)); simp [go_sem, *] at q1c0_18; have q1f0 := fun o => hb.frozen (p := ⟨w.heap.size, o, none⟩) (by first | omega | (simp <;> omega)); simp [go_sem, *] at q1f0; have q1o : ∀ b o, b < w.heap.size → w1.cell? ⟨b, o, none⟩ = w.cell? ⟨b, o, none⟩ := fun b o h => q1B.cell (p := ⟨b, o, none⟩) h; have hbS := hb; have hbS1 := hb; clear hb); have HB1 := hide q1B; have t1 : w.heap.size + 2 ≤ w1.heap.size := (by omega))
        refine hK.out _ _ ?_ (fun hHeld => ?_)
        · exact fun _ _ h => absurd h (Nat.not_lt_zero _)
        clear hK K
        (try simp only [Act.put, putA, putB, putC])
        refine ord_take (i := 9) #[true, true, true, true, true, false, true, true, false, true, false, false, false, false, false] ?_ rfl (by kernel_rfl) (by kernel_rfl) (by kernel_rfl) (by kernel_rfl) (fun _ _ _ h => h) hHeld (by rfl) (fun wx hSx => ?_) ?_
        rotate_left
        · (unfold SB at hSx; go_simp; (try with_reducible rfl))
        (try simp only [Act.put, putA, putB, putC])
        refine wpAnyH_ready (rs := [5]) (by kernel_rfl) (by simp) ?_
        refine ord_run (i := 5) #[true, true, true, true, true, true, true, true, false, true, false, false, false, false, false] rfl (by kernel_rfl) (by rfl) (fun K hK => ?_) AllReadyH.nil
        go_simp
        go_wp2_with (go_at_call 66; refine (HF2.out _ (HR2.out.below (HB1.out.trans (by (repeat (first | (with_reducible first | exact Below.refl _ _ | assumption | refine Below.drew ?_) | ((with_reducible first | refine Below.alloc ?_ ?_ _ | refine Below.setCell ?_ ?_ _); rotate_left; (first | omega | (simp <;> omega))))))))).mono ?_; rintro r w2 ⟨B2, p2, D2, rfl, hc, hN, hb⟩; have HC2 := hide hc; clear hc; have HN2 := hide hN; clear hN; have HM2 := hide (show Below w1.heap.size w1 w2 from hb); have HP2 := hide (show w2.heap[w.heap.size]? = some (.cells X 41 (0, 0)) from blk_below hb (by first | omega | (simp <;> omega)) HP1.out); have HZ2 := hide (show w2.heap[w.heap.size + 1]? = some (.cells #[.slice none 0 0, .slice none 0 0, .slice none 0 0, .int .i64 0, .int .i64 0, .int .i64 0, .int .i64 0, .int .i64 0, .int .i64 0, .int .i64 0, .int .i64 0, .int .i64 0, .int .i64 0, .int .i64 0, .int .i64 0, .int .i64 0, .int .i64 0, .slice none 0 0, .slice none 0 0, .slice none 0 0, .slice none 0 0, .slice none 0 0] 41 (0, 0)) from blk_below hb (by first | omega | (simp <;> omega)) HZ1.out); (have q2B : Below w1.heap.size w1 w2 := (by refine Below.trans ?_ (hb.mono (by first | omega | (simp <;> omega))); (repeat (first | (with_reducible first | exact Below.refl _ _ | assumption | refine Below.drew ?_) | ((with_reducible first | refine Below.alloc ?_ ?_ _ | refine Below.setCell ?_ ?_ _); rotate_left; (first | omega | (simp <;> omega)))))); have q2z := hb.size; (try simp at q2z); have q2t : w1.heap.size ≤ w2.heap.size := (by omega); have q2s0 : w.heap.size < w2.heap.size := (by omega); have q2n0_0 : ¬ w2.heap.size = w.heap.size := (by omega); have q2n0_1 : ¬ w2.heap.size + 1 = w.heap.size := (by omega); have q2n0_2 : ¬ w2.heap.size + 2 = w.heap.size := (by omega); have q2c0_0 := hb.cell (p := ⟨w.heap.size, 0, none⟩) (by first | omega | (simp <;> omega)); simp [go_sem, *] at q2c0_0; have q2c0_2 := hb.cell (p := ⟨w.heap.size, 2, none⟩) (by first | omega | (simp <;> omega)); simp [go_sem, *] at q2c0_2; have q2c0_18 := hb.cell (p := ⟨w.heap.size, 18, none⟩) (by first | omega | (simp <;> omega)); simp [go_sem, *] at q2c0_18; have q2f0 := fun o => hb.frozen (p := ⟨w.heap.size, o, none⟩) (by first | omega | (simp <;> omega)); simp [go_sem, *] at q2f0; have q2o : ∀ b o, b < w1.heap.size → w2.cell? ⟨b, o, none⟩ = w1.cell? ⟨b, o, none⟩ := fun b o h => q2B.cell (p := ⟨b, o, none⟩) h; have hbS := hb; have hbS2 := hb; clear hb); have HB2 := hide (HB1.out.trans (q2B.mono HB1.out.size)); have t2 : w.heap.size + 2 ≤ w2.heap.size := (by omega))
        refine hK.out _ _ ?_ (fun hHeld => ?_)
        · exact fun _ _ h => absurd h (Nat.not_lt_zero _)
        clear hK K
        (try simp only [Act.put, putA, putB, putC])
        refine wpAnyH_ready (rs := [8]) (by kernel_rfl) (by simp) ?_
        refine ord_run (i := 8) (preB 10 5) rfl (by kernel_rfl) (by rfl) (fun K hK => ?_) AllReadyH.nil
        go_simp
        go_wp2_with (go_at_call 67; refine (HF18.out _ (HR18.out.below (HB2.out.trans (by (repeat (first | (with_reducible first | exact Below.refl _ _ | assumption | refine Below.drew ?_) | ((with_reducible first | refine Below.alloc ?_ ?_ _ | refine Below.setCell ?_ ?_ _); rotate_left; (first | omega | (simp <;> omega))))))))).mono ?_; rintro r w3 ⟨B18, p18, rfl, hN, hb⟩; have HN18 := hide hN; clear hN; have HM3 := hide (show Below w2.heap.size w2 w3 from hb); have HP3 := hide (show w3.heap[w.heap.size]? = some (.cells X 41 (0, 0)) from blk_below hb (by first | omega | (simp <;> omega)) HP2.out); have HZ3 := hide (show w3.heap[w.heap.size + 1]? = some (.cells #[.slice none 0 0, .slice none 0 0, .slice none 0 0, .int .i64 0, .int .i64 0, .int .i64 0, .int .i64 0, .int .i64 0, .int .i64 0, .int .i64 0, .int .i64 0, .int .i64 0, .int .i64 0, .int .i64 0, .int .i64 0, .int .i64 0, .int .i64 0, .slice none 0 0, .slice none 0 0, .slice none 0 0, .slice none 0 0, .slice none 0 0] 41 (0, 0)) from blk_below hb (by first | omega | (simp <;> omega)) HZ2.out); (have q3B : Below w2.heap.size w2 w3 := (by refine Below.trans ?_ (hb.mono (by first | omega | (simp <;> omega))); (repeat (first | (with_reducible first | exact Below.refl _ _ | assumption | refine Below.drew ?_) | ((with_reducible first | refine Below.alloc ?_ ?_ _ | refine Below.setCell ?_ ?_ _); rotate_left; (first | omega | (simp <;> omega)))))); have q3z := hb.size; (try simp at q3z); have q3t : w2.heap.size ≤ w3.heap.size := (by omega); have q3s0 : w.heap.size < w3.heap.size := (by omega); have q3n0_0 : ¬ w3.heap.size = w.heap.size := (by omega); have q3n0_1 : ¬ w3.heap.size + 1 = w.heap.size := (by omega); have q3n0_2 : ¬ w3.heap.size + 2 = w.heap.size := (by omega); have q3c0_0 := hb.cell (p := ⟨w.heap.size, 0, none⟩) (by first | omega | (simp <;> omega)); simp [go_sem, *] at q3c0_0; have q3c0_2 := hb.cell (p := ⟨w.heap.size, 2, none⟩) (by first | omega | (simp <;> omega)); simp [go_sem, *] at q3c0_2; have q3c0_18 := hb.cell (p := ⟨w.heap.size, 18, none⟩) (by first | omega | (simp <;> omega)); simp [go_sem, *] at q3c0_18; have q3f0 := fun o => hb.frozen (p := ⟨w.heap.size, o, none⟩) (by first | omega | (simp <;> omega)); simp [go_sem, *] at q3f0; have q3o : ∀ b o, b < w2.heap.size → w3.cell? ⟨b, o, none⟩ = w2.cell? ⟨b, o, none⟩ := fun b o h => q3B.cell (p := ⟨b, o, none⟩) h; have hbS := hb; have hbS3 := hb; clear hb); have HB3 := hide (HB2.out.trans (q3B.mono HB2.out.size)); have t3 : w.heap.size + 2 ≤ w3.heap.size := (by omega))
        refine hK.out _ _ ?_ (fun hHeld => ?_)
        · exact fun _ _ h => absurd h (Nat.not_lt_zero _)
        clear hK K
        (try simp only [Act.put, putA, putB, putC])
        refine wpAnyH_ready (rs := [10]) (by kernel_rfl) (by simp) ?_
        refine ord_run (i := 10) (preB 11 4) rfl (by kernel_rfl) (by rfl) (fun K hK => ?_) AllReadyH.nil
        go_simp
        refine hK.out _ _ ?_ (fun hHeld => ?_)
        · exact fun _ _ h => absurd h (Nat.not_lt_zero _)
        clear hK K
        (try simp only [Act.put, putA, putB, putC])
        refine ord_take (i := 11) (preB 12 3) ?_ rfl (by kernel_rfl) (by kernel_rfl) (by kernel_rfl) (by kernel_rfl) (fun _ _ _ h => h) hHeld (by rfl) (fun wx hSx => ?_) ?_
        rotate_left
        · (unfold SB at hSx; go_simp; (try with_reducible rfl))
        (try simp only [Act.put, putA, putB, putC])
        refine wpAnyH_ready (rs := [12]) (by kernel_rfl) (by simp) ?_
        refine ord_run (i := 12) (preB 13 2) rfl (by kernel_rfl) (by rfl) (fun K hK => ?_) AllReadyH.nil
        go_simp
        refine hK.out _ _ ?_ (fun hHeld => ?_)
        · exact fun _ _ h => absurd h (Nat.not_lt_zero _)
        clear hK K
        (try simp only [Act.put, putA, putB, putC])
        refine ord_take (i := 13) (preB 14 1) ?_ rfl (by kernel_rfl) (by kernel_rfl) (by kernel_rfl) (by kernel_rfl) (fun _ _ _ h => h) hHeld (by rfl) (fun wx hSx => ?_) ?_
        rotate_left
        · (unfold SB at hSx; go_simp; (try with_reducible rfl))
        (try simp only [Act.put, putA, putB, putC])
        refine wpAnyH_ready (rs := [14]) (by kernel_rfl) (by simp) ?_
        refine ord_run (i := 14) (preB 15 0) rfl (by kernel_rfl) (by rfl) (fun K hK => ?_) AllReadyH.nil
        go_simp
        refine hK.out _ _ ?_ (fun hHeld => ?_)
        · exact fun _ _ h => absurd h (Nat.not_lt_zero _)
        clear hK K
        (try simp only [Act.put, putA, putB, putC])
        refine wpAnyH_done (by kernel_rfl) ?_ _
        go_wp2_with fail
        go_meet
        have hv : ∀ q, (Value.slice B18 n18 p18).ownBlock = some q → w2.heap.size ≤ q := fun q hq => by have h3 := own_ge HN18.out q hq; (try simp at h3); omega
        have r0 : RowT (Av (w.heap.size + 2) (.slice B18 n18 p18) w3) w3 1 B0 n0 c0 D0 := av_old (HN0.out.mono (S' := New (w.heap.size + 2) w2) (fun b h => ⟨by have h3 := h.1; (try simp at h3); omega, Nat.lt_of_lt_of_le h.2 HM2.out.size⟩) (fun b h => HM2.out.block b h.2)) (Nat.le_refl _) HM3.out hv
        have r2 : RowT (Av (w.heap.size + 2) (.slice B18 n18 p18) w3) w3 3 B2 n2 c2 D2 := av_old (HN2.out.mono (S' := New (w.heap.size + 2) w2) (fun b h => ⟨by have h3 := h.1; (try simp at h3); omega, h.2⟩) (fun _ _ => rfl)) (Nat.le_refl _) HM3.out hv
        have ro : w3.ownsRow (w.heap.size + 2) 44 7 (.slice B18 n18 p18) n18 (rowA (elA 9 C18) n18) := own_low HN18.out (by first | omega | (simp <;> omega))
        exact ⟨B0, p0, D0, B2, p2, D2, B18, p18, blk_setCell (blk_setCell (blk_setCell (HP3.out))), blk_setOther (by simp) (blk_setOther (by simp) (blk_setOther (by simp) (HZ3.out))), ⟨av_keep r0 (by simp) (fun b h1 h2 => by refine (Go.Deep.blk_setCell_other _ _ _ _ (by simp; omega)).trans ?_; refine (Go.Deep.blk_setCell_other _ _ _ _ (by simp; omega)).trans ?_; refine (Go.Deep.blk_setCell_other _ _ _ _ (by simp; omega)).trans ?_; (with_reducible exact rfl)), HC0.out⟩, ⟨av_keep r2 (by simp) (fun b h1 h2 => by refine (Go.Deep.blk_setCell_other _ _ _ _ (by simp; omega)).trans ?_; refine (Go.Deep.blk_setCell_other _ _ _ _ (by simp; omega)).trans ?_; refine (Go.Deep.blk_setCell_other _ _ _ _ (by simp; omega)).trans ?_; (with_reducible exact rfl)), HC2.out⟩, own_keepB ro (fun b h1 h2 => by refine (Go.Deep.blk_setCell_other _ _ _ _ (by simp; omega)).trans ?_; refine (Go.Deep.blk_setCell_other _ _ _ _ (by simp; omega)).trans ?_; refine (Go.Deep.blk_setCell_other _ _ _ _ (by simp; omega)).trans ?_; (with_reducible exact rfl)), HB3.out.trans (by (repeat (first | (with_reducible first | exact Below.refl _ _ | assumption | refine Below.drew ?_) | ((with_reducible first | refine Below.alloc ?_ ?_ _ | refine Below.setCell ?_ ?_ _); rotate_left; (first | omega | (simp <;> omega)))))), (by simp; omega)⟩
      exact AllReadyH.nil
    exact AllReadyH.nil
  case rest =>
    obtain ⟨B0, p0, D0, B2, p2, D2, B18, p18, hp, hr, h0, h2, how, hb, hz⟩ := hcut
    rename World => wA
    have HPA := hide hp
    have HZA := hide hr
    have H0 := hide h0
    have H2 := hide h2
    have HOW := hide how
    have HBA := hide hb
    have r20 := (cell_of_cells hp 20).trans (set_ne (by decide) (set_ne (by decide) (set_ne (by decide) (G20.out))))
    have r21 := (cell_of_cells hp 21).trans (set_ne (by decide) (set_ne (by decide) (set_ne (by decide) (G21.out))))
    have pf := free_of_cells hp
    have hlt0 : w.heap.size < wA.heap.size := by omega
    clear hp hr h0 h2 how hb g0 g2 g18
    go_wp2_with fail
    go_cut [15] (fun v3 wx => BkCut2 w X n0 n2 n18 n20 n21 c0 c2 c20 c21 C18 v3 wx)
    case first =>
      refine ord_start (SB (0) [] _) 10 (preB 0 10) (by kernel_rfl) (by kernel_rfl) (by kernel_rfl) SB.refl.drew (fun hHeld => ?_)
      refine ord_take (i := 0) (preB 1 9) ?_ rfl (by kernel_rfl) (by kernel_rfl) (by kernel_rfl) (by kernel_rfl) (fun _ _ _ h => h) hHeld (by rfl) (fun wx hSx => ?_) ?_
      rotate_left
      · (unfold SB at hSx; go_simp; (try with_reducible rfl))
      (try simp only [Act.put, putA, putB, putC])
      refine ord_take (i := 3) #[true, false, false, true, false, false, false, false, false, false] ?_ rfl (by kernel_rfl) (by kernel_rfl) (by kernel_rfl) (by kernel_rfl) (fun _ _ _ h => h) hHeld (by rfl) (fun wx hSx => ?_) ?_
      rotate_left
      · (unfold SB at hSx; go_simp; (try with_reducible rfl))
      (try simp only [Act.put, putA, putB, putC])
      refine wpAnyH_ready (rs := [1, 4]) (by kernel_rfl) (by simp) ?_
      refine ord_run (i := 1) #[true, true, false, true, false, false, false, false, false, false] rfl (by kernel_rfl) (by rfl) (fun K hK => ?_) ?_
      · go_simp
        refine hK.out _ _ ?_ (fun hHeld => ?_)
        · exact fun _ _ h => absurd h (Nat.not_lt_zero _)
        clear hK K
        (try simp only [Act.put, putA, putB, putC])
        refine wpAnyH_ready (rs := [2, 4]) (by kernel_rfl) (by simp) ?_
        refine ord_run (i := 2) (preB 4 6) rfl (by kernel_rfl) (by rfl) (fun K hK => ?_) ?_
        · go_simp
          go_wp2_with (go_at_call 68; refine (HF20.out _ (HR20.out.below (HBA.out.trans (by (repeat (first | (with_reducible first | exact Below.refl _ _ | assumption | refine Below.drew ?_) | ((with_reducible first | refine Below.alloc ?_ ?_ _ | refine Below.setCell ?_ ?_ _); rotate_left; (first | omega | (simp <;> omega))))))))).mono ?_; rintro r w1 ⟨B20, p20, D20, rfl, hc, hN, hb⟩; have HC20 := hide hc; clear hc; have HN20 := hide hN; clear hN; have HM1 := hide (show Below wA.heap.size wA w1 from Below.trans (by (repeat (first | (with_reducible first | exact Below.refl _ _ | assumption | refine Below.drew ?_) | ((with_reducible first | refine Below.alloc ?_ ?_ _ | refine Below.setCell ?_ ?_ _); rotate_left; (first | omega | (simp <;> omega)))))) hb); have HP1 := hide (show w1.heap[w.heap.size]? = some (.cells (((X.setIfInBounds 0 (.slice B0 n0 p0)).setIfInBounds 2 (.slice B2 n2 p2)).setIfInBounds 18 (.slice B18 n18 p18)) 41 (0, 0)) from blk_below hb (by first | omega | (simp <;> omega)) HPA.out); have HZ1 := hide (show w1.heap[w.heap.size + 1]? = some (.cells #[.slice none 0 0, .slice none 0 0, .slice none 0 0, .int .i64 0, .int .i64 0, .int .i64 0, .int .i64 0, .int .i64 0, .int .i64 0, .int .i64 0, .int .i64 0, .int .i64 0, .int .i64 0, .int .i64 0, .int .i64 0, .int .i64 0, .int .i64 0, .slice none 0 0, .slice none 0 0, .slice none 0 0, .slice none 0 0, .slice none 0 0] 41 (0, 0)) from blk_below hb (by first | omega | (simp <;> omega)) HZA.out); (have q1B : Below wA.heap.size wA w1 := (by refine Below.trans ?_ (hb.mono (by first | omega | (simp <;> omega))); (repeat (first | (with_reducible first | exact Below.refl _ _ | assumption | refine Below.drew ?_) | ((with_reducible first | refine Below.alloc ?_ ?_ _ | refine Below.setCell ?_ ?_ _); rotate_left; (first | omega | (simp <;> omega)))))); have q1z := hb.size; (try simp at q1z); have q1t : wA.heap.size ≤ w1.heap.size := (by omega); have q1s0 : w.heap.size < w1.heap.size := (by omega); have q1n0_0 : ¬ w1.heap.size = w.heap.size := (by omega); have q1n0_1 : ¬ w1.heap.size + 1 = w.heap.size := (by omega); have q1n0_2 : ¬ w1.heap.size + 2 = w.heap.size := (by omega); have q1c0_20 := hb.cell (p := ⟨w.heap.size, 20, none⟩) (by first | omega | (simp <;> omega)); simp [go_sem, *] at q1c0_20; have q1c0_21 := hb.cell (p := ⟨w.heap.size, 21, none⟩) (by first | omega | (simp <;> omega)); simp [go_sem, *] at q1c0_21; have q1f0 := fun o => hb.frozen (p := ⟨w.heap.size, o, none⟩) (by first | omega | (simp <;> omega)); simp [go_sem, *] at q1f0; have q1o : ∀ b o, b < wA.heap.size → w1.cell? ⟨b, o, none⟩ = wA.cell? ⟨b, o, none⟩ := fun b o h => q1B.cell (p := ⟨b, o, none⟩) h; have hbS := hb; have hbS1 := hb; clear hb); have HB1 := hide (HBA.out.trans (q1B.mono HBA.out.size)); have t1 : w.heap.size + 2 ≤ w1.heap.size := (by omega))
          refine hK.out _ _ ?_ (fun hHeld => ?_)
          · exact fun _ _ h => absurd h (Nat.not_lt_zero _)
          clear hK K
          (try simp only [Act.put, putA, putB, putC])
          refine wpAnyH_ready (rs := [4]) (by kernel_rfl) (by simp) ?_
          refine ord_run (i := 4) (preB 5 5) rfl (by kernel_rfl) (by rfl) (fun K hK => ?_) AllReadyH.nil
          go_simp
          refine hK.out _ _ ?_ (fun hHeld => ?_)
          · exact fun _ _ h => absurd h (Nat.not_lt_zero _)
          clear hK K
          (try simp only [Act.put, putA, putB, putC])
          refine ord_take (i := 6) #[true, true, true, true, true, false, true, false, false, false] ?_ rfl (by kernel_rfl) (by kernel_rfl) (by kernel_rfl) (by kernel_rfl) (fun _ _ _ h => h) hHeld (by rfl) (fun wx hSx => ?_) ?_
          rotate_left
          · (unfold SB at hSx; go_simp; (try with_reducible rfl))
          (try simp only [Act.put, putA, putB, putC])
          refine wpAnyH_ready (rs := [5]) (by kernel_rfl) (by simp) ?_
          refine ord_run (i := 5) (preB 7 3) rfl (by kernel_rfl) (by rfl) (fun K hK => ?_) AllReadyH.nil
          go_simp
          go_wp2_with (go_at_call 69; refine (HF21.out _ (HR21.out.below (HB1.out.trans (by (repeat (first | (with_reducible first | exact Below.refl _ _ | assumption | refine Below.drew ?_) | ((with_reducible first | refine Below.alloc ?_ ?_ _ | refine Below.setCell ?_ ?_ _); rotate_left; (first | omega | (simp <;> omega))))))))).mono ?_; rintro r w2 ⟨B21, p21, D21, rfl, hc, hN, hb⟩; have HC21 := hide hc; clear hc; have HN21 := hide hN; clear hN; have HM2 := hide (show Below w1.heap.size w1 w2 from hb); have HP2 := hide (show w2.heap[w.heap.size]? = some (.cells (((X.setIfInBounds 0 (.slice B0 n0 p0)).setIfInBounds 2 (.slice B2 n2 p2)).setIfInBounds 18 (.slice B18 n18 p18)) 41 (0, 0)) from blk_below hb (by first | omega | (simp <;> omega)) HP1.out); have HZ2 := hide (show w2.heap[w.heap.size + 1]? = some (.cells #[.slice none 0 0, .slice none 0 0, .slice none 0 0, .int .i64 0, .int .i64 0, .int .i64 0, .int .i64 0, .int .i64 0, .int .i64 0, .int .i64 0, .int .i64 0, .int .i64 0, .int .i64 0, .int .i64 0, .int .i64 0, .int .i64 0, .int .i64 0, .slice none 0 0, .slice none 0 0, .slice none 0 0, .slice none 0 0, .slice none 0 0] 41 (0, 0)) from blk_below hb (by first | omega | (simp <;> omega)) HZ1.out); (have q2B : Below w1.heap.size w1 w2 := (by refine Below.trans ?_ (hb.mono (by first | omega | (simp <;> omega))); (repeat (first | (with_reducible first | exact Below.refl _ _ | assumption | refine Below.drew ?_) | ((with_reducible first | refine Below.alloc ?_ ?_ _ | refine Below.setCell ?_ ?_ _); rotate_left; (first | omega | (simp <;> omega)))))); have q2z := hb.size; (try simp at q2z); have q2t : w1.heap.size ≤ w2.heap.size := (by omega); have q2s0 : w.heap.size < w2.heap.size := (by omega); have q2n0_0 : ¬ w2.heap.size = w.heap.size := (by omega); have q2n0_1 : ¬ w2.heap.size + 1 = w.heap.size := (by omega); have q2n0_2 : ¬ w2.heap.size + 2 = w.heap.size := (by omega); have q2c0_20 := hb.cell (p := ⟨w.heap.size, 20, none⟩) (by first | omega | (simp <;> omega)); simp [go_sem, *] at q2c0_20; have q2c0_21 := hb.cell (p := ⟨w.heap.size, 21, none⟩) (by first | omega | (simp <;> omega)); simp [go_sem, *] at q2c0_21; have q2f0 := fun o => hb.frozen (p := ⟨w.heap.size, o, none⟩) (by first | omega | (simp <;> omega)); simp [go_sem, *] at q2f0; have q2o : ∀ b o, b < w1.heap.size → w2.cell? ⟨b, o, none⟩ = w1.cell? ⟨b, o, none⟩ := fun b o h => q2B.cell (p := ⟨b, o, none⟩) h; have hbS := hb; have hbS2 := hb; clear hb); have HB2 := hide (HB1.out.trans (q2B.mono HB1.out.size)); have t2 : w.heap.size + 2 ≤ w2.heap.size := (by omega))
          refine hK.out _ _ ?_ (fun hHeld => ?_)
          · exact fun _ _ h => absurd h (Nat.not_lt_zero _)
          clear hK K
          (try simp only [Act.put, putA, putB, putC])
          refine wpAnyH_ready (rs := [7]) (by kernel_rfl) (by simp) ?_
          refine ord_run (i := 7) (preB 8 2) rfl (by kernel_rfl) (by rfl) (fun K hK => ?_) AllReadyH.nil
          go_simp
          refine hK.out _ _ ?_ (fun hHeld => ?_)
          · exact fun _ _ h => absurd h (Nat.not_lt_zero _)
          clear hK K
          (try simp only [Act.put, putA, putB, putC])
          refine ord_take (i := 8) (preB 9 1) ?_ rfl (by kernel_rfl) (by kernel_rfl) (by kernel_rfl) (by kernel_rfl) (fun _ _ _ h => h) hHeld (by rfl) (fun wx hSx => ?_) ?_
          rotate_left
          · (unfold SB at hSx; go_simp; (try with_reducible rfl))
          (try simp only [Act.put, putA, putB, putC])
          refine wpAnyH_ready (rs := [9]) (by kernel_rfl) (by simp) ?_
          refine ord_run (i := 9) (preB 10 0) rfl (by kernel_rfl) (by rfl) (fun K hK => ?_) AllReadyH.nil
          go_simp
          refine hK.out _ _ ?_ (fun hHeld => ?_)
          · exact fun _ _ h => absurd h (Nat.not_lt_zero _)
          clear hK K
          (try simp only [Act.put, putA, putB, putC])
          refine wpAnyH_done (by kernel_rfl) ?_ _
          go_wp2_with fail
          go_meet
          have hv : ∀ q, (Value.slice B18 n18 p18).ownBlock = some q → q < wA.heap.size := fun q hq => (HOW.out.lt q hq).2
          have r20 : RowT (Av (w.heap.size + 2) (.slice B18 n18 p18) w1) w1 12 B20 n20 c20 D20 := av_new (N := wA.heap.size) (HN20.out.mono (S' := New wA.heap.size w1) (fun b h => ⟨by have h3 := h.1; (try simp at h3); omega, h.2⟩) (fun _ _ => rfl)) (by omega) hv
          have r21 : RowT (Av (w.heap.size + 2) (.slice B18 n18 p18) w2) w2 13 B21 n21 c21 D21 := av_new (N := w1.heap.size) (HN21.out.mono (S' := New w1.heap.size w2) (fun b h => ⟨by have h3 := h.1; (try simp at h3); omega, h.2⟩) (fun _ _ => rfl)) (by omega) (fun q hq => Nat.lt_of_lt_of_le (hv q hq) (by omega))
          have KA : ∀ b, w.heap.size + 2 ≤ b → b < wA.heap.size → w2.heap[b]? = wA.heap[b]? := fun b h1 h2 => (HM2.out.block b (by omega)).trans (HM1.out.block b h2)
          have KB : ∀ b, w.heap.size + 2 ≤ b → b < w1.heap.size → w2.heap[b]? = w1.heap[b]? := fun b h1 h2 => HM2.out.block b h2
          exact ⟨B0, p0, D0, B2, p2, D2, B20, p20, D20, B21, p21, D21, B18, p18, blk_setCell (blk_setCell (HP2.out)), blk_setOther (by simp) (blk_setOther (by simp) (HZ2.out)), ⟨av_keep (av_keep H0.out.1 (by omega) KA) (by simp) (fun b h1 h2 => by refine (Go.Deep.blk_setCell_other _ _ _ _ (by simp; omega)).trans ?_; refine (Go.Deep.blk_setCell_other _ _ _ _ (by simp; omega)).trans ?_; (with_reducible exact rfl)), H0.out.2⟩, ⟨av_keep (av_keep H2.out.1 (by omega) KA) (by simp) (fun b h1 h2 => by refine (Go.Deep.blk_setCell_other _ _ _ _ (by simp; omega)).trans ?_; refine (Go.Deep.blk_setCell_other _ _ _ _ (by simp; omega)).trans ?_; (with_reducible exact rfl)), H2.out.2⟩, ⟨av_keep (av_keep r20 (by omega) KB) (by simp) (fun b h1 h2 => by refine (Go.Deep.blk_setCell_other _ _ _ _ (by simp; omega)).trans ?_; refine (Go.Deep.blk_setCell_other _ _ _ _ (by simp; omega)).trans ?_; (with_reducible exact rfl)), HC20.out⟩, ⟨av_keep r21 (by simp) (fun b h1 h2 => by refine (Go.Deep.blk_setCell_other _ _ _ _ (by simp; omega)).trans ?_; refine (Go.Deep.blk_setCell_other _ _ _ _ (by simp; omega)).trans ?_; (with_reducible exact rfl)), HC21.out⟩, own_keepB (own_keepB HOW.out KA) (fun b h1 h2 => by refine (Go.Deep.blk_setCell_other _ _ _ _ (by simp; omega)).trans ?_; refine (Go.Deep.blk_setCell_other _ _ _ _ (by simp; omega)).trans ?_; (with_reducible exact rfl)), HB2.out.trans (by (repeat (first | (with_reducible first | exact Below.refl _ _ | assumption | refine Below.drew ?_) | ((with_reducible first | refine Below.alloc ?_ ?_ _ | refine Below.setCell ?_ ?_ _); rotate_left; (first | omega | (simp <;> omega)))))), (by simp; omega)⟩
        refine ord_run (i := 4) #[true, true, false, true, true, false, false, false, false, false] rfl (by kernel_rfl) (by rfl) (fun K hK => ?_) ?_
        · go_simp
          refine hK.out _ _ ?_ (fun hHeld => ?_)
          · exact fun _ _ h => absurd h (Nat.not_lt_zero _)
          clear hK K
          (try simp only [Act.put, putA, putB, putC])
          refine wpAnyH_ready (rs := [2]) (by kernel_rfl) (by simp) ?_
          refine ord_run (i := 2) (preB 5 5) rfl (by kernel_rfl) (by rfl) (fun K hK => ?_) AllReadyH.nil
          go_simp
          go_wp2_with (go_at_call 68; refine (HF20.out _ (HR20.out.below (HBA.out.trans (by (repeat (first | (with_reducible first | exact Below.refl _ _ | assumption | refine Below.drew ?_) | ((with_reducible first | refine Below.alloc ?_ ?_ _ | refine Below.setCell ?_ ?_ _); rotate_left; (first | omega | (simp <;> omega))))))))).mono ?_; rintro r w1 ⟨B20, p20, D20, rfl, hc, hN, hb⟩; have HC20 := hide hc; clear hc; have HN20 := hide hN; clear hN; have HM1 := hide (show Below wA.heap.size wA w1 from Below.trans (by (repeat (first | (with_reducible first | exact Below.refl _ _ | assumption | refine Below.drew ?_) | ((with_reducible first | refine Below.alloc ?_ ?_ _ | refine Below.setCell ?_ ?_ _); rotate_left; (first | omega | (simp <;> omega)))))) hb); have HP1 := hide (show w1.heap[w.heap.size]? = some (.cells (((X.setIfInBounds 0 (.slice B0 n0 p0)).setIfInBounds 2 (.slice B2 n2 p2)).setIfInBounds 18 (.slice B18 n18 p18)) 41 (0, 0)) from blk_below hb (by first | omega | (simp <;> omega)) HPA.out); have HZ1 := hide (show w1.heap[w.heap.size + 1]? = some (.cells #[.slice none 0 0, .slice none 0 0, .slice none 0 0, .int .i64 0, .int .i64 0, .int .i64 0, .int .i64 0, .int .i64 0, .int .i64 0, .int .i64 0, .int .i64 0, .int .i64 0, .int .i64 0, .int .i64 0, .int .i64 0, .int .i64 0, .int .i64 0, .slice none 0 0, .slice none 0 0, .slice none 0 0, .slice none 0 0, .slice none 0 0] 41 (0, 0)) from blk_below hb (by first | omega | (simp <;> omega)) HZA.out); (have q1B : Below wA.heap.size wA w1 := (by refine Below.trans ?_ (hb.mono (by first | omega | (simp <;> omega))); (repeat (first | (with_reducible first | exact Below.refl _ _ | assumption | refine Below.drew ?_) | ((with_reducible first | refine Below.alloc ?_ ?_ _ | refine Below.setCell ?_ ?_ _); rotate_left; (first | omega | (simp <;> omega)))))); have q1z := hb.size; (try simp at q1z); have q1t : wA.heap.size ≤ w1.heap.size := (by omega); have q1s0 : w.heap.size < w1.heap.size := (by omega); have q1n0_0 : ¬ w1.heap.size = w.heap.size := (by omega); have q1n0_1 : ¬ w1.heap.size + 1 = w.heap.size := (by omega); have q1n0_2 : ¬ w1.heap.size + 2 = w.heap.size := (by omega); have q1c0_20 := hb.cell (p := ⟨w.heap.size, 20, none⟩) (by first | omega | (simp <;> omega)); simp [go_sem, *] at q1c0_20; have q1c0_21 := hb.cell (p := ⟨w.heap.size, 21, none⟩) (by first | omega | (simp <;> omega)); simp [go_sem, *] at q1c0_21; have q1f0 := fun o => hb.frozen (p := ⟨w.heap.size, o, none⟩) (by first | omega | (simp <;> omega)); simp [go_sem, *] at q1f0; have q1o : ∀ b o, b < wA.heap.size → w1.cell? ⟨b, o, none⟩ = wA.cell? ⟨b, o, none⟩ := fun b o h => q1B.cell (p := ⟨b, o, none⟩) h; have hbS := hb; have hbS1 := hb; clear hb); have HB1 := hide (HBA.out.trans (q1B.mono HBA.out.size)); have t1 : w.heap.size + 2 ≤ w1.heap.size := (by omega))
          refine hK.out _ _ ?_ (fun hHeld => ?_)
          · exact fun _ _ h => absurd h (Nat.not_lt_zero _)
          clear hK K
          (try simp only [Act.put, putA, putB, putC])
          refine ord_take (i := 6) #[true, true, true, true, true, false, true, false, false, false] ?_ rfl (by kernel_rfl) (by kernel_rfl) (by kernel_rfl) (by kernel_rfl) (fun _ _ _ h => h) hHeld (by rfl) (fun wx hSx => ?_) ?_
          rotate_left
          · (unfold SB at hSx; go_simp; (try with_reducible rfl))
          (try simp only [Act.put, putA, putB, putC])
          refine wpAnyH_ready (rs := [5]) (by kernel_rfl) (by simp) ?_
          refine ord_run (i := 5) (preB 7 3) rfl (by kernel_rfl) (by rfl) (fun K hK => ?_) AllReadyH.nil
          go_simp
          go_wp2_with (go_at_call 69; refine (HF21.out _ (HR21.out.below (HB1.out.trans (by (repeat (first | (with_reducible first | exact Below.refl _ _ | assumption | refine Below.drew ?_) | ((with_reducible first | refine Below.alloc ?_ ?_ _ | refine Below.setCell ?_ ?_ _); rotate_left; (first | omega | (simp <;> omega))))))))).mono ?_; rintro r w2 ⟨B21, p21, D21, rfl, hc, hN, hb⟩; have HC21 := hide hc; clear hc; have HN21 := hide hN; clear hN; have HM2 := hide (show Below w1.heap.size w1 w2 from hb); have HP2 := hide (show w2.heap[w.heap.size]? = some (.cells (((X.setIfInBounds 0 (.slice B0 n0 p0)).setIfInBounds 2 (.slice B2 n2 p2)).setIfInBounds 18 (.slice B18 n18 p18)) 41 (0, 0)) from blk_below hb (by first | omega | (simp <;> omega)) HP1.out); have HZ2 := hide (show w2.heap[w.heap.size + 1]? = some (.cells #[.slice none 0 0, .slice none 0 0, .slice none 0 0, .int .i64 0, .int .i64 0, .int .i64 0, .int .i64 0, .int .i64 0, .int .i64 0, .int .i64 0, .int .i64 0, .int .i64 0, .int .i64 0, .int .i64 0, .int .i64 0, .int .i64 0, .int .i64 0, .slice none 0 0, .slice none 0 0, .slice none 0 0, .slice none 0 0, .slice none 0 0] 41 (0, 0)) from blk_below hb (by first | omega | (simp <;> omega)) HZ1.out); (have q2B : Below w1.heap.size w1 w2 := (by refine Below.trans ?_ (hb.mono (by first | omega | (simp <;> omega))); (repeat (first | (with_reducible first | exact Below.refl _ _ | assumption | refine Below.drew ?_) | ((with_reducible first | refine Below.alloc ?_ ?_ _ | refine Below.setCell ?_ ?_ _); rotate_left; (first | omega | (simp <;> omega)))))); have q2z := hb.size; (try simp at q2z); have q2t : w1.heap.size ≤ w2.heap.size := (by omega); have q2s0 : w.heap.size < w2.heap.size := (by omega); have q2n0_0 : ¬ w2.heap.size = w.heap.size := (by omega); have q2n0_1 : ¬ w2.heap.size + 1 = w.heap.size := (by omega); have q2n0_2 : ¬ w2.heap.size + 2 = w.heap.size := (by omega); have q2c0_20 := hb.cell (p := ⟨w.heap.size, 20, none⟩) (by first | omega | (simp <;> omega)); simp [go_sem, *] at q2c0_20; have q2c0_21 := hb.cell (p := ⟨w.heap.size, 21, none⟩) (by first | omega | (simp <;> omega)); simp [go_sem, *] at q2c0_21; have q2f0 := fun o => hb.frozen (p := ⟨w.heap.size, o, none⟩) (by first | omega | (simp <;> omega)); simp [go_sem, *] at q2f0; have q2o : ∀ b o, b < w1.heap.size → w2.cell? ⟨b, o, none⟩ = w1.cell? ⟨b, o, none⟩ := fun b o h => q2B.cell (p := ⟨b, o, none⟩) h; have hbS := hb; have hbS2 := hb; clear hb); have HB2 := hide (HB1.out.trans (q2B.mono HB1.out.size)); have t2 : w.heap.size + 2 ≤ w2.heap.size := (by omega))
          refine hK.out _ _ ?_ (fun hHeld => ?_)
          · exact fun _ _ h => absurd h (Nat.not_lt_zero _)
          clear hK K
          (try simp only [Act.put, putA, putB, putC])
          refine wpAnyH_ready (rs := [7]) (by kernel_rfl) (by simp) ?_
          refine ord_run (i := 7) (preB 8 2) rfl (by kernel_rfl) (by rfl) (fun K hK => ?_) AllReadyH.nil
          go_simp
          refine hK.out _ _ ?_ (fun hHeld => ?_)
          · exact fun _ _ h => absurd h (Nat.not_lt_zero _)
          clear hK K
          (try simp only [Act.put, putA, putB, putC])
          refine ord_take (i := 8) (preB 9 1) ?_ rfl (by kernel_rfl) (by kernel_rfl) (by kernel_rfl) (by kernel_rfl) (fun _ _ _ h => h) hHeld (by rfl) (fun wx hSx => ?_) ?_
          rotate_left
          · (unfold SB at hSx; go_simp; (try with_reducible rfl))
          (try simp only [Act.put, putA, putB, putC])
          refine wpAnyH_ready (rs := [9]) (by kernel_rfl) (by simp) ?_
          refine ord_run (i := 9) (preB 10 0) rfl (by kernel_rfl) (by rfl) (fun K hK => ?_) AllReadyH.nil
          go_simp
          refine hK.out _ _ ?_ (fun hHeld => ?_)
          · exact fun _ _ h => absurd h (Nat.not_lt_zero _)
          clear hK K
          (try simp only [Act.put, putA, putB, putC])
          refine wpAnyH_done (by kernel_rfl) ?_ _
          go_wp2_with fail
          go_meet
          have hv : ∀ q, (Value.slice B18 n18 p18).ownBlock = some q → q < wA.heap.size := fun q hq => (HOW.out.lt q hq).2
          have r20 : RowT (Av (w.heap.size + 2) (.slice B18 n18 p18) w1) w1 12 B20 n20 c20 D20 := av_new (N := wA.heap.size) (HN20.out.mono (S' := New wA.heap.size w1) (fun b h => ⟨by have h3 := h.1; (try simp at h3); omega, h.2⟩) (fun _ _ => rfl)) (by omega) hv
          have r21 : RowT (Av (w.heap.size + 2) (.slice B18 n18 p18) w2) w2 13 B21 n21 c21 D21 := av_new (N := w1.heap.size) (HN21.out.mono (S' := New w1.heap.size w2) (fun b h => ⟨by have h3 := h.1; (try simp at h3); omega, h.2⟩) (fun _ _ => rfl)) (by omega) (fun q hq => Nat.lt_of_lt_of_le (hv q hq) (by omega))
          have KA : ∀ b, w.heap.size + 2 ≤ b → b < wA.heap.size → w2.heap[b]? = wA.heap[b]? := fun b h1 h2 => (HM2.out.block b (by omega)).trans (HM1.out.block b h2)
          have KB : ∀ b, w.heap.size + 2 ≤ b → b < w1.heap.size → w2.heap[b]? = w1.heap[b]? := fun b h1 h2 => HM2.out.block b h2
          exact ⟨B0, p0, D0, B2, p2, D2, B20, p20, D20, B21, p21, D21, B18, p18, blk_setCell (blk_setCell (HP2.out)), blk_setOther (by simp) (blk_setOther (by simp) (HZ2.out)), ⟨av_keep (av_keep H0.out.1 (by omega) KA) (by simp) (fun b h1 h2 => by refine (Go.Deep.blk_setCell_other _ _ _ _ (by simp; omega)).trans ?_; refine (Go.Deep.blk_setCell_other _ _ _ _ (by simp; omega)).trans ?_; (with_reducible exact rfl)), H0.out.2⟩, ⟨av_keep (av_keep H2.out.1 (by omega) KA) (by simp) (fun b h1 h2 => by refine (Go.Deep.blk_setCell_other _ _ _ _ (by simp; omega)).trans ?_; refine (Go.Deep.blk_setCell_other _ _ _ _ (by simp; omega)).trans ?_; (with_reducible exact rfl)), H2.out.2⟩, ⟨av_keep (av_keep r20 (by omega) KB) (by simp) (fun b h1 h2 => by refine (Go.Deep.blk_setCell_other _ _ _ _ (by simp; omega)).trans ?_; refine (Go.Deep.blk_setCell_other _ _ _ _ (by simp; omega)).trans ?_; (with_reducible exact rfl)), HC20.out⟩, ⟨av_keep r21 (by simp) (fun b h1 h2 => by refine (Go.Deep.blk_setCell_other _ _ _ _ (by simp; omega)).trans ?_; refine (Go.Deep.blk_setCell_other _ _ _ _ (by simp; omega)).trans ?_; (with_reducible exact rfl)), HC21.out⟩, own_keepB (own_keepB HOW.out KA) (fun b h1 h2 => by refine (Go.Deep.blk_setCell_other _ _ _ _ (by simp; omega)).trans ?_; refine (Go.Deep.blk_setCell_other _ _ _ _ (by simp; omega)).trans ?_; (with_reducible exact rfl)), HB2.out.trans (by (repeat (first | (with_reducible first | exact Below.refl _ _ | assumption | refine Below.drew ?_) | ((with_reducible first | refine Below.alloc ?_ ?_ _ | refine Below.setCell ?_ ?_ _); rotate_left; (first | omega | (simp <;> omega)))))), (by simp; omega)⟩
        exact AllReadyH.nil
      refine ord_run (i := 4) #[true, false, false, true, true, false, false, false, false, false] rfl (by kernel_rfl) (by rfl) (fun K hK => ?_) ?_
      · go_simp
        refine hK.out _ _ ?_ (fun hHeld => ?_)
        · exact fun _ _ h => absurd h (Nat.not_lt_zero _)
        clear hK K
        (try simp only [Act.put, putA, putB, putC])
        refine wpAnyH_ready (rs := [1]) (by kernel_rfl) (by simp) ?_
        refine ord_run (i := 1) #[true, true, false, true, true, false, false, false, false, false] rfl (by kernel_rfl) (by rfl) (fun K hK => ?_) AllReadyH.nil
        go_simp
        refine hK.out _ _ ?_ (fun hHeld => ?_)
        · exact fun _ _ h => absurd h (Nat.not_lt_zero _)
        clear hK K
        (try simp only [Act.put, putA, putB, putC])
        refine wpAnyH_ready (rs := [2]) (by kernel_rfl) (by simp) ?_
        refine ord_run (i := 2) (preB 5 5) rfl (by kernel_rfl) (by rfl) (fun K hK => ?_) AllReadyH.nil
        go_simp
        go_wp2_with (go_at_call 68; refine (HF20.out _ (HR20.out.below (HBA.out.trans (by (repeat (first | (with_reducible first | exact Below.refl _ _ | assumption | refine Below.drew ?_) | ((with_reducible first | refine Below.alloc ?_ ?_ _ | refine Below.setCell ?_ ?_ _); rotate_left; (first | omega | (simp <;> omega))))))))).mono ?_; rintro r w1 ⟨B20, p20, D20, rfl, hc, hN, hb⟩; have HC20 := hide hc; clear hc; have HN20 := hide hN; clear hN; have HM1 := hide (show Below wA.heap.size wA w1 from Below.trans (by (repeat (first | (with_reducible first | exact Below.refl _ _ | assumption | refine Below.drew ?_) | ((with_reducible first | refine Below.alloc ?_ ?_ _ | refine Below.setCell ?_ ?_ _); rotate_left; (first | omega | (simp <;> omega)))))) hb); have HP1 := hide (show w1.heap[w.heap.size]? = some (.cells (((X.setIfInBounds 0 (.slice B0 n0 p0)).setIfInBounds 2 (.slice B2 n2 p2)).setIfInBounds 18 (.slice B18 n18 p18)) 41 (0, 0)) from blk_below hb (by first | omega | (simp <;> omega)) HPA.out); have HZ1 := hide (show w1.heap[w.heap.size + 1]? = some (.cells #[.slice none 0 0, .slice none 0 0, .slice none 0 0, .int .i64 0, .int .i64 0, .int .i64 0, .int .i64 0, .int .i64 0, .int .i64 0, .int .i64 0, .int .i64 0, .int .i64 0, .int .i64 0, .int .i64 0, .int .i64 0, .int .i64 0, .int .i64 0, .slice none 0 0, .slice none 0 0, .slice none 0 0, .slice none 0 0, .slice none 0 0] 41 (0, 0)) from blk_below hb (by first | omega | (simp <;> omega)) HZA.out); (have q1B : Below wA.heap.size wA w1 := (by refine Below.trans ?_ (hb.mono (by first | omega | (simp <;> omega))); (repeat (first | (with_reducible first | exact Below.refl _ _ | assumption | refine Below.drew ?_) | ((with_reducible first | refine Below.alloc ?_ ?_ _ | refine Below.setCell ?_ ?_ _); rotate_left; (first | omega | (simp <;> omega)))))); have q1z := hb.size; (try simp at q1z); have q1t : wA.heap.size ≤ w1.heap.size := (by omega); have q1s0 : w.heap.size < w1.heap.size := (by omega); have q1n0_0 : ¬ w1.heap.size = w.heap.size := (by omega); have q1n0_1 : ¬ w1.heap.size + 1 = w.heap.size := (by omega); have q1n0_2 : ¬ w1.heap.size + 2 = w.heap.size := (by omega); have q1c0_20 := hb.cell (p := ⟨w.heap.size, 20, none⟩) (by first | omega | (simp <;> omega)); simp [go_sem, *] at q1c0_20; have q1c0_21 := hb.cell (p := ⟨w.heap.size, 21, none⟩) (by first | omega | (simp <;> omega)); simp [go_sem, *] at q1c0_21; have q1f0 := fun o => hb.frozen (p := ⟨w.heap.size, o, none⟩) (by first | omega | (simp <;> omega)); simp [go_sem, *] at q1f0; have q1o : ∀ b o, b < wA.heap.size → w1.cell? ⟨b, o, none⟩ = wA.cell? ⟨b, o, none⟩ := fun b o h => q1B.cell (p := ⟨b, o, none⟩) h; have hbS := hb; have hbS1 := hb; clear hb); have HB1 := hide (HBA.out.trans (q1B.mono HBA.out.size)); have t1 : w.heap.size + 2 ≤ w1.heap.size := (by omega))
        refine hK.out _ _ ?_ (fun hHeld => ?_)
        · exact fun _ _ h => absurd h (Nat.not_lt_zero _)
        clear hK K
        (try simp only [Act.put, putA, putB, putC])
        refine ord_take (i := 6) #[true, true, true, true, true, false, true, false, false, false] ?_ rfl (by kernel_rfl) (by kernel_rfl) (by kernel_rfl) (by kernel_rfl) (fun _ _ _ h => h) hHeld (by rfl) (fun wx hSx => ?_) ?_
        rotate_left
        · (unfold SB at hSx; go_simp; (try with_reducible rfl))
        (try simp only [Act.put, putA, putB, putC])
        refine wpAnyH_ready (rs := [5]) (by kernel_rfl) (by simp) ?_
        refine ord_run (i := 5) (preB 7 3) rfl (by kernel_rfl) (by rfl) (fun K hK => ?_) AllReadyH.nil
        go_simp
        go_wp2_with (go_at_call 69; refine (HF21.out _ (HR21.out.below (HB1.out.trans (by (repeat (first | (with_reducible first | exact Below.refl _ _ | assumption | refine Below.drew ?_) | ((with_reducible first | refine Below.alloc ?_ ?_ _ | refine Below.setCell ?_ ?_ _); rotate_left; (first | omega | (simp <;> omega))))))))).mono ?_; rintro r w2 ⟨B21, p21, D21, rfl, hc, hN, hb⟩; have HC21 := hide hc; clear hc; have HN21 := hide hN; clear hN; have HM2 := hide (show Below w1.heap.size w1 w2 from hb); have HP2 := hide (show w2.heap[w.heap.size]? = some (.cells (((X.setIfInBounds 0 (.slice B0 n0 p0)).setIfInBounds 2 (.slice B2 n2 p2)).setIfInBounds 18 (.slice B18 n18 p18)) 41 (0, 0)) from blk_below hb (by first | omega | (simp <;> omega)) HP1.out); have HZ2 := hide (show w2.heap[w.heap.size + 1]? = some (.cells #[.slice none 0 0, .slice none 0 0, .slice none 0 0, .int .i64 0, .int .i64 0, .int .i64 0, .int .i64 0, .int .i64 0, .int .i64 0, .int .i64 0, .int .i64 0, .int .i64 0, .int .i64 0, .int .i64 0, .int .i64 0, .int .i64 0, .int .i64 0, .slice none 0 0, .slice none 0 0, .slice none 0 0, .slice none 0 0, .slice none 0 0] 41 (0, 0)) from blk_below hb (by first | omega | (simp <;> omega)) HZ1.out); (have q2B : Below w1.heap.size w1 w2 := (by refine Below.trans ?_ (hb.mono (by first | omega | (simp <;> omega))); (repeat (first | (with_reducible first | exact Below.refl _ _ | assumption | refine Below.drew ?_) | ((with_reducible first | refine Below.alloc ?_ ?_ _ | refine Below.setCell ?_ ?_ _); rotate_left; (first | omega | (simp <;> omega)))))); have q2z := hb.size; (try simp at q2z); have q2t : w1.heap.size ≤ w2.heap.size := (by omega); have q2s0 : w.heap.size < w2.heap.size := (by omega); have q2n0_0 : ¬ w2.heap.size = w.heap.size := (by omega); have q2n0_1 : ¬ w2.heap.size + 1 = w.heap.size := (by omega); have q2n0_2 : ¬ w2.heap.size + 2 = w.heap.size := (by omega); have q2c0_20 := hb.cell (p := ⟨w.heap.size, 20, none⟩) (by first | omega | (simp <;> omega)); simp [go_sem, *] at q2c0_20; have q2c0_21 := hb.cell (p := ⟨w.heap.size, 21, none⟩) (by first | omega | (simp <;> omega)); simp [go_sem, *] at q2c0_21; have q2f0 := fun o => hb.frozen (p := ⟨w.heap.size, o, none⟩) (by first | omega | (simp <;> omega)); simp [go_sem, *] at q2f0; have q2o : ∀ b o, b < w1.heap.size → w2.cell? ⟨b, o, none⟩ = w1.cell? ⟨b, o, none⟩ := fun b o h => q2B.cell (p := ⟨b, o, none⟩) h; have hbS := hb; have hbS2 := hb; clear hb); have HB2 := hide (HB1.out.trans (q2B.mono HB1.out.size)); have t2 : w.heap.size + 2 ≤ w2.heap.size := (by omega))
        refine hK.out _ _ ?_ (fun hHeld => ?_)
        · exact fun _ _ h => absurd h (Nat.not_lt_zero _)
        clear hK K
        (try simp only [Act.put, putA, putB, putC])
        refine wpAnyH_ready (rs := [7]) (by kernel_rfl) (by simp) ?_
        refine ord_run (i := 7) (preB 8 2) rfl (by kernel_rfl) (by rfl) (fun K hK => ?_) AllReadyH.nil
        go_simp
        refine hK.out _ _ ?_ (fun hHeld => ?_)
        · exact fun _ _ h => absurd h (Nat.not_lt_zero _)
        clear hK K
        (try simp only [Act.put, putA, putB, putC])
        refine ord_take (i := 8) (preB 9 1) ?_ rfl (by kernel_rfl) (by kernel_rfl) (by kernel_rfl) (by kernel_rfl) (fun _ _ _ h => h) hHeld (by rfl) (fun wx hSx => ?_) ?_
        rotate_left
        · (unfold SB at hSx; go_simp; (try with_reducible rfl))
        (try simp only [Act.put, putA, putB, putC])
        refine wpAnyH_ready (rs := [9]) (by kernel_rfl) (by simp) ?_
        refine ord_run (i := 9) (preB 10 0) rfl (by kernel_rfl) (by rfl) (fun K hK => ?_) AllReadyH.nil
        go_simp
        refine hK.out _ _ ?_ (fun hHeld => ?_)
        · exact fun _ _ h => absurd h (Nat.not_lt_zero _)
        clear hK K
        (try simp only [Act.put, putA, putB, putC])
        refine wpAnyH_done (by kernel_rfl) ?_ _
        go_wp2_with fail
        go_meet
        have hv : ∀ q, (Value.slice B18 n18 p18).ownBlock = some q → q < wA.heap.size := fun q hq => (HOW.out.lt q hq).2
        have r20 : RowT (Av (w.heap.size + 2) (.slice B18 n18 p18) w1) w1 12 B20 n20 c20 D20 := av_new (N := wA.heap.size) (HN20.out.mono (S' := New wA.heap.size w1) (fun b h => ⟨by have h3 := h.1; (try simp at h3); omega, h.2⟩) (fun _ _ => rfl)) (by omega) hv
        have r21 : RowT (Av (w.heap.size + 2) (.slice B18 n18 p18) w2) w2 13 B21 n21 c21 D21 := av_new (N := w1.heap.size) (HN21.out.mono (S' := New w1.heap.size w2) (fun b h => ⟨by have h3 := h.1; (try simp at h3); omega, h.2⟩) (fun _ _ => rfl)) (by omega) (fun q hq => Nat.lt_of_lt_of_le (hv q hq) (by omega))
        have KA : ∀ b, w.heap.size + 2 ≤ b → b < wA.heap.size → w2.heap[b]? = wA.heap[b]? := fun b h1 h2 => (HM2.out.block b (by omega)).trans (HM1.out.block b h2)
        have KB : ∀ b, w.heap.size + 2 ≤ b → b < w1.heap.size → w2.heap[b]? = w1.heap[b]? := fun b h1 h2 => HM2.out.block b h2
        exact ⟨B0, p0, D0, B2, p2, D2, B20, p20, D20, B21, p21, D21, B18, p18, blk_setCell (blk_setCell (HP2.out)), blk_setOther (by simp) (blk_setOther (by simp) (HZ2.out)), ⟨av_keep (av_keep H0.out.1 (by omega) KA) (by simp) (fun b h1 h2 => by refine (Go.Deep.blk_setCell_other _ _ _ _ (by simp; omega)).trans ?_; refine (Go.Deep.blk_setCell_other _ _ _ _ (by simp; omega)).trans ?_; (with_reducible exact rfl)), H0.out.2⟩, ⟨av_keep (av_keep H2.out.1 (by omega) KA) (by simp) (fun b h1 h2 => by refine (Go.Deep.blk_setCell_other _ _ _ _ (by simp; omega)).trans ?_; refine (Go.Deep.blk_setCell_other _ _ _ _ (by simp; omega)).trans ?_; (with_reducible exact rfl)), H2.out.2⟩, ⟨av_keep (av_keep r20 (by omega) KB) (by simp) (fun b h1 h2 => by refine (Go.Deep.blk_setCell_other _ _ _ _ (by simp; omega)).trans ?_; refine (Go.Deep.blk_setCell_other _ _ _ _ (by simp; omega)).trans ?_; (with_reducible exact rfl)), HC20.out⟩, ⟨av_keep r21 (by simp) (fun b h1 h2 => by refine (Go.Deep.blk_setCell_other _ _ _ _ (by simp; omega)).trans ?_; refine (Go.Deep.blk_setCell_other _ _ _ _ (by simp; omega)).trans ?_; (with_reducible exact rfl)), HC21.out⟩, own_keepB (own_keepB HOW.out KA) (fun b h1 h2 => by refine (Go.Deep.blk_setCell_other _ _ _ _ (by simp; omega)).trans ?_; refine (Go.Deep.blk_setCell_other _ _ _ _ (by simp; omega)).trans ?_; (with_reducible exact rfl)), HB2.out.trans (by (repeat (first | (with_reducible first | exact Below.refl _ _ | assumption | refine Below.drew ?_) | ((with_reducible first | refine Below.alloc ?_ ?_ _ | refine Below.setCell ?_ ?_ _); rotate_left; (first | omega | (simp <;> omega)))))), (by simp; omega)⟩
      exact AllReadyH.nil
    case rest =>
      rename World => wB
      clear r20 r21 pf hlt0 hz HPA HZA H0 H2 HOW HBA
      obtain ⟨B0, p0, D0, B2, p2, D2, B20, p20, D20, B21, p21, D21, B18, p18, hp, hr, h0, h2, h20, h21, how, hb, hz⟩ := hcut
      have HR0 := hide h0
      have HR2 := hide h2
      have HR20 := hide h20
      have HR21 := hide h21
      have HOW := hide how
      have HB0 := hide hb
      obtain ⟨Y, hY⟩ : ∃ Y, Y = (((((X.setIfInBounds 0 (.slice B0 n0 p0)).setIfInBounds 2 (.slice B2 n2 p2)).setIfInBounds 18 (.slice B18 n18 p18)).setIfInBounds 20 (.slice B20 n20 p20)).setIfInBounds 21 (.slice B21 n21 p21)) := ⟨_, rfl⟩
      have HYE := hide hY
      have HYS := hide (show Y.size = 22 by rw [hY]; simp [HXS.out])
      have Y1 := hide (show Y[1]? = some (.slice A1 n1 cap1) by rw [hY]; exact set_ne (by decide) (set_ne (by decide) (set_ne (by decide) (set_ne (by decide) (set_ne (by decide) (G1.out))))))
      have Y17 := hide (show Y[17]? = some (.slice A17 n17 cap17) by rw [hY]; exact set_ne (by decide) (set_ne (by decide) (set_ne (by decide) (set_ne (by decide) (set_ne (by decide) (G17.out))))))
      have Y19 := hide (show Y[19]? = some (.slice A19 n19 cap19) by rw [hY]; exact set_ne (by decide) (set_ne (by decide) (set_ne (by decide) (set_ne (by decide) (set_ne (by decide) (G19.out))))))
      have HYO := hide (show Y.all (·.oneCell') = true by rw [hY]; exact all_setZ (all_setZ (all_setZ (all_setZ (all_setZ HX.out.ones rfl) rfl) rfl) rfl) rfl)
      rw [← hY] at hp
      have HP0 := hide hp
      have HZ0 := hide hr
      clear hp hr h0 h2 h20 h21 how hb hY
      have c1 := (cell_of_cells HP0.out 1).trans Y1.out
      have pf := free_of_cells HP0.out
      have hlt0 : w.heap.size < wB.heap.size := by omega
      go_wp2_with fail
      refine (HF1.out _ (HR1.out.below (HB0.out.trans (by (repeat (first | (with_reducible first | exact Below.refl _ _ | assumption | refine Below.drew ?_) | ((with_reducible first | refine Below.alloc ?_ ?_ _ | refine Below.setCell ?_ ?_ _); rotate_left; (first | omega | (simp <;> omega))))))))).mono ?_
      rintro r w1 ⟨B1, p1, D1, rfl, hc, hN, hb⟩
      have HC1 := hide hc
      have HN1 := hide hN
      have HP1 := hide (show w1.heap[w.heap.size]? = some (.cells Y 41 (0, 0)) from blk_below hb (by first | omega | (simp <;> omega)) HP0.out)
      have HZ1 := hide (show w1.heap[w.heap.size + 1]? = some (.cells #[.slice none 0 0, .slice none 0 0, .slice none 0 0, .int .i64 0, .int .i64 0, .int .i64 0, .int .i64 0, .int .i64 0, .int .i64 0, .int .i64 0, .int .i64 0, .int .i64 0, .int .i64 0, .int .i64 0, .int .i64 0, .int .i64 0, .int .i64 0, .slice none 0 0, .slice none 0 0, .slice none 0 0, .slice none 0 0, .slice none 0 0] 41 (0, 0)) from blk_below hb (by first | omega | (simp <;> omega)) HZ0.out)
      have hz1 : wB.heap.size ≤ w1.heap.size := by have := hb.size; simpa using this
      have HK1 := hide (fun (b : Nat) (h1 : w.heap.size + 2 ≤ b) (h2 : b < wB.heap.size) => show w1.heap[b]? = wB.heap[b]? from (hb.block b (by simpa using h2)).trans (rfl))
      have HB1 := hide (show Below w.heap.size w w1 from HB0.out.trans (Below.trans (by (repeat (first | (with_reducible first | exact Below.refl _ _ | assumption | refine Below.drew ?_) | ((with_reducible first | refine Below.alloc ?_ ?_ _ | refine Below.setCell ?_ ?_ _); rotate_left; (first | omega | (simp <;> omega)))))) (hb.mono (by first | omega | (simp <;> omega)))))
      clear c1 pf hc hN hb
      have c1 := (cell_of_cells HP1.out 1).trans (Y1.out)
      have c2 := (cell_of_cells HP1.out 17).trans (Y17.out)
      have pf := free_of_cells HP1.out
      have hlt1 : w.heap.size < w1.heap.size := by omega
      have c3 := c2
      clear c2
      go_wp2_with fail
      refine (HF17.out _ (HR17.out.below (HB1.out.trans (by (repeat (first | (with_reducible first | exact Below.refl _ _ | assumption | refine Below.drew ?_) | ((with_reducible first | refine Below.alloc ?_ ?_ _ | refine Below.setCell ?_ ?_ _); rotate_left; (first | omega | (simp <;> omega))))))))).mono ?_
      rintro r w2 ⟨B17, p17, D17, rfl, hc, hN, hb⟩
      have HC17 := hide hc
      have HN17 := hide hN
      have HP2 := hide (show w2.heap[w.heap.size]? = some (.cells (Y.setIfInBounds 1 (.slice B1 n1 p1)) 41 (0, 0)) from blk_below hb (by first | omega | (simp <;> omega)) (blk_setCell HP1.out))
      have HZ2 := hide (show w2.heap[w.heap.size + 1]? = some (.cells #[.slice none 0 0, .slice none 0 0, .slice none 0 0, .int .i64 0, .int .i64 0, .int .i64 0, .int .i64 0, .int .i64 0, .int .i64 0, .int .i64 0, .int .i64 0, .int .i64 0, .int .i64 0, .int .i64 0, .int .i64 0, .int .i64 0, .int .i64 0, .slice none 0 0, .slice none 0 0, .slice none 0 0, .slice none 0 0, .slice none 0 0] 41 (0, 0)) from blk_below hb (by first | omega | (simp <;> omega)) (blk_setOther (by simp) HZ1.out))
      have hz2 : w1.heap.size ≤ w2.heap.size := by have := hb.size; simpa using this
      have HK2 := hide (fun (b : Nat) (h1 : w.heap.size + 2 ≤ b) (h2 : b < w1.heap.size) => show w2.heap[b]? = w1.heap[b]? from (hb.block b (by simpa using h2)).trans (Go.Deep.blk_setCell_other _ _ _ _ (by simp; omega)))
      have HB2 := hide (show Below w.heap.size w w2 from HB1.out.trans (Below.trans (by (repeat (first | (with_reducible first | exact Below.refl _ _ | assumption | refine Below.drew ?_) | ((with_reducible first | refine Below.alloc ?_ ?_ _ | refine Below.setCell ?_ ?_ _); rotate_left; (first | omega | (simp <;> omega)))))) (hb.mono (by first | omega | (simp <;> omega)))))
      clear c1 pf hc hN hb
      have c1 := (cell_of_cells HP2.out 17).trans (set_ne (by decide) (Y17.out))
      have c2 := (cell_of_cells HP2.out 19).trans (set_ne (by decide) (Y19.out))
      have pf := free_of_cells HP2.out
      have hlt2 : w.heap.size < w2.heap.size := by omega
      have c3 := c2
      clear c2
      go_wp2_with fail
      refine (HF19.out _ (HR19.out.below (HB2.out.trans (by (repeat (first | (with_reducible first | exact Below.refl _ _ | assumption | refine Below.drew ?_) | ((with_reducible first | refine Below.alloc ?_ ?_ _ | refine Below.setCell ?_ ?_ _); rotate_left; (first | omega | (simp <;> omega))))))))).mono ?_
      rintro r w3 ⟨B19, p19, D19, rfl, hc, hN, hb⟩
      have HC19 := hide hc
      have HN19 := hide hN
      have HP3 := hide (show w3.heap[w.heap.size]? = some (.cells ((Y.setIfInBounds 1 (.slice B1 n1 p1)).setIfInBounds 17 (.slice B17 n17 p17)) 41 (0, 0)) from blk_below hb (by first | omega | (simp <;> omega)) (blk_setCell HP2.out))
      have HZ3 := hide (show w3.heap[w.heap.size + 1]? = some (.cells #[.slice none 0 0, .slice none 0 0, .slice none 0 0, .int .i64 0, .int .i64 0, .int .i64 0, .int .i64 0, .int .i64 0, .int .i64 0, .int .i64 0, .int .i64 0, .int .i64 0, .int .i64 0, .int .i64 0, .int .i64 0, .int .i64 0, .int .i64 0, .slice none 0 0, .slice none 0 0, .slice none 0 0, .slice none 0 0, .slice none 0 0] 41 (0, 0)) from blk_below hb (by first | omega | (simp <;> omega)) (blk_setOther (by simp) HZ2.out))
      have hz3 : w2.heap.size ≤ w3.heap.size := by have := hb.size; simpa using this
      have HK3 := hide (fun (b : Nat) (h1 : w.heap.size + 2 ≤ b) (h2 : b < w2.heap.size) => show w3.heap[b]? = w2.heap[b]? from (hb.block b (by simpa using h2)).trans (Go.Deep.blk_setCell_other _ _ _ _ (by simp; omega)))
      have HB3 := hide (show Below w.heap.size w w3 from HB2.out.trans (Below.trans (by (repeat (first | (with_reducible first | exact Below.refl _ _ | assumption | refine Below.drew ?_) | ((with_reducible first | refine Below.alloc ?_ ?_ _ | refine Below.setCell ?_ ?_ _); rotate_left; (first | omega | (simp <;> omega)))))) (hb.mono (by first | omega | (simp <;> omega)))))
      clear c1 pf hc hN hb
      have c1 := (cell_of_cells HP3.out 19).trans (set_ne (by decide) (set_ne (by decide) (Y19.out)))
      have pf := free_of_cells HP3.out
      have hlt3 : w.heap.size < w3.heap.size := by omega
      have HFS := hide (show (((Y.setIfInBounds 1 (.slice B1 n1 p1)).setIfInBounds 17 (.slice B17 n17 p17)).setIfInBounds 19 (.slice B19 n19 p19)).size = 22 by simp [HYS.out])
      have HFO := hide (show (((Y.setIfInBounds 1 (.slice B1 n1 p1)).setIfInBounds 17 (.slice B17 n17 p17)).setIfInBounds 19 (.slice B19 n19 p19)).all (·.oneCell') = true from all_setZ (all_setZ (all_setZ HYO.out rfl) rfl) rfl)
      have HFI := hide (show (Tryd.prog.info? 41).map (·.size) = some (((Y.setIfInBounds 1 (.slice B1 n1 p1)).setIfInBounds 17 (.slice B17 n17 p17)).setIfInBounds 19 (.slice B19 n19 p19)).size by rw [HFS.out]; exact siz_B)
      have HZS := hide (show (#[.slice none 0 0, .slice none 0 0, .slice none 0 0, .int .i64 0, .int .i64 0, .int .i64 0, .int .i64 0, .int .i64 0, .int .i64 0, .int .i64 0, .int .i64 0, .int .i64 0, .int .i64 0, .int .i64 0, .int .i64 0, .int .i64 0, .int .i64 0, .slice none 0 0, .slice none 0 0, .slice none 0 0, .slice none 0 0, .slice none 0 0] : Array Value).size = (((Y.setIfInBounds 1 (.slice B1 n1 p1)).setIfInBounds 17 (.slice B17 n17 p17)).setIfInBounds 19 (.slice B19 n19 p19)).size from HFS.out.symm)
      have HX4 := hide (show (w3.setCell ⟨w.heap.size, 19, none⟩ (.slice B19 n19 p19)).heap[w.heap.size]? = some (.cells (((Y.setIfInBounds 1 (.slice B1 n1 p1)).setIfInBounds 17 (.slice B17 n17 p17)).setIfInBounds 19 (.slice B19 n19 p19)) 41 (0, 0)) from blk_setCell HP3.out)
      have HY4 := hide (show (w3.setCell ⟨w.heap.size, 19, none⟩ (.slice B19 n19 p19)).heap[w.heap.size + 1]? = some (.cells #[.slice none 0 0, .slice none 0 0, .slice none 0 0, .int .i64 0, .int .i64 0, .int .i64 0, .int .i64 0, .int .i64 0, .int .i64 0, .int .i64 0, .int .i64 0, .int .i64 0, .int .i64 0, .int .i64 0, .int .i64 0, .int .i64 0, .int .i64 0, .slice none 0 0, .slice none 0 0, .slice none 0 0, .slice none 0 0, .slice none 0 0] 41 (0, 0)) from blk_setOther (by simp) HZ3.out)
      go_wp2_with (first
        | (with_reducible refine wpList_load_row rfl 41 (.tmp 1) rfl w.heap.size rfl 41 (((Y.setIfInBounds 1 (.slice B1 n1 p1)).setIfInBounds 17 (.slice B17 n17 p17)).setIfInBounds 19 (.slice B19 n19 p19)) (0, 0) _ HX4.out Tryd.underlying41 rfl HFI.out ?_)
        | ((with_reducible refine wpList_store_newrow2 rfl 41 (.tmp 2) (.tmp 35) rfl rfl (w.heap.size + 1) (((Y.setIfInBounds 1 (.slice B1 n1 p1)).setIfInBounds 17 (.slice B17 n17 p17)).setIfInBounds 19 (.slice B19 n19 p19)) rfl rfl 41 #[.slice none 0 0, .slice none 0 0, .slice none 0 0, .int .i64 0, .int .i64 0, .int .i64 0, .int .i64 0, .int .i64 0, .int .i64 0, .int .i64 0, .int .i64 0, .int .i64 0, .int .i64 0, .int .i64 0, .int .i64 0, .int .i64 0, .int .i64 0, .slice none 0 0, .slice none 0 0, .slice none 0 0, .slice none 0 0, .slice none 0 0] HY4.out HFI.out HZS.out HFO.out ?_); intro w9 hb9 hs9 hx9 hk9))
      have hs9' : w9.heap.size = w3.heap.size := by rw [hs9]; simp
      have K3 := hide (fun (b : Nat) (h : w.heap.size + 2 ≤ b) (_ : b < w3.heap.size) => show w9.heap[b]? = w3.heap[b]? from (hk9 b (by omega)).trans (Go.Deep.blk_setCell_other _ _ _ _ (by simp; omega)))
      have K2 := hide (fun (b : Nat) (h : w.heap.size + 2 ≤ b) (h2 : b < w2.heap.size) => (K3.out b h (by omega)).trans (HK3.out b h h2))
      have K1 := hide (fun (b : Nat) (h : w.heap.size + 2 ≤ b) (h2 : b < w1.heap.size) => (K2.out b h (by omega)).trans (HK2.out b h h2))
      have K0 := hide (fun (b : Nat) (h : w.heap.size + 2 ≤ b) (h2 : b < wB.heap.size) => (K1.out b h (by omega)).trans (HK1.out b h h2))
      have hv : ∀ q, (Value.slice B18 n18 p18).ownBlock = some q → q < wB.heap.size := fun q hq => (HOW.out.lt q hq).2
      have R0 := av_keep HR0.out.1 (by omega) K0.out
      have R2 := av_keep HR2.out.1 (by omega) K0.out
      have R20 := av_keep HR20.out.1 (by omega) K0.out
      have R21 := av_keep HR21.out.1 (by omega) K0.out
      have R1 := av_keep (av_new (B := w.heap.size + 2) (N := wB.heap.size) (v := .slice B18 n18 p18) (HN1.out.mono (S' := New wB.heap.size w1) (fun b h => ⟨by have h3 := h.1; (try simp at h3); omega, h.2⟩) (fun _ _ => rfl)) (by omega) hv) (by omega) K1.out
      have R17 := av_keep (av_new (B := w.heap.size + 2) (N := w1.heap.size) (v := .slice B18 n18 p18) (HN17.out.mono (S' := New w1.heap.size w2) (fun b h => ⟨by have h3 := h.1; (try simp at h3); omega, h.2⟩) (fun _ _ => rfl)) (by omega) (fun q hq => by have := hv q hq; omega)) (by omega) K2.out
      have R19 := av_keep (av_new (B := w.heap.size + 2) (N := w2.heap.size) (v := .slice B18 n18 p18) (HN19.out.mono (S' := New w2.heap.size w3) (fun b h => ⟨by have h3 := h.1; (try simp at h3); omega, h.2⟩) (fun _ _ => rfl)) (by omega) (fun q hq => by have := hv q hq; omega)) (by omega) K3.out
      have RO := own_low (own_keepB HOW.out K0.out) (show w.heap.size ≤ w.heap.size + 2 by omega)
      have REL := hide (fun (k : Nat) (hk : k < n18) => show ElT (New w.heap.size w9) w9 9 (c18 k) (elA 9 C18 k) from ⟨elA_size 9 C18 k, (HR18.out.el HK18.out hk).ones, fun j hj => by rw [elA_getD _ _ _ _ hj]; exact leaf_any (by decide) HR18.out HK18.out hk hj⟩)
      obtain ⟨A', cap', hv', hcap', hrow'⟩ := own_rowZ (fun i _ => elA_size 9 C18 i) RO
      injection hv' with e1 e2 e3
      subst e1 e3
      have hD18 : (((Y.setIfInBounds 1 (.slice B1 n1 p1)).setIfInBounds 17 (.slice B17 n17 p17)).setIfInBounds 19 (.slice B19 n19 p19))[18]? = some (.slice B18 n18 p18) := set_ne (by decide) (set_ne (by decide) (set_ne (by decide) (by rw [HYE.out]; exact set_ne (by decide) (set_ne (by decide) (set_eq (n := 22) (by simp [HXS.out]) (by decide))))))
      have R18 : RowT (New w.heap.size w9) w9 9 B18 n18 c18 (fun k j => (elA 9 C18 k).getD j undef) := ⟨hrow', fun k j hk hj => (REL.out k hk).rd j hj⟩
      have SUB : ∀ b, Av (w.heap.size + 2) (.slice B18 n18 p18) w9 b → Av w.heap.size (.slice B18 n18 p18) w9 b := fun b h => ⟨⟨by have := h.1.1; omega, h.1.2⟩, h.2⟩
      have ALL : ∀ j, j < 22 → j ≠ 18 → ∃ v, (((Y.setIfInBounds 1 (.slice B1 n1 p1)).setIfInBounds 17 (.slice B17 n17 p17)).setIfInBounds 19 (.slice B19 n19 p19))[j]? = some v ∧ v.oneCell' = true ∧ (ck j).rd (Av w.heap.size (.slice B18 n18 p18) w9) w9 v := fun j hj hj18 => by
        match j, hj with
        | 0, _ => exact ⟨.slice B0 n0 p0, set_ne (by decide) (set_ne (by decide) (set_ne (by decide) (by rw [HYE.out]; exact set_ne (by decide) (set_ne (by decide) (set_ne (by decide) (set_ne (by decide) (set_eq (n := 22) (by simp [HXS.out]) (by decide)))))))), rfl, by rw [HQ0.out]; exact row_mk HR0.out.2 (R0.mono SUB (fun _ _ => rfl))⟩
        | 1, _ => exact ⟨.slice B1 n1 p1, set_ne (by decide) (set_ne (by decide) (set_eq (n := 22) HYS.out (by decide))), rfl, by rw [HQ1.out]; exact row_mk HC1.out (R1.mono SUB (fun _ _ => rfl))⟩
        | 2, _ => exact ⟨.slice B2 n2 p2, set_ne (by decide) (set_ne (by decide) (set_ne (by decide) (by rw [HYE.out]; exact set_ne (by decide) (set_ne (by decide) (set_ne (by decide) (set_eq (n := 22) (by simp [HXS.out]) (by decide))))))), rfl, by rw [HQ2.out]; exact row_mk HR2.out.2 (R2.mono SUB (fun _ _ => rfl))⟩
        | 3, _ => exact ⟨X.getD 3 undef, set_ne (by decide) (set_ne (by decide) (set_ne (by decide) (by rw [HYE.out]; exact set_ne (by decide) (set_ne (by decide) (set_ne (by decide) (set_ne (by decide) (set_ne (by decide) (getD_at (by rw [HXS.out]; decide))))))))), one_at HXS.out (by decide) HX.out.ones, rd_any (by decide) (HX.out.rd 3 (by decide)) (HW.out 3 (by decide))⟩
        | 4, _ => exact ⟨X.getD 4 undef, set_ne (by decide) (set_ne (by decide) (set_ne (by decide) (by rw [HYE.out]; exact set_ne (by decide) (set_ne (by decide) (set_ne (by decide) (set_ne (by decide) (set_ne (by decide) (getD_at (by rw [HXS.out]; decide))))))))), one_at HXS.out (by decide) HX.out.ones, rd_any (by decide) (HX.out.rd 4 (by decide)) (HW.out 4 (by decide))⟩
        | 5, _ => exact ⟨X.getD 5 undef, set_ne (by decide) (set_ne (by decide) (set_ne (by decide) (by rw [HYE.out]; exact set_ne (by decide) (set_ne (by decide) (set_ne (by decide) (set_ne (by decide) (set_ne (by decide) (getD_at (by rw [HXS.out]; decide))))))))), one_at HXS.out (by decide) HX.out.ones, rd_any (by decide) (HX.out.rd 5 (by decide)) (HW.out 5 (by decide))⟩
        | 6, _ => exact ⟨X.getD 6 undef, set_ne (by decide) (set_ne (by decide) (set_ne (by decide) (by rw [HYE.out]; exact set_ne (by decide) (set_ne (by decide) (set_ne (by decide) (set_ne (by decide) (set_ne (by decide) (getD_at (by rw [HXS.out]; decide))))))))), one_at HXS.out (by decide) HX.out.ones, rd_any (by decide) (HX.out.rd 6 (by decide)) (HW.out 6 (by decide))⟩
        | 7, _ => exact ⟨X.getD 7 undef, set_ne (by decide) (set_ne (by decide) (set_ne (by decide) (by rw [HYE.out]; exact set_ne (by decide) (set_ne (by decide) (set_ne (by decide) (set_ne (by decide) (set_ne (by decide) (getD_at (by rw [HXS.out]; decide))))))))), one_at HXS.out (by decide) HX.out.ones, rd_any (by decide) (HX.out.rd 7 (by decide)) (HW.out 7 (by decide))⟩
        | 8, _ => exact ⟨X.getD 8 undef, set_ne (by decide) (set_ne (by decide) (set_ne (by decide) (by rw [HYE.out]; exact set_ne (by decide) (set_ne (by decide) (set_ne (by decide) (set_ne (by decide) (set_ne (by decide) (getD_at (by rw [HXS.out]; decide))))))))), one_at HXS.out (by decide) HX.out.ones, rd_any (by decide) (HX.out.rd 8 (by decide)) (HW.out 8 (by decide))⟩
        | 9, _ => exact ⟨X.getD 9 undef, set_ne (by decide) (set_ne (by decide) (set_ne (by decide) (by rw [HYE.out]; exact set_ne (by decide) (set_ne (by decide) (set_ne (by decide) (set_ne (by decide) (set_ne (by decide) (getD_at (by rw [HXS.out]; decide))))))))), one_at HXS.out (by decide) HX.out.ones, rd_any (by decide) (HX.out.rd 9 (by decide)) (HW.out 9 (by decide))⟩
        | 10, _ => exact ⟨X.getD 10 undef, set_ne (by decide) (set_ne (by decide) (set_ne (by decide) (by rw [HYE.out]; exact set_ne (by decide) (set_ne (by decide) (set_ne (by decide) (set_ne (by decide) (set_ne (by decide) (getD_at (by rw [HXS.out]; decide))))))))), one_at HXS.out (by decide) HX.out.ones, rd_any (by decide) (HX.out.rd 10 (by decide)) (HW.out 10 (by decide))⟩
        | 11, _ => exact ⟨X.getD 11 undef, set_ne (by decide) (set_ne (by decide) (set_ne (by decide) (by rw [HYE.out]; exact set_ne (by decide) (set_ne (by decide) (set_ne (by decide) (set_ne (by decide) (set_ne (by decide) (getD_at (by rw [HXS.out]; decide))))))))), one_at HXS.out (by decide) HX.out.ones, rd_any (by decide) (HX.out.rd 11 (by decide)) (HW.out 11 (by decide))⟩
        | 12, _ => exact ⟨X.getD 12 undef, set_ne (by decide) (set_ne (by decide) (set_ne (by decide) (by rw [HYE.out]; exact set_ne (by decide) (set_ne (by decide) (set_ne (by decide) (set_ne (by decide) (set_ne (by decide) (getD_at (by rw [HXS.out]; decide))))))))), one_at HXS.out (by decide) HX.out.ones, rd_any (by decide) (HX.out.rd 12 (by decide)) (HW.out 12 (by decide))⟩
        | 13, _ => exact ⟨X.getD 13 undef, set_ne (by decide) (set_ne (by decide) (set_ne (by decide) (by rw [HYE.out]; exact set_ne (by decide) (set_ne (by decide) (set_ne (by decide) (set_ne (by decide) (set_ne (by decide) (getD_at (by rw [HXS.out]; decide))))))))), one_at HXS.out (by decide) HX.out.ones, rd_any (by decide) (HX.out.rd 13 (by decide)) (HW.out 13 (by decide))⟩
        | 14, _ => exact ⟨X.getD 14 undef, set_ne (by decide) (set_ne (by decide) (set_ne (by decide) (by rw [HYE.out]; exact set_ne (by decide) (set_ne (by decide) (set_ne (by decide) (set_ne (by decide) (set_ne (by decide) (getD_at (by rw [HXS.out]; decide))))))))), one_at HXS.out (by decide) HX.out.ones, rd_any (by decide) (HX.out.rd 14 (by decide)) (HW.out 14 (by decide))⟩
        | 15, _ => exact ⟨X.getD 15 undef, set_ne (by decide) (set_ne (by decide) (set_ne (by decide) (by rw [HYE.out]; exact set_ne (by decide) (set_ne (by decide) (set_ne (by decide) (set_ne (by decide) (set_ne (by decide) (getD_at (by rw [HXS.out]; decide))))))))), one_at HXS.out (by decide) HX.out.ones, rd_any (by decide) (HX.out.rd 15 (by decide)) (HW.out 15 (by decide))⟩
        | 16, _ => exact ⟨X.getD 16 undef, set_ne (by decide) (set_ne (by decide) (set_ne (by decide) (by rw [HYE.out]; exact set_ne (by decide) (set_ne (by decide) (set_ne (by decide) (set_ne (by decide) (set_ne (by decide) (getD_at (by rw [HXS.out]; decide))))))))), one_at HXS.out (by decide) HX.out.ones, rd_any (by decide) (HX.out.rd 16 (by decide)) (HW.out 16 (by decide))⟩
        | 17, _ => exact ⟨.slice B17 n17 p17, set_ne (by decide) (set_eq (n := 22) (by simp [HYS.out]) (by decide)), rfl, by rw [HQ17.out]; exact row_mk HC17.out (R17.mono SUB (fun _ _ => rfl))⟩
        | 18, _ => exact absurd rfl hj18
        | 19, _ => exact ⟨.slice B19 n19 p19, set_eq (n := 22) (by simp [HYS.out]) (by decide), rfl, by rw [HQ19.out]; exact row_mk HC19.out (R19.mono SUB (fun _ _ => rfl))⟩
        | 20, _ => exact ⟨.slice B20 n20 p20, set_ne (by decide) (set_ne (by decide) (set_ne (by decide) (by rw [HYE.out]; exact set_ne (by decide) (set_eq (n := 22) (by simp [HXS.out]) (by decide))))), rfl, by rw [HQ20.out]; exact row_mk HR20.out.2 (R20.mono SUB (fun _ _ => rfl))⟩
        | 21, _ => exact ⟨.slice B21 n21 p21, set_ne (by decide) (set_ne (by decide) (set_ne (by decide) (by rw [HYE.out]; exact set_eq (n := 22) (by simp [HXS.out]) (by decide)))), rfl, by rw [HQ21.out]; exact row_mk HR21.out.2 (R21.mono SUB (fun _ _ => rfl))⟩
        | j + 22, h => exact absurd h (by omega)
      have EL : ElT (New w.heap.size w9) w9 15 ck (((Y.setIfInBounds 1 (.slice B1 n1 p1)).setIfInBounds 17 (.slice B17 n17 p17)).setIfInBounds 19 (.slice B19 n19 p19)) := el_big HFS.out (fun j hj => by
        by_cases h18 : j = 18
        · subst h18
          exact ⟨_, hD18, rfl, by rw [HQ18.out]; exact row_mk hcap' R18⟩
        · obtain ⟨v, h1, h2, h3⟩ := ALL j hj h18
          exact ⟨v, h1, h2, h3.mono (fun b h => h.1) (fun _ _ => rfl)⟩)
      refine bodyPost_ret (v := .agg (((Y.setIfInBounds 1 (.slice B1 n1 p1)).setIfInBounds 17 (.slice B17 n17 p17)).setIfInBounds 19 (.slice B19 n19 p19))) (Go.results_cell_row (by rfl) _ _ (w.heap.size + 1) 41 (((Y.setIfInBounds 1 (.slice B1 n1 p1)).setIfInBounds 17 (.slice B17 n17 p17)).setIfInBounds 19 (.slice B19 n19 p19)) (0, 0) _ rfl hx9 Tryd.underlying41 rfl HFI.out) rfl ⟨(((Y.setIfInBounds 1 (.slice B1 n1 p1)).setIfInBounds 17 (.slice B17 n17 p17)).setIfInBounds 19 (.slice B19 n19 p19)), B18, n18, p18, c18, elA 9 C18, rfl, EL, hD18, HQ18.out, hcap', HK18.out, RO, REL.out, fun j hj h18 => ?_, ?_⟩
      · obtain ⟨v, h1, _, h3⟩ := ALL j hj h18
        rw [getD_of h1]; exact h3
      · exact HB3.out.trans (Below.trans (by (repeat (first | (with_reducible first | exact Below.refl _ _ | assumption | refine Below.drew ?_) | ((with_reducible first | refine Below.alloc ?_ ?_ _ | refine Below.setCell ?_ ?_ _); rotate_left; (first | omega | (simp <;> omega)))))) (hb9.mono (by omega)))
end Go.Proofs.YtdjhkhadjmndoaaDoor
