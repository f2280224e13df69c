/- Texts laid together: ExW Eug. -/
import Derived.Test.YtdjlaiilngechaaGreatDoorXExU
import Derived.Test.YtdjlaiilngechaaGreatDoorXAcM
import Derived.Deep.MidRow
import Derived.Test.YtdjlaiilngechaaGreatDoorXK0
namespace Go.Proofs.YtdjlaiilngechaaGreatDoor
set_option maxRecDepth 4000
set_option linter.unusedSimpArgs false
set_option linter.unusedVariables false
open Go.RowKit
theorem sl_info : (Tryz.prog.info? 99).map (fun i => (i.zero, i.size, i.bytes)) = some (some (.agg #[.int .i64 0, .int .i64 0]), 2, 16) := by kernel_rfl
/-- What Clone answers. -/
def ClsRet (n : Nat) (f g : Nat → Int) (w : World) (e : Ending) (w' : World) : Prop :=
 ∃ A c, e = .returned (.slice A n c) ∧ Row2 w' A n f g ∧ Below w.heap.size w w' ∧ (0 < n → ∀ b off, A = some ⟨b, off, none⟩ → w.heap.size ≤ b)
set_option maxHeartbeats 2000000 in
theorem cls_any (A : Option Addr) (n c : Nat) (f g : Nat → Int) (hn : n ≤ 1000000) (w : World) (hr : Row2 w A n f g) :
  Calls Tryz.prog 41 #[.slice A n c] w (ClsRet n f g w) := by
 cases A with
 | none =>
  have h0 : n = 0 := by
   rcases Nat.eq_zero_or_pos n with h | h
   ·exact h
   ·obtain ⟨_, _, e, _⟩ := hr h; cases e
  subst h0
  have he : ∀ w : World, (binOp .eql 56 (.slice none 0 c) (.slice none 0 0)).run Tryz.prog w = .ok (.bool true) w := fun _ => rfl
  go_enter Tryz.func41, Tryz.ntmps41
  go_wp2_with fail
  go_ret
  exact ⟨none, 0, rfl, fun h => absurd h (by simp), Below.refl _ _, fun h => absurd h (by simp)⟩
 | some ad =>
  obtain ⟨i0, hi0, hz00, hz1, hz2⟩ := info_parts sl_info
  have HS := hide (row2_S hr)
  clear hr
  have he : ∀ w : World, (binOp .eql 56 (.slice (some ad) n c) (.slice none 0 0)).run Tryz.prog w = .ok (.bool false) w := fun _ => rfl
  go_enter Tryz.func41, Tryz.ntmps41
  go_wp2_with (at_builtin; go_loud (refine wpList_append_rowS _ rfl (.tmp 5) (.tmp 6) 56 rfl w.heap.size 99 i0 (.agg #[.int .i64 0, .int .i64 0]) 2 16 Tryz.underlying56 hi0 hz00 hz1 hz2 rfl (by decide) _ 0 [] rfl (own_empty rfl (Nat.le_refl _)) (some ad) n c rfl (prC f g) (HS.out.below belT) (flat (prs f g n)) (by rw [flat_len, prs_len]) (flat_prs f g n) (flat_one_cell _) (by simp only [maxLen]; omega) (by omega) (by simp) ?_); intro A1 c1 w1 ho hg hk)
  have hb := below_grown (B := w.heap.size) hg (by simp) (fun k hk => Nat.le_of_eq (Option.some.inj hk))
  simp only [List.nil_append, Nat.zero_add] at ho
  go_ret
  exact ⟨A1, c1, rfl, own_prs ho, Below.trans belT hb, fun _ b off e => own_ge ho b (by rw [e]; rfl)⟩
/-! ### Whether a line lies in a list -/
def hasX (a : Lin) (y : Nat → LnR) : Nat → Bool
 | 0 => false
 | k + 1 => hasX a y k || eqLn a (y k).1
theorem hasX_iff {a : Lin} {y : Nat → LnR} : ∀ {n : Nat}, hasX a y n = true ↔ ∃ k, k < n ∧ eqLn a (y k).1 = true
 | 0 => ⟨fun h => (by cases h), fun ⟨k, h, _⟩ => absurd h (by omega)⟩
 | n + 1 => by
  unfold hasX
  rw [Bool.or_eq_true, hasX_iff (n := n)]
  constructor
  ·rintro (⟨k, h1, h2⟩ | h)
   ·exact ⟨k, by omega, h2⟩
   ·exact ⟨n, by omega, h⟩
  ·rintro ⟨k, h1, h2⟩
   rcases Nat.lt_or_ge k n with h | h
   ·exact .inl ⟨k, h, h2⟩
   ·obtain rfl : k = n := by omega
    exact .inr h2
theorem hasX_mono {a : Lin} {y : Nat → LnR} {k n : Nat} (h : k < n) (he : eqLn a (y k).1 = true) : hasX a y n = true := hasX_iff.2 ⟨k, h, he⟩
theorem diff1_any (a b : Lin) (A B : Option Addr) (c d p : Nat) (hl : a.sl.length ≤ 140737488355328) (w : World) (hp : w.heap[p]? = some (.cells (LinC a A c) 58 (0, 0))) (hr : Row2 w A a.sl.length (fsts a.sl) (snds a.sl)) (hs : Row2 w B b.sl.length (fsts b.sl) (snds b.sl)) :
  Calls Tryz.prog 39 #[LinV b B d, .pointer (some ⟨p, 0, none⟩)] w fun e w' => e = .returned (.bool (eqLn a b)) ∧ Below w.heap.size w w' := by
 have HR := hide (And.intro hr hs)
 have hpl := heap_lt hp
 have y0 := cell_of_cells hp 0
 have y1 := cell_of_cells hp 1
 have y2 := cell_of_cells hp 2
 have y3 := cell_of_cells hp 3
 have y4 := cell_of_cells hp 4
 have y5 := cell_of_cells hp 5
 have y6 := cell_of_cells hp 6
 simp [go_sem] at y0 y1 y2 y3 y4 y5 y6
 have n1 : ¬ w.heap.size = p := by omega
 clear hr hs hp
 go_enter Tryz.func39, Tryz.ntmps39
 go_wp2_with fail
 refine (same_any a b A B c d hl _ (HR.out.1.below belT) (HR.out.2.below belT)).mono ?_
 rintro e w1 ⟨rfl, hb⟩
 have q1B : Below w.heap.size w w1 := qB hb
 have q1z := hb.size
 try simp at q1z
 have q1t : w.heap.size ≤ w1.heap.size := (by omega)
 have q1o := belO q1B
 clear hb
 go_wp2_with fail
 go_ret
 exact ⟨rfl, by (repeat (first | (with_reducible first | exact Below.refl _ _ | assumption | refine Below.drew ?_) | ((with_reducible first | refine Below.alloc ?_ ?_ _ | refine Below.setCell ?_ ?_ _); rotate_left; (first | omega | (simp <;> omega)))))⟩
def IxI (a : Lin) (y : Nat → LnR) (n : Nat) (w : World) (v : Value) (wr : World) : Prop :=
 ∃ k : Nat, k ≤ n ∧ v = .int .i64 k ∧ hasX a y k = false ∧ Below w.heap.size w wr
set_option maxHeartbeats 4000000 in
theorem ixX_any (a : Lin) (A B : Option Addr) (c n d p : Nat) (y : Nat → LnR) (hl : a.sl.length ≤ 140737488355328) (hn : n ≤ 1000000) (w : World) (hp : w.heap[p]? = some (.cells (LinC a A c) 58 (0, 0))) (hr : Row2 w A a.sl.length (fsts a.sl) (snds a.sl)) (hs : RowLn w B n y) :
  Calls Tryz.prog 76 #[.slice B n d, .func (.func 39) #[] #[.pointer (some ⟨p, 0, none⟩)]] w fun e w' => (∃ i, e = .returned (.int .i64 i) ∧ decide (0 ≤ i) = hasX a y n) ∧ Below w.heap.size w w' := by
 have HR := hide (And.intro hr hs)
 have HP := hide hp
 have hpl := heap_lt hp
 clear hr hs hp
 go_enter Tryz.func76, Tryz.ntmps76
 go_wp2_with fail
 go_loopw [8] (fun v wr => IxI a y n w v wr) (fun v _ => n - (intOf v).toNat)
 case atStart => exact ⟨0, by omega, rfl, rfl, by (repeat (first | (with_reducible first | exact Below.refl _ _ | assumption | refine Below.drew ?_) | ((with_reducible first | refine Below.alloc ?_ ?_ _ | refine Below.setCell ?_ ?_ _); rotate_left; (first | omega | (simp <;> omega)))))⟩
 case round =>
  obtain ⟨k, hk, rfl, ha, hB⟩ := hrel
  have HA := hide ha
  clear ha
  have hzB := hB.size
  by_cases hlt : k < n
  ·obtain ⟨b1, o1, rfl, hb1, c0, c1, c2, c3, c4, c5, c6⟩ := (HR.out.2.below hB).at hlt
   have hm1 : (k : Int) < n := by omega
   have hm3 : (0 : Int) ≤ (k : Int) := by omega
   have HK := hide hlt
   have HSL := hide ((HR.out.2.below hB).sl k hlt)
   clear hlt hk
   go_wp2_with fail
   refine (diff1_any a (y k).1 A (y k).2.1 c (y k).2.2 p hl _ (blk_below hB hpl HP.out) (HR.out.1.below hB) HSL.out).mono ?_
   rintro e w1 ⟨rfl, hb⟩
   cases he : eqLn a (y k).1 with
   | true =>
    have HT := hide (hasX_mono HK.out he)
    clear he
    have q1B : Below wr.heap.size wr w1 := qB hb
    have q1z := hb.size
    try simp at q1z
    have q1t : wr.heap.size ≤ w1.heap.size := (by omega)
    have q1o := belO q1B
    clear hb
    go_wp2_with fail
    go_ret
    exact ⟨⟨_, rfl, by rw [HT.out]; exact decide_eq_true (by simp)⟩, by refine hB.trans (q1B.mono (by omega))⟩
   | false =>
    have HT := hide (show hasX a y (k + 1) = false from by unfold hasX; rw [HA.out, he]; rfl)
    clear he
    have q1B : Below wr.heap.size wr w1 := qB hb
    have q1z := hb.size
    try simp at q1z
    have q1t : wr.heap.size ≤ w1.heap.size := (by omega)
    have q1o := belO q1B
    clear hb
    go_wp2_with fail
    go_roundw
    case rel => exact ⟨k + 1, HK.out, by go_num, HT.out, by refine hB.trans (q1B.mono (by omega))⟩
    case measure => have := HK.out; simp [intOf]; omega
  ·obtain rfl : k = n := by omega
   clear hlt hk
   go_wp2_with fail
   go_ret
   exact ⟨⟨_, rfl, by rw [HA.out]; rfl⟩, hB⟩
theorem hasX_any (a : Lin) (A B : Option Addr) (c n d p : Nat) (y : Nat → LnR) (hl : a.sl.length ≤ 140737488355328) (hn : n ≤ 1000000) (w : World) (hp : w.heap[p]? = some (.cells (LinC a A c) 58 (0, 0))) (hr : Row2 w A a.sl.length (fsts a.sl) (snds a.sl)) (hs : RowLn w B n y) :
  Calls Tryz.prog 38 #[.slice B n d, .func (.func 39) #[] #[.pointer (some ⟨p, 0, none⟩)]] w fun e w' => e = .returned (.bool (hasX a y n)) ∧ Below w.heap.size w w' := by
 have H := hide (ixX_any a A B c n d p y hl hn w hp hr hs)
 clear hp hr hs
 go_enter Tryz.func38, Tryz.ntmps38
 go_wp2_with fail
 refine H.out.mono ?_
 rintro e w1 ⟨⟨i, rfl, hi⟩, hb⟩
 have q1B : Below w.heap.size w w1 := qB hb
 have q1z := hb.size
 try simp at q1z
 have q1t : w.heap.size ≤ w1.heap.size := (by omega)
 have q1o := belO q1B
 clear hb
 by_cases h : 0 ≤ i
 ·have h2 : decide (0 ≤ i) = true := decide_eq_true h
  have HI := hide (show hasX a y n = true from by rw [← hi, h2])
  clear hi
  go_wp2_with fail
  go_ret
  exact ⟨by rw [HI.out]; first | rfl | simp [*], q1B⟩
 ·have h2 : decide (0 ≤ i) = false := decide_eq_false h
  have h3 : i < 0 := by omega
  have HI := hide (show hasX a y n = false from by rw [← hi, h2])
  clear h hi
  go_wp2_with fail
  go_ret
  exact ⟨by rw [HI.out]; first | rfl | simp [*], q1B⟩
/-! ### Diff -/
/-- A line's slices lie in memory that the row v does not own. -/
def rowV (v : Value) (W : World) (x : LnR) : Prop := 0 < x.1.sl.length → ∃ b off cs t fz, x.2.1 = some ⟨b, off, none⟩ ∧ v.ownBlock ≠ some b ∧ W.heap[b]? = some (.cells cs t fz) ∧
 ∀ k, k < x.1.sl.length → cs[off + k * 2]? = some (.int .i64 (fsts x.1.sl k)) ∧ cs[off + k * 2 + 1]? = some (.int .i64 (snds x.1.sl k))
theorem rowV.row2 {v : Value} {W : World} {x : LnR} (h : rowV v W x) : Row2 W x.2.1 x.1.sl.length (fsts x.1.sl) (snds x.1.sl) := fun hn => by
 obtain ⟨b, off, cs, t, fz, hA, ho, hh, hc⟩ := h hn
 refine ⟨b, off, hA, heap_lt hh, fun k hk => ?_⟩
 rw [cell_of_cells hh, cell_of_cells hh]
 exact hc k hk
theorem rowV.gr {v v' : Value} {W W' : World} {x : LnR} (h : rowV v W x) (hg : W.grownBy W' v.ownBlock) (ho : v'.ownBlock = v.ownBlock ∨ ∃ k, v'.ownBlock = some k ∧ W.heap.size ≤ k) : rowV v' W' x := fun hn => by
 obtain ⟨b, off, cs, t, fz, hA, hb, hh, hc⟩ := h hn
 refine ⟨b, off, cs, t, fz, hA, fun e => ?_, (hg.block b (heap_lt hh) fun e => hb e.symm).trans hh, hc⟩
 rcases ho with e2 | ⟨k, e2, hk⟩
 ·exact hb (e2 ▸ e)
 ·rw [e2] at e
  cases e
  have := heap_lt hh
  omega
theorem rowV.new {v : Value} {W W' : World} {B : Nat} {x : Lin} {a : Option Addr} {c : Nat} (hr : Row2 W a x.sl.length (fsts x.sl) (snds x.sl)) (hf : 0 < x.sl.length → ∀ b off, a = some ⟨b, off, none⟩ → B ≤ b) (hs : ∀ b, B ≤ b → b < W.heap.size → W'.heap[b]? = W.heap[b]?)
  (ho : ∀ k, v.ownBlock = some k → k < B ∨ W.heap.size ≤ k) : rowV v W' (x, a, c) := fun hn => by
 obtain ⟨b, off, e, hlt, hc⟩ := hr hn
 have hfb := hf hn b off e
 obtain ⟨cs, t, fz, hh⟩ := cells_of_cell (hc 0 hn).1
 refine ⟨b, off, cs, t, fz, e, fun e2 => ?_, (hs b hfb hlt).trans hh, fun k hk => ?_⟩
 ·have := ho b e2
  omega
 ·have := hc k hk
  rw [cell_of_cells hh, cell_of_cells hh] at this
  exact this
theorem gr_refl (W : World) (r : Option Nat) : W.grownBy W r := ⟨rfl, rfl, rfl, Nat.le_refl _, fun _ _ _ => rfl⟩
theorem gr_below {W A B : World} {r : Option Nat} (h : W.grownBy A r) (hb : Below A.heap.size A B) : W.grownBy B r :=
 ⟨hb.os.trans h.os, hb.tape.trans h.tape, hb.output.trans h.output, Nat.le_trans h.size hb.size, fun k hk hn => (hb.block k (Nat.lt_of_lt_of_le hk h.size)).trans (h.block k hk hn)⟩
theorem gr_new {W A : World} {r : Option Nat} {b j : Nat} {v : Value} (h : W.grownBy A r) (hb : W.heap.size ≤ b) : W.grownBy (A.setCell ⟨b, j, none⟩ v) r := by
 refine ⟨h.os, h.tape, h.output, by simpa using h.size, fun k hk hn => ?_⟩
 rw [Below.heap_setCell _ _ _ _ (show k ≠ (⟨b, j, none⟩ : Addr).block from fun e => by simp at e; omega)]
 exact h.block k hk hn
theorem gr_alloc {W A : World} {r : Option Nat} (o : Obj) (h : W.grownBy A r) : W.grownBy (A.alloc o) r :=
 ⟨h.os, h.tape, h.output, by simp; have := h.size; omega, fun k hk hn => (Below.heap_alloc _ _ _ (Nat.lt_of_lt_of_le hk h.size)).trans (h.block k hk hn)⟩
def dfL (x y : Nat → LnR) (n : Nat) : Nat → List Lin
 | 0 => []
 | k + 1 => dfL x y n k ++ (if hasX (x k).1 y n = true then [] else [(x k).1])
theorem dfL_yes {x y : Nat → LnR} {n k : Nat} (h : hasX (x k).1 y n = true) : dfL x y n (k + 1) = dfL x y n k := by
 show _ ++ _ = _
 rw [if_pos h, List.append_nil]
theorem dfL_no {x y : Nat → LnR} {n k : Nat} (h : hasX (x k).1 y n = false) : dfL x y n (k + 1) = dfL x y n k ++ [(x k).1] := by
 show _ ++ _ = _
 rw [if_neg (by rw [h]; decide)]
theorem dfL_len {x y : Nat → LnR} {n : Nat} : ∀ k, (dfL x y n k).length ≤ k
 | 0 => Nat.le_refl _
 | k + 1 => by
  have := dfL_len (x := x) (y := y) (n := n) k
  cases h : hasX (x k).1 y n with
  | true => rw [dfL_yes h]; omega
  | false => rw [dfL_no h, List.length_append, List.length_singleton]; omega
def DfRet (l : List Lin) (w : World) (e : Ending) (w' : World) : Prop :=
 ∃ A c l', e = .returned (.slice A l'.length c) ∧ RowLn w' A l'.length (atX l') ∧ l'.map (·.1) = l ∧ Below w.heap.size w w'
def DfI (x y : Nat → LnR) (n m : Nat) (w : World) (v5 v : Value) (wr : World) : Prop :=
 ∃ (k : Nat) (A : Option Addr) (c : Nat) (l : List LnR), k ≤ m ∧ v = .int .i64 k ∧ v5 = .slice A l.length c ∧ wr.ownsRow w.heap.size 58 7 (.slice A l.length c) l.length (l.flatMap linLL) ∧
  (∀ z, z ∈ l → rowV (.slice A l.length c) wr z) ∧ l.map (·.1) = dfL x y n k ∧ Below w.heap.size w wr
set_option maxHeartbeats 8000000 in
theorem diff_any (A B : Option Addr) (n m c d : Nat) (x y : Nat → LnR) (hn : n ≤ 1000000) (hm : m ≤ 1000000) (hx : ∀ k, k < m → (x k).1.sl.length ≤ 1000000) (w : World) (hr : RowLn w A m x) (hs : RowLn w B n y) :
  Calls Tryz.prog 18 #[.slice B n d, .slice A m c] w (DfRet (dfL x y n m) w) := by
 have HR := hide (And.intro hr hs)
 have HX := hide hx
 clear hr hs hx
 obtain ⟨i0, hi0, hz00, hz1, hz2⟩ := info_parts line_info
 go_enter Tryz.func18, Tryz.ntmps18
 go_wp2_with fail
 go_loopw [5, 10] (fun v5 v wr => DfI x y n m w v5 v wr) (fun _ v _ => m - (intOf v).toNat)
 case atStart => exact ⟨0, none, 0, [], by omega, rfl, rfl, ⟨by simp, .inl ⟨rfl, rfl⟩⟩, fun z hz => by simp at hz, rfl, Below.refl _ _⟩
 case round =>
  obtain ⟨k, A1, c1, l, hk, rfl, rfl, ho, hv, hl, hB⟩ := hrel
  have HO := hide ho
  have HV := hide hv
  have HL := hide hl
  clear ho hv hl
  have hzB := hB.size
  by_cases hlt : k < m
  ·obtain ⟨b1, o1, rfl, hb1, c0, c1', c2, c3, c4, c5, c6⟩ := (HR.out.1.below hB).at hlt
   have hm1 : (k : Int) < m := by omega
   have hm3 : (0 : Int) ≤ (k : Int) := by omega
   have HK := hide hlt
   have HSL := hide ((HR.out.1.below hB).sl k hlt)
   have HXK := hide (HX.out k hlt)
   have HLN := hide (show l.length ≤ m from by have t := congrArg List.length HL.out; rw [List.length_map] at t; have := dfL_len (x := x) (y := y) (n := n) k; omega)
   clear hlt hk
   cases he : hasX (x k).1 y n with
   | true =>
    have HE := hide he
    have HT := hide (dfL_yes he)
    clear he
    go_wp2_with fail
    refine (hasX_any (x k).1 (x k).2.1 B (x k).2.2 n d wr.heap.size y (by have := HXK.out; omega) hn _ (blk_new rfl) (HSL.out.below belT) ((HR.out.2.below hB).below belT)).mono ?_
    rintro e w1 ⟨rfl, hb⟩
    rw [HE.out]
    have hgr := gr_below (gr_alloc (.cells (LinC (x k).1 (x k).2.1 (x k).2.2) 58) (gr_refl wr (Value.slice A1 l.length c1).ownBlock)) hb
    have q1B : Below wr.heap.size wr w1 := qB hb
    have q1z := hb.size
    try simp at q1z
    have q1t : wr.heap.size ≤ w1.heap.size := (by omega)
    have q1o := belO q1B
    clear hb
    go_wp2_with fail
    go_roundw
    case rel => exact ⟨k + 1, A1, c1, l, HK.out, by go_num, rfl, owns_below HO.out q1B, fun z hz => (HV.out z hz).gr hgr (.inl rfl), by rw [HL.out, HT.out], hB.trans (q1B.mono (by omega))⟩
    case measure => have := HK.out; simp [intOf]; omega
   | false =>
    have HE := hide he
    have HT := hide (dfL_no he)
    clear he
    go_wp2_with fail
    refine (hasX_any (x k).1 (x k).2.1 B (x k).2.2 n d wr.heap.size y (by have := HXK.out; omega) hn _ (blk_new rfl) (HSL.out.below belT) ((HR.out.2.below hB).below belT)).mono ?_
    rintro e w1 ⟨rfl, hb⟩
    rw [HE.out]
    have hgr := gr_below (gr_alloc (.cells (LinC (x k).1 (x k).2.1 (x k).2.2) 58) (gr_refl wr none)) hb
    have hN1 := blk_below (k := wr.heap.size) hb (by simp) (blk_new (o := .cells (LinC (x k).1 (x k).2.1 (x k).2.2) 58) rfl)
    have HS1 := hide (HSL.out.below (show Below wr.heap.size wr w1 from Below.trans belT (hb.mono (by simp))))
    have hs1 : wr.heap.size < w1.heap.size := by have := hb.size; simp at this; omega
    clear hb
    have y0 := cell_of_cells hN1 0
    have y1 := cell_of_cells hN1 1
    have y2 := cell_of_cells hN1 2
    have y3 := cell_of_cells hN1 3
    have y4 := cell_of_cells hN1 4
    have y5 := cell_of_cells hN1 5
    have y6 := cell_of_cells hN1 6
    simp [go_sem] at y0 y1 y2 y3 y4 y5 y6
    have HG1 := hide hgr
    clear hgr
    go_wp2_with fail
    refine (cls_any (x k).2.1 (x k).1.sl.length (x k).2.2 _ _ HXK.out _ HS1.out).mono ?_
    rintro e w2 ⟨A2, c2, rfl, hrow, hb, hfr⟩
    obtain ⟨v0, hv0⟩ : ∃ v0, v0 = Value.slice A1 l.length c1 := ⟨_, rfl⟩
    have hOB : ∀ q, v0.ownBlock = some q → q < wr.heap.size := fun q e => (HO.out.lt q (by rw [← hv0]; exact e)).2
    have hN2 := blk_below hb (heap_lt hN1) hN1
    have hs2 := hb.size
    have hgr2 := gr_below HG1.out hb
    have HB2 := hide (show Below wr.heap.size wr w2 from ⟨hgr2.os, hgr2.tape, hgr2.output, hgr2.size, fun q hq => hgr2.block q hq (by simp)⟩)
    clear hb hN1 y0 y1 y2 y3 y4 y5 y6
    have y0 := cell_of_cells hN2 0
    have y1 := cell_of_cells hN2 1
    have y2 := cell_of_cells hN2 2
    have y3 := cell_of_cells hN2 3
    have y4 := cell_of_cells hN2 4
    have y5 := cell_of_cells hN2 5
    have y6 := cell_of_cells hN2 6
    have yf := free_of_cells hN2
    simp [go_sem] at y0 y1 y2 y3 y4 y5 y6
    have hn2 : ¬ w2.heap.size = wr.heap.size := by omega
    have HOW := hide (show (w2.setCell ⟨wr.heap.size, 4, none⟩ (.slice A2 (x k).1.sl.length c2)).ownsRow w.heap.size 58 7 (.slice A1 l.length c1) l.length (l.flatMap linLL) from
     HO.out.kept (gr_new hgr2 (Nat.le_refl _)) (by cases (Value.slice A1 l.length c1).ownBlock <;> simp))
    have HFR := hide (And.intro hrow hfr)
    clear hrow hfr
    go_wp2_with (at_builtin; go_loud (refine wpList_append_own2 _ rfl (.tmp 22) (.tmp 24) 37 rfl w.heap.size 58 i0 (.agg #[.int .i64 0, .int .i64 0, .int .i64 0, .int .i64 0, .slice none 0 0, .int .i64 0, .int .u64 0]) 7 72 Tryz.underlying37 hi0 hz00 hz1 hz2 rfl (by decide) _ _ _ rfl (HOW.out.alloc _) ⟨w2.heap.size, 0, none⟩ 1 1 (linLL ((x k).1, A2, c2)) rfl rfl (news_new (cs := ⟨linLL ((x k).1, A2, c2)⟩) (by simp)) (ones_all rfl) (by have := HLN.out; simp only [maxLen]; omega) (by have := HLN.out; omega) (by simp; omega) ?_); intro A9 c9 w9 ho9 hg9 hv9)
    have hgr9 : wr.grownBy w9 (Value.slice A1 l.length c1).ownBlock := ((gr_alloc _ (gr_new hgr2 (Nat.le_refl _))).but _).trans hg9
    have hs9 := hg9.size
    simp at hs9
    have hvv : (Value.slice A9 (l.length + 1) c9).ownBlock = (Value.slice A1 l.length c1).ownBlock ∨ ∃ q, (Value.slice A9 (l.length + 1) c9).ownBlock = some q ∧ w2.heap.size ≤ q := by
     rcases hv9 with h | ⟨q, h, hq⟩
     ·exact .inl h
     ·simp at hq; exact .inr ⟨q, h, by omega⟩
    have hrx : rowV (.slice A9 (l.length + 1) c9) w9 ((x k).1, A2, c2) := by
     refine rowV.new (B := w1.heap.size) HFR.out.1 HFR.out.2 (fun q h1 h2 => ?_) (fun q e => ?_)
     ·rw [hg9.block q (by simp; omega) (fun e => by have := hOB q (by rw [hv0]; exact e.symm); omega), Below.heap_alloc _ _ _ (by simp; omega), Below.heap_setCell _ _ _ _ (show q ≠ (⟨wr.heap.size, 4, none⟩ : Addr).block by simp; omega)]
     ·rcases hvv with h | ⟨q2, h, hq⟩
      ·have := hOB q (by rw [hv0, ← h]; exact e); omega
      ·rw [h] at e; cases e; exact .inr hq
    go_roundw
    case rel =>
     refine ⟨k + 1, A9, c9, l ++ [((x k).1, A2, c2)], HK.out, by go_num, by rw [List.length_append]; rfl, ?_, fun z hz => ?_, ?_, ?_⟩
     ·rw [List.length_append, List.flatMap_append]; simpa using ho9
     ·rw [List.length_append]
      rcases List.mem_append.1 hz with hz | hz
      ·exact (HV.out z hz).gr hgr9 (hvv.imp id fun ⟨q, h1, h2⟩ => ⟨q, h1, by omega⟩)
      ·rw [List.mem_singleton.1 hz]; exact hrx
     ·rw [List.map_append, HL.out, HT.out]; rfl
     ·exact hB.trans ⟨hgr9.os, hgr9.tape, hgr9.output, hgr9.size, fun q hq => hgr9.block q (by omega) (fun e => by have := (HO.out.lt q e.symm).1; omega)⟩
    case measure => have := HK.out; simp [intOf]; omega
  ·obtain rfl : k = m := by omega
   clear hlt hk
   go_wp2_with fail
   go_ret
   obtain ⟨A3, c3, hv5, hrl⟩ := own_rowLn HO.out (fun z hz => (HV.out z hz).row2)
   exact ⟨A3, c3, l, by rw [← hv5]; rfl, hrl, HL.out, hB⟩
end Go.Proofs.YtdjlaiilngechaaGreatDoor
namespace Go.Proofs.YtdjlaiilngechaaGreatDoor
set_option maxRecDepth 4000
set_option linter.unusedSimpArgs false
set_option linter.unusedVariables false
open Go.RowKit
theorem own_cast {w : World} {base : Nat} {e : TypeId} {s n : Nat} {v : Value} {xs ys : List Value} (h : w.ownsRow base e s v n xs) (he : xs = ys) : w.ownsRow base e s v n ys := he ▸ h
theorem own_set {w : World} {base : Nat} {e : TypeId} {s g n c : Nat} {xs : List Value} (h : w.ownsRow base e s (.slice (some ⟨g, 0, none⟩) n c) n xs) (j : Nat) (u : Value) : (w.setCell ⟨g, j, none⟩ u).ownsRow base e s (.slice (some ⟨g, 0, none⟩) n c) n (xs.set j u) := by
 refine ⟨by rw [List.length_set]; exact h.1, ?_⟩
 rcases h.2 with ⟨e2, h0⟩ | ⟨g', cap, cur, hv, hb, hh, h3, h4, h5, h6⟩
 ·cases e2
 ·injection hv with e1 _ e3
  injection e1 with e1
  injection e1 with e1
  subst e1 e3
  refine .inr ⟨g, c, cur.setIfInBounds j u, rfl, hb, blk_setCell hh, h3, h4, by simp [h5], ?_⟩
  rw [Array.toList_setIfInBounds, List.take_set, h6]
theorem own_ptr {w : World} {base : Nat} {e : TypeId} {s n c : Nat} {A : Option Addr} {xs : List Value} (h : w.ownsRow base e s (.slice A n c) n xs) (hn : 0 < n) : ∃ g, A = some ⟨g, 0, none⟩ ∧ base ≤ g ∧ g < w.heap.size ∧ ∀ o, w.frozen? ⟨g, o, none⟩ = false := by
 rcases h.2 with ⟨_, h0⟩ | ⟨g, cap, cur, hv, hb, hh, _⟩
 ·omega
 ·injection hv with e1
  exact ⟨g, e1, hb, heap_lt hh, fun o => free_of_cells hh o⟩
theorem own_there {w : World} {base : Nat} {e : TypeId} {s g n c : Nat} {xs : List Value} (h : w.ownsRow base e s (.slice (some ⟨g, 0, none⟩) n c) n xs) {o k : Nat} (hk : o + k ≤ n * s) : w.there g o k := by
 rcases h.2 with ⟨e2, h0⟩ | ⟨g', cap, cur, hv, hb, hh, h3, h4, h5, h6⟩
 ·cases e2
 ·injection hv with e1 _ e3
  injection e1 with e1
  injection e1 with e1
  subst e1 e3
  intro j hj
  have hc : n * s ≤ c * s := Nat.mul_le_mul_right s h3
  refine ⟨?_, free_of_cells hh _⟩
  rw [cell_of_cells hh, Array.getElem?_eq_getElem (by omega)]
  rfl
theorem own_sets {base : Nat} {e : TypeId} {s g n c : Nat} : ∀ {vs old p : List Value} {o : Nat} {w : World}, w.ownsRow base e s (.slice (some ⟨g, 0, none⟩) n c) n (p ++ old) → o = p.length → vs.length = old.length → (w.setCells g o vs).ownsRow base e s (.slice (some ⟨g, 0, none⟩) n c) n (p ++ vs)
 | [], [], _, _, _, h, _, _ => h
 | [], _ :: _, _, _, _, _, _, hl => by cases hl
 | _ :: _, [], _, _, _, _, _, hl => by cases hl
 | v :: r, u :: old, p, o, w, h, ho, hl => by
  have h1 := own_set h o v
  have e1 : (p ++ u :: old).set o v = (p ++ [v]) ++ old := by
   rw [ho]
   simp [List.set_append]
  rw [e1] at h1
  have h2 := own_sets (vs := r) (old := old) (p := p ++ [v]) (o := o + 1) h1 (by rw [List.length_append, ho]; rfl) (by simpa using hl)
  rw [List.append_assoc] at h2
  exact h2
theorem below_sets {B g : Nat} {a : World} (hg : B ≤ g) : ∀ {vs : List Value} {o : Nat} {w : World}, Below B a w → Below B a (w.setCells g o vs)
 | [], _, _, h => h
 | v :: r, o, w, h => below_sets hg (vs := r) (o := o + 1) (Below.setCell h (p := ⟨g, o, none⟩) hg v)
theorem gr_own {W A : World} {g j : Nat} {v : Value} (h : W.grownBy A (some g)) : W.grownBy (A.setCell ⟨g, j, none⟩ v) (some g) := by
 refine ⟨h.os, h.tape, h.output, by simpa using h.size, fun k hk hn => ?_⟩
 rw [Below.heap_setCell _ _ _ _ (show k ≠ (⟨g, j, none⟩ : Addr).block from fun e => hn (by rw [e]))]
 exact h.block k hk hn
theorem gr_sets {W : World} {g : Nat} : ∀ {vs : List Value} {o : Nat} {A : World}, W.grownBy A (some g) → W.grownBy (A.setCells g o vs) (some g)
 | [], _, _, h => h
 | v :: r, o, A, h => gr_sets (vs := r) (o := o + 1) (gr_own (j := o) (v := v) h)
theorem last_of {l : List LnR} {p : List Lin} {q : Lin} (h : l.map (·.1) = p ++ [q]) : ∃ l0 z, l = l0 ++ [z] ∧ l0.map (·.1) = p ∧ z.1 = q := by
 obtain ⟨l1, l2, rfl, h1, h2⟩ := List.map_eq_append_iff.1 h
 obtain ⟨z, rfl, hz⟩ := List.map_eq_singleton_iff.1 h2
 exact ⟨l1, z, rfl, h1, hz⟩
theorem atX_last (l : List LnR) (z : LnR) : atX (l ++ [z]) l.length = z := by
 unfold atX
 simp [List.getD_eq_getElem?_getD]
theorem flat7_len (l : List LnR) : (l.flatMap linLL).length = l.length * 7 := by
 induction l with
 | nil => rfl
 | cons x l ih => rw [List.flatMap_cons, List.length_append, ih, linLL_len, List.length_cons]; omega
/-- The lines behind one more day. -/
theorem lnL_no {f : Nat → Lin} {j : Nat} (h : fitsL (lnS f j).2 (f (j + 1)) = false) : lnL f (j + 2) = lnL f (j + 1) ++ [f (j + 1)] := by
 show (lnS f (j + 1)).1 ++ [(lnS f (j + 1)).2] = (lnS f j).1 ++ [(lnS f j).2] ++ [f (j + 1)]
 rw [lnS_succ, step_no h]
theorem lnL_yes {f : Nat → Lin} {j : Nat} (h : fitsL (lnS f j).2 (f (j + 1)) = true) : lnL f (j + 2) = (lnS f j).1 ++ [joinL (lnS f j).2 (f (j + 1))] := by
 show (lnS f (j + 1)).1 ++ [(lnS f (j + 1)).2] = _
 rw [lnS_succ, step_yes h]
end Go.Proofs.YtdjlaiilngechaaGreatDoor
