/- Texts laid together: ExF. -/
import Derived.Test.YtdjlaiilngechaaGreatDoorXExO
import Derived.Test.YtdjlaiilngechaaGreatDoorXExE
import Derived.Test.YtdjlaiilngechaaGreatDoorXExR
namespace Go.Proofs.YtdjlaiilngechaaGreatDoor
set_option maxRecDepth 4000
set_option linter.unusedSimpArgs false
set_option linter.unusedVariables false
open Go.RowKit Go
attribute [local go_sem] Oper.semAt_some
/-- A line, and where its slices lie. -/
abbrev LnR := Lin × Option Addr × Nat
abbrev LinC (x : Lin) (A : Option Addr) (c : Nat) : Array Value := #[.int .i64 x.fr, .int .i64 x.tt, .int .i64 x.bl, .int .i64 x.we, .slice A x.sl.length c, .int .i64 (hiW x.gr), .int .u64 (loW x.gr)]
/-- A line's slices lie in memory that is younger than block g and not the caller's. -/
def rowOK (nb g : Nat) (W : World) (x : LnR) : Prop := 0 < x.1.sl.length → ∃ b off cs t fz, x.2.1 = some ⟨b, off, none⟩ ∧ g < b ∧ obW nb W ≠ some b ∧ W.heap[b]? = some (.cells cs t fz) ∧
 ∀ k, k < x.1.sl.length → cs[off + k * 2]? = some (.int .i64 (fsts x.1.sl k)) ∧ cs[off + k * 2 + 1]? = some (.int .i64 (snds x.1.sl k))
theorem rowOK.row2 {nb g : Nat} {W : World} {x : LnR} (h : rowOK nb g W x) : Row2 W x.2.1 x.1.sl.length (fsts x.1.sl) (snds x.1.sl) := fun hn => by
 obtain ⟨b, off, cs, t, fz, hA, hg, ho, hh, hc⟩ := h hn
 refine ⟨b, off, hA, heap_lt hh, fun k hk => ?_⟩
 rw [cell_of_cells hh, cell_of_cells hh]
 exact hc k hk
theorem cells_of_cell {W : World} {b o : Nat} {v : Value} (h : W.cell? ⟨b, o, none⟩ = some v) : ∃ cs t fz, W.heap[b]? = some (.cells cs t fz) := by
 unfold World.cell? at h
 split at h
 ·rename_i c t fz e
  exact ⟨c, t, fz, e⟩
 ·cases h
theorem obW_below {nb : Nat} {A B : World} (h : Below A.heap.size A B) (hn : nb < A.heap.size) : obW nb B = obW nb A := obW_of (h.block nb hn)
theorem obW_gb {nb g : Nat} {A B : World} (h : A.grownBy B (some g)) (hn : nb < A.heap.size) (hne : nb ≠ g) : obW nb B = obW nb A := obW_of (h.block nb hn fun e => hne (by cases e; rfl))
theorem rowOK.new {nb g : Nat} {A B : World} {x : Lin} {a : Option Addr} {c : Nat} (hr : Row2 B a x.sl.length (fsts x.sl) (snds x.sl)) (hf : 0 < x.sl.length → ∀ b off, a = some ⟨b, off, none⟩ → A.heap.size ≤ b) (hb : Below A.heap.size A B) (hn : nb < A.heap.size) (hg : g < A.heap.size)
  (ho : ∀ b, obW nb A = some b → b < A.heap.size) : rowOK nb g B (x, a, c) := fun hn0 => by
 obtain ⟨b, off, e, hlt, hc⟩ := hr hn0
 have hfb := hf hn0 b off e
 obtain ⟨cs, t, fz, hh⟩ := cells_of_cell (hc 0 hn0).1
 refine ⟨b, off, cs, t, fz, e, by omega, fun h => ?_, hh, fun k hk => ?_⟩
 ·rw [obW_below hb hn] at h
  have := ho b h
  omega
 ·have := hc k hk
  rw [cell_of_cells hh, cell_of_cells hh] at this
  exact this
theorem rowOK.kp {nb g : Nat} {A B : World} {x : LnR} (h : rowOK nb g A x) (hk : KpL nb A B) (hn : nb < g) : rowOK nb g B x := fun hn0 => by
 obtain ⟨b, off, cs, t, fz, hA, hg, ho, hh, hc⟩ := h hn0
 refine ⟨b, off, cs, t, fz, hA, hg, fun e => ?_, hk.same b cs t fz (by omega) ho hh, hc⟩
 rcases hk.own b e with e | e
 ·exact ho e
 ·exact absurd (heap_lt hh) (by omega)
theorem rowOK.gb {nb g : Nat} {A B : World} {x : LnR} (h : rowOK nb g A x) (hg : A.grownBy B (some g)) (hn : nb < A.heap.size) (hne : nb ≠ g) : rowOK nb g B x := fun hn0 => by
 obtain ⟨b, off, cs, t, fz, hA, hgb, ho, hh, hc⟩ := h hn0
 exact ⟨b, off, cs, t, fz, hA, hgb, by rw [obW_gb hg hn hne]; exact ho, (hg.block b (heap_lt hh) fun e => by cases e; omega).trans hh, hc⟩
/-- What holds between the iterator's steps. -/
structure LnB (nb g bj bb z : Nat) (w1 : World) (C : Array Value) (lA : Option Addr) (ln lc : Nat) (J : List LnR → World → Prop) (pre : List LnR) (W : World) : Prop where
 j : J pre W
 bel : Below nb w1 W
 bx : Boxed W bj 64 (.slice lA ln lc)
 bk : W.heap[bb]? = some (.cells C 33 (0, 0))
 own : ∀ b, obW nb W = some b → z ≤ b ∧ b < W.heap.size ∧ b ≠ g
 rows : ∀ x, x ∈ pre → rowOK nb g W x
theorem LnB.gb {nb g bj bb z B0 : Nat} {w1 W W' : World} {C : Array Value} {lA : Option Addr} {ln lc : Nat} {J : List LnR → World → Prop} {pre : List LnR} (h : LnB nb g bj bb z w1 C lA ln lc J pre W) (hJ : AbidesMine B0 (MineL nb) J) (hB : B0 ≤ g)
  (hnb : nb < bj) (hnb2 : nb < bb) (h1 : bj < z) (h2 : bb < z) (h3 : z ≤ g) {cs : Array Value} {t : TypeId} {fz : Nat × Nat} (hg : W.heap[g]? = some (.cells cs t fz)) (hgr : W.grownBy W' (some g)) : LnB nb g bj bb z w1 C lA ln lc J pre W' := by
 have hgs := heap_lt hg
 have ho := obW_gb (nb := nb) hgr (by omega) (by omega)
 refine ⟨mine_stay hJ h.j hB (by omega) (fun e => (h.own _ e).2.2 rfl) hg hgr, ?_, h.bx.kept hgr (fun e => by cases e; omega), (hgr.block bb (heap_lt h.bk) (fun e => by cases e; omega)).trans h.bk, fun b e => ?_, fun x hx => (h.rows x hx).gb hgr (by omega) (by omega)⟩
 ·exact ⟨hgr.os.trans h.bel.os, hgr.tape.trans h.bel.tape, hgr.output.trans h.bel.output, Nat.le_trans h.bel.size hgr.size, fun k hk => (hgr.block k (by omega) (fun e => by cases e; omega)).trans (h.bel.block k hk)⟩
 ·rw [ho] at e
  have t := h.own b e
  exact ⟨t.1, Nat.lt_of_lt_of_le t.2.1 hgr.size, t.2.2⟩
theorem LnB.yield {nb g bj bb z : Nat} {w1 W W' : World} {C : Array Value} {lA : Option Addr} {ln lc : Nat} {J : List LnR → World → Prop} {pre : List LnR} {x : LnR} (h : LnB nb g bj bb z w1 C lA ln lc J pre W) (hnb : nb < bj) (hnb2 : nb < bb) (h1 : bj < z) (h2 : bb < z) (h3 : z ≤ g) (hgs : g < W.heap.size)
  (hx : rowOK nb g W x) (hj : J (pre ++ [x]) W') (hk : KpL nb W W') : LnB nb g bj bb z w1 C lA ln lc J (pre ++ [x]) W' := by
 have no : ∀ b, b < z → obW nb W ≠ some b := fun b hb e => by have := h.own b e; omega
 refine ⟨hj, h.bel.trans hk.bel, hk.same _ _ _ _ (by omega) (no bj h1) h.bx, hk.same _ _ _ _ (by omega) (no bb h2) h.bk, fun b e => ?_, fun y hy => ?_⟩
 ·have hl := hk.lt (fun b e => (h.own b e).2.1) b e
  rcases hk.own b e with e2 | e2
  ·exact ⟨(h.own b e2).1, hl, (h.own b e2).2.2⟩
  ·exact ⟨by omega, hl, by omega⟩
 ·rcases List.mem_append.1 hy with hy | hy
  ·exact (h.rows y hy).kp hk (by omega)
  ·rw [List.mem_singleton.1 hy]; exact hx.kp hk (by omega)
/-- What has come before day k, and the line at hand. -/
def cumP (f : Nat → Lin) : Nat → List Lin × Lin
 | 0 => ([], zLin)
 | k + 1 => lnS f k
theorem cumP_len (f : Nat → Lin) : ∀ k, (cumP f k).1.length ≤ k
 | 0 => Nat.le_refl _
 | k + 1 => Nat.le_succ_of_le (lnS_len f k)
/-- Where the loop stands behind k days. -/
structure LnI (f : Nat → Lin) (nb g bj bb z : Nat) (w1 : World) (C : Array Value) (lA : Option Addr) (ln lc : Nat) (J : List LnR → World → Prop) (k : Nat) (pre : List LnR) (A : Option Addr) (c : Nat) (W : World) : Prop where
 b : LnB nb g bj bb z w1 C lA ln lc J pre W
 m : pre.map (·.1) = (cumP f k).1
 n : W.heap[g]? = some (.cells (LinC (cumP f k).2 A c) 58 (0, 0))
 r : rowOK nb g W ((cumP f k).2, A, c)
def LnO (f : Nat → Lin) (nb g bj bb z : Nat) (w1 : World) (C : Array Value) (lA : Option Addr) (ln lc : Nat) (J : List LnR → World → Prop) (v : Value) (W : World) : Prop :=
 ∃ (k : Nat) (pre : List LnR) (A : Option Addr) (c : Nat), k ≤ ln ∧ v = .int .i64 k ∧ LnI f nb g bj bb z w1 C lA ln lc J k pre A c W
theorem linC_zero : LinC zLin none 0 = #[.int .i64 0, .int .i64 0, .int .i64 0, .int .i64 0, .slice none 0 0, .int .i64 0, .int .u64 0] := by
 show #[_, _, _, _, _, Value.int .i64 (hiW 0), Value.int .u64 (loW 0)] = _
 rw [hi_zero, lo_zero]
 rfl
theorem line_store {w : World} {g : Nat} {x y : Lin} {A B : Option Addr} {c d : Nat} {t : TypeId} {fz : Nat × Nat} (h : w.heap[g]? = some (.cells (LinC y B d) t fz)) :
  (((((((w.setCell ⟨g, 0, none⟩ (.int .i64 x.fr)).setCell ⟨g, 1, none⟩ (.int .i64 x.tt)).setCell ⟨g, 2, none⟩ (.int .i64 x.bl)).setCell ⟨g, 3, none⟩ (.int .i64 x.we)).setCell ⟨g, 4, none⟩ (.slice A x.sl.length c)).setCell ⟨g, 5, none⟩ (.int .i64 (hiW x.gr))).setCell ⟨g, 6, none⟩ (.int .u64 (loW x.gr))).heap[g]? = some (.cells (LinC x A c) t fz) := by
 have e0 := blk_setCell (i := 0) (v := .int .i64 x.fr) h
 simp only [List.setIfInBounds_toArray, List.set_cons_zero, List.set_cons_succ] at e0
 have e1 := blk_setCell (i := 1) (v := .int .i64 x.tt) e0
 simp only [List.setIfInBounds_toArray, List.set_cons_zero, List.set_cons_succ] at e1
 have e2 := blk_setCell (i := 2) (v := .int .i64 x.bl) e1
 simp only [List.setIfInBounds_toArray, List.set_cons_zero, List.set_cons_succ] at e2
 have e3 := blk_setCell (i := 3) (v := .int .i64 x.we) e2
 simp only [List.setIfInBounds_toArray, List.set_cons_zero, List.set_cons_succ] at e3
 have e4 := blk_setCell (i := 4) (v := .slice A x.sl.length c) e3
 simp only [List.setIfInBounds_toArray, List.set_cons_zero, List.set_cons_succ] at e4
 have e5 := blk_setCell (i := 5) (v := .int .i64 (hiW x.gr)) e4
 simp only [List.setIfInBounds_toArray, List.set_cons_zero, List.set_cons_succ] at e5
 have e6 := blk_setCell (i := 6) (v := .int .u64 (loW x.gr)) e5
 simp only [List.setIfInBounds_toArray, List.set_cons_zero, List.set_cons_succ] at e6
 exact e6
theorem line_j1 {w : World} {g : Nat} {y : Lin} {B : Option Addr} {d : Nat} {t : TypeId} {fz : Nat × Nat} {u v : Int} (h : w.heap[g]? = some (.cells (LinC y B d) t fz)) :
  ((w.setCell ⟨g, 1, none⟩ (.int .i64 u)).setCell ⟨g, 3, none⟩ (.int .i64 v)).heap[g]? = some (.cells (LinC ⟨y.fr, u, y.bl, v, y.sl, y.gr⟩ B d) t fz) := by
 have e0 := blk_setCell (i := 1) (v := .int .i64 u) h
 simp only [List.setIfInBounds_toArray, List.set_cons_zero, List.set_cons_succ] at e0
 have e1 := blk_setCell (i := 3) (v := .int .i64 v) e0
 simp only [List.setIfInBounds_toArray, List.set_cons_zero, List.set_cons_succ] at e1
 exact e1
theorem line_j2 {w : World} {g : Nat} {y : Lin} {B : Option Addr} {d : Nat} {t : TypeId} {fz : Nat × Nat} {u : Int} (h : w.heap[g]? = some (.cells (LinC y B d) t fz)) :
  ((w.setCell ⟨g, 5, none⟩ (.int .i64 (hiW u))).setCell ⟨g, 6, none⟩ (.int .u64 (loW u))).heap[g]? = some (.cells (LinC ⟨y.fr, y.tt, y.bl, y.we, y.sl, u⟩ B d) t fz) := by
 have e0 := blk_setCell (i := 5) (v := .int .i64 (hiW u)) h
 simp only [List.setIfInBounds_toArray, List.set_cons_zero, List.set_cons_succ] at e0
 have e1 := blk_setCell (i := 6) (v := .int .u64 (loW u)) e0
 simp only [List.setIfInBounds_toArray, List.set_cons_zero, List.set_cons_succ] at e1
 exact e1
theorem cum_step (f : Nat → Lin) {k : Nat} (h : 0 < k) : cumP f (k + 1) = stepL (cumP f k) (f k) := by
 cases k with
 | zero => omega
 | succ j => rfl
theorem lnL_cum (f : Nat → Lin) {k : Nat} (h : 0 < k) : lnL f k = (cumP f k).1 ++ [(cumP f k).2] := by
 cases k with
 | zero => omega
 | succ j => rfl
theorem cumP_bd {f : Nat → Lin} {k : Nat} (h : ∀ i, i < k → LinB 1 (f i)) (hk : 0 < k) : LinB k (cumP f k).2 := by
 cases k with
 | zero => omega
 | succ j =>
  have := (lnS_bd (f := f) (k := j) (fun i hi => h i (by omega))).1
  show LinB _ (lnS f j).2
  simpa using this
set_option maxRecDepth 100000 in
set_option maxHeartbeats 8000000 in
theorem lines1_told (B : LBk) (hB : BkOK B) (nb bj bb : Nat) (lA : Option Addr) (ln lc : Nat) (L : Nat → LAcr) (hL : ∀ k, k < ln → AcrOk (L k) ∧ IIn (L k).bl) (hln : ln ≤ 200) (w1 W0 : World) (hw : BkIn w1 B) (hr : RowAcr w1 lA ln L) (h01 : Below nb w1 W0) (hnb : w1.heap.size ≤ nb) (hbj : nb < bj) (hbb : nb < bb) (hne : bj ≠ bb)
  (h1 : Boxed W0 bj 64 (.slice lA ln lc)) (h2 : W0.heap[bb]? = some (.cells B.C 33 (0, 0))) (hob : obW nb W0 = none) (n : Nat) (hn : 1 ≤ n) :
  SeqTold Fence.wide n Tryz.prog 47 #[.pointer (some ⟨bj, 0, none⟩), .pointer (some ⟨bb, 0, none⟩)] (fun x : LnR => #[LinV x.1 x.2.1 x.2.2]) (KpL nb) (MineL nb) (fun xs W => xs.map (·.1) = lnL (fun k => oneP B (L k)) ln ∧ ∀ x, x ∈ xs → Row2 W x.2.1 x.1.sl.length (fsts x.1.sl) (snds x.1.sl)) 200 W0 := by
 intro l J W hW hJ hK hY h0
 obtain ⟨f, hf⟩ : ∃ f, f = fun k => oneP B (L k) := ⟨_, rfl⟩
 rw [← hf]
 have HB := hide hB
 have HJ := hide hJ
 have HW := hide hw
 have HR := hide hr
 have HL := hide hL
 have HS := hide (bk_size hB)
 have HF := hide hf
 obtain ⟨z, hz⟩ : ∃ z, z = W0.heap.size := ⟨_, rfl⟩
 have z1 : bj < z := by rw [hz]; exact h1.lt
 have z2 : bb < z := by rw [hz]; exact heap_lt h2
 have z3 : z ≤ W.heap.size := by rw [hz]; exact hW.size
 have b1 := (hW.block bj h1.lt).trans h1
 have b2 := (hW.block bb (heap_lt h2)).trans h2
 have ho0 : ∀ b, obW nb W = some b → z ≤ b ∧ b < W.heap.size := fun b e => by
  refine ⟨?_, hK.lt (fun b e => by rw [hob] at e; cases e) b e⟩
  rcases hK.own b e with e | e
  ·rw [hob] at e; cases e
  ·omega
 have hA : LnI f nb W.heap.size bj bb z w1 B.C lA ln lc J 0 [] none 0 (W.alloc (.cells #[.int .i64 0, .int .i64 0, .int .i64 0, .int .i64 0, .slice none 0 0, .int .i64 0, .int .u64 0] 58)) := by
  have hgr := World.grownBy_alloc W (.cells #[.int .i64 0, .int .i64 0, .int .i64 0, .int .i64 0, .slice none 0 0, .int .i64 0, .int .u64 0] 58) none
  refine ⟨⟨HJ.out _ _ _ none h0 hgr (fun r e => by cases e), ?_, ?_, ?_, fun b e => ?_, fun x hx => by simp at hx⟩, rfl, ?_, fun hn => absurd hn (by simp [cumP, zLin])⟩
  ·exact (h01.trans hK.bel).alloc (by omega) _
  ·exact Boxed.alloc b1 _
  ·exact blk_under b2
  ·rw [obW_of (Below.heap_alloc _ _ _ (by omega))] at e
   have := ho0 b e
   simp
   omega
  ·show _ = some (Obj.cells (LinC zLin none 0) _ _)
   rw [linC_zero]
   exact blk_new rfl
 refine callsIn_of_wp Tryz.func47 rfl trivial ?_ rfl
 simp only [Tryz.ntmps47, List.size_toArray, List.length_cons, List.length_nil, Nat.reduceAdd, Nat.reduceSub, Array.replicate_succ, Array.replicate_zero, List.push_toArray, List.append_toArray, List.nil_append, List.cons_append]
 have hbjc := (show Boxed W bj 64 (.slice lA ln lc) from b1).cell
 have nW : ¬ W.heap.size = bj := by omega
 have nW2 : ¬ bj = W.heap.size := by omega
 have hbja := (Boxed.alloc (show Boxed W bj 64 (.slice lA ln lc) from b1) (.cells #[.int .i64 0, .int .i64 0, .int .i64 0, .int .i64 0, .slice none 0 0, .int .i64 0, .int .u64 0] 58)).cell
 gi_wp2
 gi_loopw [10] (fun v wr => LnO f nb W.heap.size bj bb z w1 B.C lA ln lc J v wr) (fun v _ => ln - (intOf v).toNat)
 case atStart => exact ⟨0, [], none, 0, Nat.zero_le _, rfl, hA⟩
 case round =>
  obtain ⟨k, pre, A, c, hk, rfl, hI⟩ := hrel
  have hBB := hI.b
  have hM := hI.m
  have hN := hI.n
  have hRW := hI.r
  clear hI hA hbjc hbja
  have hgs := heap_lt hN
  obtain ⟨cur, hcur⟩ : ∃ cur, cur = (cumP f k).2 := ⟨_, rfl⟩
  rw [← hcur] at hN hRW
  have hown := hBB.own
  by_cases hlt : k < ln
  ·have hm : (k : Int) < ln := by omega
   have hk0 : (0 : Int) ≤ k := by omega
   have HK := hide hlt
   obtain ⟨b, off, rfl, hbl, c0, c1, c2, c3, c4, c5, c6⟩ := (HR.out.below (hBB.bel.mono hnb)).at hlt
   have hone := fun (w : World) (hw : BkIn w B) => one_any B HB.out (L k) (HL.out k hlt).1 (HL.out k hlt).2 w hw
   obtain ⟨x, hx⟩ : ∃ x, x = oneP B (L k) := ⟨_, rfl⟩
   rw [← hx] at hone
   have HONE := hide hone
   clear hlt hk hone hL hB hw hr hJ
   have n1 : ¬ wr.heap.size = bb := by have := heap_lt hBB.bk; omega
   have n2 : ¬ wr.heap.size = W.heap.size := by omega
   gi_wp2_with (with_reducible refine wpListIn_load_row rfl 33 (.tmp 2) rfl bb rfl 33 B.C (0, 0) _ (blk_under hBB.bk) Tryz.underlying33 rfl HS.out ?_)
   have HX := hide hx
   have HCU := hide hcur
   clear hx hcur
   obtain ⟨wa, hwa⟩ : ∃ wa, wa = wr.alloc (.cells #[.int .i64 (L k).ac, .int .i64 (L k).dy, .int .i64 (L k).bl, .int .i64 (hiW (L k).cr), .int .u64 (loW (L k).cr), .int .i64 (hiW (L k).db), .int .u64 (loW (L k).db)] 61) := ⟨_, rfl⟩
   rw [← hwa]
   have gba : wr.grownBy wa (some W.heap.size) := by rw [hwa]; exact gb_alloc _ (gb_refl _ _)
   have hBa := hBB.gb HJ.out (Nat.le_refl _) hbj hbb z1 z2 z3 hN gba
   have hNa : wa.heap[W.heap.size]? = some (.cells (LinC cur A c) 58 (0, 0)) := by rw [hwa]; exact blk_under hN
   have hRa := hRW.gb gba (by omega) (by omega)
   have hsa : wr.heap.size < wa.heap.size := by rw [hwa]; simp
   clear hwa gba hRW
   refine ⟨trivial, (callsIn_wide.2 (HONE.out _ (HW.out.below (hBa.bel.mono hnb)))).mono ?_⟩
   rintro e w3 ⟨A', c', rfl, hrow, hb, hfr⟩
   have gb3 := gb_below (gb_refl wa W.heap.size) hb
   have hB3 := hBa.gb HJ.out (Nat.le_refl _) hbj hbb z1 z2 z3 hNa gb3
   have hN3 := blk_below hb (heap_lt hNa) hNa
   have hR3 := hRa.gb gb3 (by omega) (by omega)
   have hX3 := rowOK.new (nb := nb) (g := W.heap.size) (c := c') hrow hfr hb (by omega) (by omega) (fun b e => (hBa.own b e).2.1)
   have hs3 := hb.size
   clear hb hBa hNa hRa hrow hfr
   obtain ⟨w4, hw4⟩ : ∃ w4, w4 = w3.alloc (.cells (LinC x A' c') 58) := ⟨_, rfl⟩
   have gb4 : w3.grownBy w4 (some W.heap.size) := by rw [hw4]; exact gb_alloc _ (gb_refl _ _)
   have hB4 := hB3.gb HJ.out (Nat.le_refl _) hbj hbb z1 z2 z3 hN3 gb4
   have hN4 : w4.heap[W.heap.size]? = some (.cells (LinC cur A c) 58 (0, 0)) := by rw [hw4]; exact blk_under hN3
   have hR4 := hR3.gb gb4 (by omega) (by omega)
   have hX4 := hX3.gb gb4 (by omega) (by omega)
   have hH4 : w4.heap[w3.heap.size]? = some (.cells (LinC x A' c') 58 (0, 0)) := by rw [hw4]; exact blk_new rfl
   have hs4 : w3.heap.size < w4.heap.size := by rw [hw4]; simp
   have hw4' := hw4.symm
   have n4 : ¬ w3.heap.size = W.heap.size := by omega
   have n5 : ¬ W.heap.size = w3.heap.size := by omega
   have hO4 : ∀ b, obW nb w4 = some b → b < w3.heap.size := fun b e => by
    rw [obW_gb gb4 (by omega) (by omega)] at e
    exact (hB3.own b e).2.1
   clear hB3 hN3 hR3 hX3 gb3 gb4 hw4
   have y0 := cell_of_cells hN4 0
   have y1 := cell_of_cells hN4 1
   have y2 := cell_of_cells hN4 2
   have y3 := cell_of_cells hN4 3
   have y4 := cell_of_cells hN4 4
   have y5 := cell_of_cells hN4 5
   have y6 := cell_of_cells hN4 6
   have yf := free_of_cells hN4
   simp [go_sem] at y0 y1 y2 y3 y4 y5 y6
   have x0 := cell_of_cells hH4 0
   have x1 := cell_of_cells hH4 1
   have x2 := cell_of_cells hH4 2
   have x3 := cell_of_cells hH4 3
   have x4 := cell_of_cells hH4 4
   have x5 := cell_of_cells hH4 5
   have x6 := cell_of_cells hH4 6
   have xf := free_of_cells hH4
   simp [go_sem] at x0 x1 x2 x3 x4 x5 x6
   rcases Nat.eq_zero_or_pos k with hk1 | hk1
   ·subst hk1
    have HN1 := hide (show (cumP f (0 + 1)).2 = x from by rw [HX.out, HF.out]; rfl)
    have HM1 := hide (show pre.map (·.1) = (cumP f (0 + 1)).1 from hM)
    gi_wp2
    refine ⟨trivial, ?_⟩
    gi_wp2
    refine ⟨fun _ h => (by cases h), ?_⟩
    gi_wp2
    go_roundw
    case rel =>
     refine ⟨0 + 1, pre, A', c', by omega, by go_num, ?_, HM1.out, ?_, ?_⟩
     ·exact hB4.gb HJ.out (Nat.le_refl _) hbj hbb z1 z2 z3 hN4 (by repeat (first | with_reducible exact gb_refl _ _ | with_reducible refine gb_set ?_ | with_reducible refine gb_alloc _ ?_ | with_reducible refine gb_drew ?_))
     ·rw [HN1.out]; exact line_store hN4
     ·rw [HN1.out]; exact hX4.gb (by repeat (first | with_reducible exact gb_refl _ _ | with_reducible refine gb_set ?_ | with_reducible refine gb_alloc _ ?_ | with_reducible refine gb_drew ?_)) (by omega) (by omega)
    case measure => have := HK.out; simp [intOf]; omega
   ·have hkp : (0 : Int) < k := by omega
    have HK1 := hide hk1
    have HLB := hide (fun i hi => by have t := oneP_bd (B := B) (HL.out i hi).1; rw [show oneP B (L i) = f i from by rw [HF.out]] at t; exact t : ∀ i, i < ln → LinB 1 (f i))
    have hfx : f k = x := by rw [HX.out, HF.out]
    have HB1 := hide (show LinB (k + 1 : Int) (joinL cur x) ∧ LinB k cur ∧ LinB 1 x from by
     have t1 := cumP_bd (f := f) (k := k) (fun i hi => HLB.out i (by have := HK.out; omega)) hk1
     rw [← HCU.out] at t1
     have t2 := HLB.out k HK.out
     rw [hfx] at t2
     exact ⟨t1.join t2, t1, t2⟩)
    have hkl : k + 1 ≤ 200 := by have := HK.out; omega
    have HLEN := hide (show pre.length < 200 from by have t := congrArg List.length hM; rw [List.length_map] at t; have := cumP_len f k; omega)
    have HST := hide (show cumP f (k + 1) = stepL ((cumP f k).1, cur) x from by rw [cum_step f hk1, hfx, HCU.out])
    clear hfx hk1
    have NOG : W.heap.size ≠ nb := by omega
    have HXL := hide (show x.sl.length ≤ 140737488355328 from by rw [HX.out]; have t := (oneS_good (B := B) (id := (L k).ac) (day := (L k).dy) (HL.out k HK.out).2).1; show (oneS B _ _ _).length ≤ _; omega)
    by_cases hb0 : x.bl = cur.bl
    ·cases hsl : (x.sl == cur.sl) with
     | true =>
      have hbc : (x.bl == cur.bl) = true := beq_iff_eq.2 hb0
      have HN1 := hide (show cumP f (k + 1) = ((cumP f k).1, joinL cur x) from by rw [HST.out]; exact step_yes (fits_iff.2 ⟨hb0.symm, (beq_iff_eq.1 hsl).symm⟩))
      have HSL := hide hsl
      clear hb0
      have hwe : IntKind.i64.wrap (cur.we + x.we) = cur.we + x.we := by
       have t := (HB1.out.1.win (by omega)).2
       unfold IIn at t
       rw [IntKind.wrap_i64]
       simp only [joinL] at t
       omega
      have HFR := hide (show fitR (cur.gr + x.gr) = cur.gr + x.gr from fitR_of (HB1.out.1.win (by omega)).1)
      have HWc := hide (HB1.out.2.1.win (by omega)).1
      have HWx := hide (HB1.out.2.2.win (by omega)).1
      clear hsl
      gi_wp2
      refine ⟨trivial, (callsIn_wide.2 (eql_any A' A x.sl cur.sl c' c HXL.out _ hX4.row2 hR4.row2)).mono ?_⟩
      rintro e w5 ⟨rfl, hb⟩
      rw [HSL.out]
      have gb5 := gb_below (gb_refl w4 W.heap.size) hb
      have hB5 := hB4.gb HJ.out (Nat.le_refl _) hbj hbb z1 z2 z3 hN4 gb5
      have hN5 := blk_below hb (heap_lt hN4) hN4
      have hR5 := hR4.gb gb5 (by omega) (by omega)
      have hX5 := hX4.gb gb5 (by omega) (by omega)
      have hH5 := blk_below hb (heap_lt hH4) hH4
      have hO5 : ∀ b, obW nb w5 = some b → b < w3.heap.size := fun b e => hO4 b (by rw [obW_gb gb5 (by omega) (by omega)] at e; exact e)
      have hs5 := hb.size
      clear hb gb5 y0 y1 y2 y3 y4 y5 y6 yf x0 x1 x2 x3 x4 x5 x6 xf
      have y0 := cell_of_cells hN5 0
      have y1 := cell_of_cells hN5 1
      have y2 := cell_of_cells hN5 2
      have y3 := cell_of_cells hN5 3
      have y4 := cell_of_cells hN5 4
      have y5 := cell_of_cells hN5 5
      have y6 := cell_of_cells hN5 6
      have yf := free_of_cells hN5
      simp [go_sem] at y0 y1 y2 y3 y4 y5 y6
      have x0 := cell_of_cells hH5 0
      have x1 := cell_of_cells hH5 1
      have x2 := cell_of_cells hH5 2
      have x3 := cell_of_cells hH5 3
      have x4 := cell_of_cells hH5 4
      have x5 := cell_of_cells hH5 5
      have x6 := cell_of_cells hH5 6
      have xf := free_of_cells hH5
      simp [go_sem] at x0 x1 x2 x3 x4 x5 x6
      gi_wp2
      refine ⟨trivial, (callsIn_wide.2 (wadd_any cur.gr x.gr HWc.out HWx.out _)).mono ?_⟩
      rintro e w6 ⟨rfl, hb⟩
      rw [HFR.out]
      have gb6 : w5.grownBy w6 (some W.heap.size) := gb_below (by repeat (first | with_reducible exact gb_refl _ _ | with_reducible refine gb_set ?_ | with_reducible refine gb_alloc _ ?_ | with_reducible refine gb_drew ?_)) hb
      have hN6 := blk_below hb (by simp; exact heap_lt hN5) (line_j1 hN5)
      clear hb
      have y0 := cell_of_cells hN6 0
      have y1 := cell_of_cells hN6 1
      have y2 := cell_of_cells hN6 2
      have y3 := cell_of_cells hN6 3
      have y4 := cell_of_cells hN6 4
      have y5 := cell_of_cells hN6 5
      have y6 := cell_of_cells hN6 6
      have yf := free_of_cells hN6
      simp [go_sem] at y0 y1 y2 y3 y4 y5 y6
      gi_wp2
      go_roundw
      case rel =>
       refine ⟨k + 1, pre, A, c, by have := HK.out; omega, by go_num, ?_, ?_, ?_, ?_⟩
       ·exact hB5.gb HJ.out (Nat.le_refl _) hbj hbb z1 z2 z3 hN5 (by repeat (first | with_reducible exact gb6 | with_reducible refine gb_set ?_ | with_reducible refine gb_alloc _ ?_ | with_reducible refine gb_drew ?_))
       ·rw [hM, HN1.out]
       ·rw [HN1.out]; exact line_j2 hN6
       ·rw [HN1.out]; show rowOK nb W.heap.size _ (cur, A, c); exact hR5.gb (by repeat (first | with_reducible exact gb6 | with_reducible refine gb_set ?_ | with_reducible refine gb_alloc _ ?_ | with_reducible refine gb_drew ?_)) (by omega) (by omega)
      case measure => have := HK.out; simp [intOf]; omega
     | false =>
      have hbc : (x.bl == cur.bl) = true := beq_iff_eq.2 hb0
      have HN1 := hide (show cumP f (k + 1) = ((cumP f k).1 ++ [cur], x) from by
       rw [HST.out]
       refine step_no ?_
       cases hq : fitsL cur x with
       | false => rfl
       | true => rw [(fits_iff.1 hq).2] at hsl; simp at hsl)
      have HSL := hide hsl
      clear hsl hb0
      gi_wp2
      refine ⟨trivial, (callsIn_wide.2 (eql_any A' A x.sl cur.sl c' c HXL.out _ hX4.row2 hR4.row2)).mono ?_⟩
      rintro e w5 ⟨rfl, hb⟩
      rw [HSL.out]
      have gb5 := gb_below (gb_refl w4 W.heap.size) hb
      have hB5 := hB4.gb HJ.out (Nat.le_refl _) hbj hbb z1 z2 z3 hN4 gb5
      have hN5 := blk_below hb (heap_lt hN4) hN4
      have hR5 := hR4.gb gb5 (by omega) (by omega)
      have hX5 := hX4.gb gb5 (by omega) (by omega)
      have hH5 := blk_below hb (heap_lt hH4) hH4
      have hO5 : ∀ b, obW nb w5 = some b → b < w3.heap.size := fun b e => hO4 b (by rw [obW_gb gb5 (by omega) (by omega)] at e; exact e)
      have hs5 := hb.size
      clear hb gb5 y0 y1 y2 y3 y4 y5 y6 yf x0 x1 x2 x3 x4 x5 x6 xf
      have y0 := cell_of_cells hN5 0
      have y1 := cell_of_cells hN5 1
      have y2 := cell_of_cells hN5 2
      have y3 := cell_of_cells hN5 3
      have y4 := cell_of_cells hN5 4
      have y5 := cell_of_cells hN5 5
      have y6 := cell_of_cells hN5 6
      have yf := free_of_cells hN5
      simp [go_sem] at y0 y1 y2 y3 y4 y5 y6
      have x0 := cell_of_cells hH5 0
      have x1 := cell_of_cells hH5 1
      have x2 := cell_of_cells hH5 2
      have x3 := cell_of_cells hH5 3
      have x4 := cell_of_cells hH5 4
      have x5 := cell_of_cells hH5 5
      have x6 := cell_of_cells hH5 6
      have xf := free_of_cells hH5
      simp [go_sem] at x0 x1 x2 x3 x4 x5 x6
      have no5 : obW nb w5 ≠ some w3.heap.size := fun e => absurd (hO5 _ e) (by omega)
      have nog : obW nb w5 ≠ some W.heap.size := fun e => (hB5.own _ e).2.2 rfl
      obtain ⟨fn, tmps, assign, body, hy, hR⟩ := hY pre (cur, A, c) w5 hB5.j HLEN.out
      dsimp only at hy
      have HNO := hide (And.intro no5 nog)
      clear no5 nog hY
      gi_wp2
      refine hR.mono ?_
      rintro e w6 ⟨rfl, hJ3, hk3⟩
      have hB6 := hB5.yield hbj hbb z1 z2 z3 (by omega) hR5 hJ3 hk3
      have hN6 := hk3.same _ _ _ _ NOG HNO.out.2 hN5
      have hH6 := hk3.same _ _ _ _ (by omega) HNO.out.1 hH5
      have hX6 := hX5.kp hk3 (by omega)
      have hs6 := hk3.bel.size
      clear hy hR y0 y1 y2 y3 y4 y5 y6 yf x0 x1 x2 x3 x4 x5 x6 xf
      have y0 := cell_of_cells hN6 0
      have y1 := cell_of_cells hN6 1
      have y2 := cell_of_cells hN6 2
      have y3 := cell_of_cells hN6 3
      have y4 := cell_of_cells hN6 4
      have y5 := cell_of_cells hN6 5
      have y6 := cell_of_cells hN6 6
      have yf := free_of_cells hN6
      simp [go_sem] at y0 y1 y2 y3 y4 y5 y6
      have x0 := cell_of_cells hH6 0
      have x1 := cell_of_cells hH6 1
      have x2 := cell_of_cells hH6 2
      have x3 := cell_of_cells hH6 3
      have x4 := cell_of_cells hH6 4
      have x5 := cell_of_cells hH6 5
      have x6 := cell_of_cells hH6 6
      have xf := free_of_cells hH6
      simp [go_sem] at x0 x1 x2 x3 x4 x5 x6
      gi_wp2
      go_roundw
      case rel =>
       refine ⟨k + 1, pre ++ [(cur, A, c)], A', c', by have := HK.out; omega, by go_num, ?_, ?_, ?_, ?_⟩
       ·exact hB6.gb HJ.out (Nat.le_refl _) hbj hbb z1 z2 z3 hN6 (by repeat (first | with_reducible exact gb_refl _ _ | with_reducible refine gb_set ?_ | with_reducible refine gb_alloc _ ?_ | with_reducible refine gb_drew ?_))
       ·rw [List.map_append, hM, HN1.out]; rfl
       ·rw [HN1.out]; exact line_store hN6
       ·rw [HN1.out]; exact hX6.gb (by repeat (first | with_reducible exact gb_refl _ _ | with_reducible refine gb_set ?_ | with_reducible refine gb_alloc _ ?_ | with_reducible refine gb_drew ?_)) (by omega) (by omega)
      case measure => have := HK.out; simp [intOf]; omega
    ·have hbc : (x.bl == cur.bl) = false := beq_eq_false_iff_ne.2 hb0
     have HN1 := hide (show cumP f (k + 1) = ((cumP f k).1 ++ [cur], x) from by
      rw [HST.out]
      refine step_no ?_
      cases hq : fitsL cur x with
      | false => rfl
      | true => exact absurd (fits_iff.1 hq).1.symm hb0)
     clear hb0
     have no5 : obW nb w4 ≠ some w3.heap.size := fun e => absurd (hO4 _ e) (by omega)
     have nog : obW nb w4 ≠ some W.heap.size := fun e => (hB4.own _ e).2.2 rfl
     obtain ⟨fn, tmps, assign, body, hy, hR⟩ := hY pre (cur, A, c) w4 hB4.j HLEN.out
     dsimp only at hy
     have HNO := hide (And.intro no5 nog)
     clear no5 nog hY
     gi_wp2
     refine ⟨trivial, ?_⟩
     gi_wp2
     refine hR.mono ?_
     rintro e w6 ⟨rfl, hJ3, hk3⟩
     have hB6 := hB4.yield hbj hbb z1 z2 z3 (by omega) hR4 hJ3 hk3
     have hN6 := hk3.same _ _ _ _ NOG HNO.out.2 hN4
     have hH6 := hk3.same _ _ _ _ (by omega) HNO.out.1 hH4
     have hX6 := hX4.kp hk3 (by omega)
     have hs6 := hk3.bel.size
     clear hy hR y0 y1 y2 y3 y4 y5 y6 yf x0 x1 x2 x3 x4 x5 x6 xf
     have y0 := cell_of_cells hN6 0
     have y1 := cell_of_cells hN6 1
     have y2 := cell_of_cells hN6 2
     have y3 := cell_of_cells hN6 3
     have y4 := cell_of_cells hN6 4
     have y5 := cell_of_cells hN6 5
     have y6 := cell_of_cells hN6 6
     have yf := free_of_cells hN6
     simp [go_sem] at y0 y1 y2 y3 y4 y5 y6
     have x0 := cell_of_cells hH6 0
     have x1 := cell_of_cells hH6 1
     have x2 := cell_of_cells hH6 2
     have x3 := cell_of_cells hH6 3
     have x4 := cell_of_cells hH6 4
     have x5 := cell_of_cells hH6 5
     have x6 := cell_of_cells hH6 6
     have xf := free_of_cells hH6
     simp [go_sem] at x0 x1 x2 x3 x4 x5 x6
     gi_wp2
     go_roundw
     case rel =>
      refine ⟨k + 1, pre ++ [(cur, A, c)], A', c', by have := HK.out; omega, by go_num, ?_, ?_, ?_, ?_⟩
      ·exact hB6.gb HJ.out (Nat.le_refl _) hbj hbb z1 z2 z3 hN6 (by repeat (first | with_reducible exact gb_refl _ _ | with_reducible refine gb_set ?_ | with_reducible refine gb_alloc _ ?_ | with_reducible refine gb_drew ?_))
      ·rw [List.map_append, hM, HN1.out]; rfl
      ·rw [HN1.out]; exact line_store hN6
      ·rw [HN1.out]; exact hX6.gb (by repeat (first | with_reducible exact gb_refl _ _ | with_reducible refine gb_set ?_ | with_reducible refine gb_alloc _ ?_ | with_reducible refine gb_drew ?_)) (by omega) (by omega)
     case measure => have := HK.out; simp [intOf]; omega
  ·obtain rfl : k = ln := by omega
   clear hlt hk
   have hbjc := hBB.bx.cell
   rcases Nat.eq_zero_or_pos k with h0 | h0
   ·subst h0
    gi_wp2
    go_end0
    exact ⟨⟨_, rfl⟩, pre, ⟨hM, fun x hx => (hBB.rows x hx).row2⟩, hBB.j⟩
   ·have hkp : (0 : Int) < k := by omega
    have HLC := hide (show lnL f k = (cumP f k).1 ++ [cur] from by rw [lnL_cum f h0, hcur])
    have hlen : pre.length < 200 := by have t := congrArg List.length hM; rw [List.length_map] at t; have := (cumP_len f k); have t2 := congrArg List.length HLC.out; rw [List.length_append] at t2; have t3 := lnL_len f k; simp at t2; omega
    clear hcur h0
    have y0 := cell_of_cells hN 0
    have y1 := cell_of_cells hN 1
    have y2 := cell_of_cells hN 2
    have y3 := cell_of_cells hN 3
    have y4 := cell_of_cells hN 4
    have y5 := cell_of_cells hN 5
    have y6 := cell_of_cells hN 6
    have yf := free_of_cells hN
    simp [go_sem] at y0 y1 y2 y3 y4 y5 y6
    obtain ⟨fn, tmps, assign, body, hy, hR⟩ := hY pre (cur, A, c) wr hBB.j hlen
    dsimp only at hy
    clear hY hlen
    gi_wp2
    refine hR.mono ?_
    rintro e w6 ⟨rfl, hJ3, hk3⟩
    have hB6 := hBB.yield hbj hbb z1 z2 z3 hgs hRW hJ3 hk3
    gi_wp2
    go_end0
    refine ⟨⟨_, rfl⟩, pre ++ [(cur, A, c)], ⟨?_, fun x hx => (hB6.rows x hx).row2⟩, hJ3⟩
    rw [List.map_append, hM, HLC.out]
    rfl
end Go.Proofs.YtdjlaiilngechaaGreatDoor
