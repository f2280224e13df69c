/- Texts laid together: AcC AcD AcE. -/
import Derived.Test.YtdjlaiilngechaaGreatDoorXAcM
import Derived.Test.YtdjlaiilngechaaGreatDoorXStA
import Derived.RangeFuncNested
import Derived.RangeFuncBound
import Derived.RangeFuncCalls
import Derived.RangeFuncLeaves
import Derived.Shelf.Abstract
import Derived.Shelf.RegionOpen
import Derived.WalkKit
import Derived.OwnWalkIn
import Derived.TacticsInMore
import Derived.LoopNIn
import Derived.LoopIn
namespace Go.Proofs.YtdjlaiilngechaaGreatDoor
set_option maxRecDepth 4000
set_option linter.unusedSimpArgs false
set_option linter.unusedVariables false
open Go.RowKit Go.Shelf
attribute [local go_sem] Oper.semAt_some
/-- The legs of an account among the first i of entry k; among the first k entries. -/
def toL (E : Nat → LEnt) (id : Int) (k : Nat) : Nat → List (Nat × Nat)
 | 0 => []
 | i + 1 => toL E id k i ++ (if ((E k).legs i).ac = id then [(k, i)] else [])
def toE (E : Nat → LEnt) (id : Int) : Nat → List (Nat × Nat)
 | 0 => []
 | k + 1 => toE E id k ++ toL E id k (E k).ln
theorem toL_len (E : Nat → LEnt) (id : Int) (k : Nat) : ∀ i, (toL E id k i).length ≤ i
 | 0 => Nat.le_refl _
 | i + 1 => by
  have := toL_len E id k i
  unfold toL
  rw [List.length_append]
  split <;> simp <;> omega
theorem toE_len (E : Nat → LEnt) (id : Int) : ∀ n, (∀ k, k < n → (E k).ln ≤ 1000000) → (toE E id n).length ≤ n * 1000000
 | 0, _ => Nat.le_refl _
 | n + 1, h => by
  have := toE_len E id n (fun k hk => h k (by omega))
  have := toL_len E id n (E n).ln
  have := h n (by omega)
  unfold toE
  rw [List.length_append]
  omega
theorem toL_yes {E : Nat → LEnt} {id : Int} {k i : Nat} (h : ((E k).legs i).ac = id) : toL E id k (i + 1) = toL E id k i ++ [(k, i)] := by
 show toL E id k i ++ (if _ then _ else _) = _
 rw [if_pos h]
theorem toL_no {E : Nat → LEnt} {id : Int} {k i : Nat} (h : ((E k).legs i).ac ≠ id) : toL E id k (i + 1) = toL E id k i := by
 show toL E id k i ++ (if _ then _ else _) = _
 rw [if_neg h, List.append_nil]
/-- The sum over what has come. -/
def fst1 (E : Nat → LEnt) (bk va : Int) (s : Int) (x : Nat × Nat) : Int := if upB bk va (E x.1) = true then wrap64 (s - ((E x.1).legs x.2).am) else s
def fsum (E : Nat → LEnt) (bk va : Int) (l : List (Nat × Nat)) : Int := l.foldl (fst1 E bk va) 0
theorem fsum_snoc (E : Nat → LEnt) (bk va : Int) (l : List (Nat × Nat)) (x : Nat × Nat) : fsum E bk va (l ++ [x]) = fst1 E bk va (fsum E bk va l) x := by simp [fsum]
theorem fst1_in (E : Nat → LEnt) (bk va : Int) {s : Int} (h : IIn s) (x : Nat × Nat) : IIn (fst1 E bk va s x) := by
 unfold fst1
 split
 ·exact wrap64_bd _
 ·exact h
theorem foldl_in (E : Nat → LEnt) (bk va : Int) : ∀ (l : List (Nat × Nat)) (s : Int), IIn s → IIn (l.foldl (fst1 E bk va) s)
 | [], _, h => h
 | x :: l, s, h => foldl_in E bk va l _ (fst1_in E bk va h x)
theorem fsum_in (E : Nat → LEnt) (bk va : Int) (l : List (Nat × Nat)) : IIn (fsum E bk va l) := foldl_in E bk va l 0 (by unfold IIn; omega)
theorem wr_step (S m a : Int) : wrap64 (wrap64 (S + m) - a) = wrap64 (S + wrap64 (m - a)) := by unfold wrap64; omega
theorem fsum_legs (E : Nat → LEnt) (id bk va : Int) (k : Nat) : ∀ i, fsum E bk va (toE E id k ++ toL E id k i) = if upB bk va (E k) = true then wrap64 (fsum E bk va (toE E id k) + mvs (E k).legs id i) else fsum E bk va (toE E id k)
 | 0 => by
  unfold toL mvs
  rw [List.append_nil, Int.add_zero, wrap64_id (fsum_in E bk va _)]
  split <;> rfl
 | i + 1 => by
  have ih := fsum_legs E id bk va k i
  by_cases h : ((E k).legs i).ac = id
  ·rw [toL_yes h, ← List.append_assoc, fsum_snoc, ih]
   unfold fst1
   have hm : mvs (E k).legs id (i + 1) = wrap64 (mvs (E k).legs id i - ((E k).legs i).am) := if_pos h
   rw [hm]
   split
   ·exact wr_step _ _ _
   ·rfl
  ·rw [toL_no h, ih]
   have hm : mvs (E k).legs id (i + 1) = mvs (E k).legs id i := if_neg h
   rw [hm]
theorem fsum_all (E : Nat → LEnt) (id bk va : Int) : ∀ n, fsum E bk va (toE E id n) = sumE E id (upB bk va) n
 | 0 => rfl
 | n + 1 => by
  unfold toE sumE
  rw [fsum_legs, fsum_all E id bk va n]
  rfl
/-- What a round keeps: all that lay below n₀, and all other variables but one. -/
def KpM (n₀ nb : Nat) (W W' : World) : Prop := Below n₀ W W' ∧ ∀ b cs t fz, b ≠ nb → W.heap[b]? = some (.cells cs t fz) → W'.heap[b]? = some (.cells cs t fz)
theorem KpM.refl (n₀ nb : Nat) (W : World) : KpM n₀ nb W W := ⟨Below.refl _ _, fun _ _ _ _ _ h => h⟩
theorem KpM.trans {n₀ nb : Nat} {A B C : World} (h : KpM n₀ nb A B) (k : KpM n₀ nb B C) : KpM n₀ nb A C := ⟨h.1.trans k.1, fun b cs t fz hb hh => k.2 b cs t fz hb (h.2 b cs t fz hb hh)⟩
theorem KpM.alloc {n₀ nb : Nat} (W : World) (o : Obj) (h : n₀ ≤ W.heap.size) : KpM n₀ nb W (W.alloc o) := ⟨(Below.refl _ W).alloc h _, fun b cs t fz _ hh => by
 rw [Below.heap_alloc _ _ _ (Array.getElem?_eq_some_iff.1 hh).1]; exact hh⟩
theorem KpM.set {n₀ nb : Nat} (W : World) (v : Value) (h : n₀ ≤ nb) : KpM n₀ nb W (W.setCell ⟨nb, 0, none⟩ v) := ⟨(Below.refl _ W).setCell (p := ⟨nb, 0, none⟩) h _, fun b cs t fz hb hh => by
 rw [Below.heap_setCell _ _ _ _ hb]; exact hh⟩
theorem kpM_b {n₀ nb : Nat} {w : World} (hn : n₀ ≤ w.heap.size) (W : World) (l : Nat) (o o' : Obj) (hl : w.heap.size ≤ l) (h : W.heap[l]? = some o) (h1 : o.isCells = false) (h2 : o.isWalk = false) : KpM n₀ nb W (W.putObj l o') :=
 ⟨belowK_b hn W l o o' hl h h1 h2, fun b cs t fz _ hh => by
  rw [World.putObj_heap_other]
  ·exact hh
  ·intro e
   subst e
   rw [h] at hh
   injection hh with hh
   subst hh
   cases h1⟩
theorem KpM.boxed {n₀ nb B : Nat} {W W' : World} {t : TypeId} {v : Value} (h : KpM n₀ nb W W') (hb : Boxed W B t v) (hne : B ≠ nb) : Boxed W' B t v := h.2 _ _ _ _ hne hb
theorem boxed_wide {W : World} {B : Nat} {cs : List Value} {t : TypeId} (h : W.heap[B]? = some (.cells cs.toArray t (0, 0))) (j : Nat) (v : Value) (hv : cs[j]? = some v) : W.cell? ⟨B, j, none⟩ = some v := by
 rw [cell_of_cells h j]; simpa using hv
end Go.Proofs.YtdjlaiilngechaaGreatDoor
namespace Go.Proofs.YtdjlaiilngechaaGreatDoor
set_option maxRecDepth 4000
set_option linter.unusedSimpArgs false
set_option linter.unusedVariables false
open Go.RowKit Go.Shelf
attribute [local go_sem] Oper.semAt_some
theorem ab_alloc {β : Type} {B : Nat} {J : β → World → Prop} (hJ : AbidesFrom B J) {s : β} {W : World} (o : Obj) (h : J s W) : J s (W.alloc o) := hJ s W _ none h (World.grownBy_alloc W o none) (fun r e => by cases e)
abbrev entA (e : LEnt) : Value := .agg #[.int .i64 e.id, .int .i64 e.bk, .int .i64 e.va, .int .i64 e.ki, .int .i64 e.au, .int .i64 e.pe, .string e.key, .string e.tx, .slice e.lA e.ln e.lc, .int .u64 e.ch]
def MvO (E : Nat → LEnt) (id : Int) (jn bi : Nat) (w0 W : World) (J : List (Nat × Nat) → World → Prop) (v : Value) (wr : World) : Prop :=
 ∃ k : Nat, k ≤ jn ∧ v = .int .i64 k ∧ J (toE E id k) wr ∧ Below w0.heap.size w0 wr ∧ Boxed wr bi 3 (.int .i64 id) ∧ W.heap.size ≤ wr.heap.size
def MvI (E : Nat → LEnt) (id : Int) (bi be k : Nat) (w0 W : World) (J : List (Nat × Nat) → World → Prop) (v : Value) (wr : World) : Prop :=
 ∃ i : Nat, i ≤ (E k).ln ∧ v = .int .i64 i ∧ J (toE E id k ++ toL E id k i) wr ∧ Below w0.heap.size w0 wr ∧ Boxed wr bi 3 (.int .i64 id) ∧ W.heap.size ≤ wr.heap.size ∧
  wr.heap[be]? = some (.cells #[.int .i64 (E k).id, .int .i64 (E k).bk, .int .i64 (E k).va, .int .i64 (E k).ki, .int .i64 (E k).au, .int .i64 (E k).pe, .string (E k).key, .string (E k).tx, .slice (E k).lA (E k).ln (E k).lc, .int .u64 (E k).ch] 82 (0, 0))
set_option maxRecDepth 100000 in
set_option maxHeartbeats 4000000 in
theorem mov1_in (F : Fence) (n : Nat) (hf : F.fn 150) (hro : F.round = none) (hn : 1 ≤ n) (l bj bi nb : Nat) (jA : Option Addr) (jn jc : Nat) (E : Nat → LEnt) (id : Int) (hjn : jn ≤ 1000000) (w0 : World) (hj : Jrn w0 jA jn E) (hbi : bi ≠ nb)
  (J Jx : List (Nat × Nat) → World → Prop)
  (hY : ∀ pre x W, J pre W → pre.length < jn * 1000000 → YieldAt F (n - 1) Tryz.prog l #[entA (E x.1), .int .i64 ((E x.1).legs x.2).am] W fun e W' =>
   (e = .returned (.bool true) ∧ J (pre ++ [x]) W' ∧ KpM w0.heap.size nb W W') ∨ (e = .returned (.bool false) ∧ Jx (pre ++ [x]) W'))
  (W : World) (hJ : AbidesFrom W.heap.size J) (hnb : nb < W.heap.size) (hb0 : Below w0.heap.size w0 W) (h1 : Boxed W bj 29 (.slice jA jn jc)) (h2 : Boxed W bi 3 (.int .i64 id)) (h0 : J [] W) :
  CallsIn F n Tryz.prog 150 #[.func (.yield l) #[] #[], .pointer (some ⟨bj, 0, none⟩), .pointer (some ⟨bi, 0, none⟩)] W fun e W' => (∃ v, e = .returned v) ∧
   ((∃ ys, ys = toE E id jn ∧ J ys W') ∨ (∃ pre, True ∧ Jx pre W')) := by
 have HJR := hide hj
 have HLE := hide (toE_len E id)
 have HLL := hide (toL_len E id)
 have HJ0 := hide hJ
 refine callsIn_of_wp Tryz.func150 rfl hf ?_ hro
 simp only [Tryz.ntmps150, List.size_toArray, List.length_cons, List.length_nil, Nat.reduceAdd, Nat.reduceSub, Array.replicate_succ, Array.replicate_zero, List.push_toArray, List.append_toArray, List.nil_append, List.cons_append]
 have hbjc := h1.cell
 gi_wp2
 gi_loopw [10] (fun v wr => MvO E id jn bi w0 W J v wr) (fun v _ => jn - (intOf v).toNat)
 case atStart => exact ⟨0, Nat.zero_le _, rfl, h0, hb0, h2, Nat.le_refl _⟩
 case round =>
  obtain ⟨k, hk, rfl, hJs, hB, hbx, hsz⟩ := hrel
  obtain ⟨wo, rfl⟩ : ∃ wo, wo = wr := ⟨_, rfl⟩
  by_cases hlt : k < jn
  ·have hm : (k : Int) < jn := by omega
   have hk0 : (0 : Int) ≤ k := by omega
   obtain ⟨b, off, rfl, hbl, c0, c1, c2, c3, c4, c5, c6, c7, c8, c9⟩ := (HJR.out.below hB).row.at hlt
   have HK := hide hlt
   have hll := HJR.out.legs k hlt
   clear hlt hk
   gi_wp2
   gi_loopw [17] (fun v wi => MvI E id bi wo.heap.size k w0 W J v wi) (fun v _ => (E k).ln - (intOf v).toNat)
   case atStart => exact ⟨0, Nat.zero_le _, rfl, by simpa [toL] using ab_alloc hJ _ hJs, hB.alloc hB.size _, hbx.alloc _, by simp; omega, World.alloc_heap_new wo _⟩
   case round =>
    obtain ⟨i, hi, rfl, hJi, hBi, hbxi, hszi, hbe⟩ := hrel
    by_cases hil : i < (E k).ln
    ·have hmi : (i : Int) < (E k).ln := by omega
     have hi0 : (0 : Int) ≤ i := by omega
     have HI := hide hil
     obtain ⟨b2, off2, hA2, hbl2, d0, d1, d2⟩ := ((HJR.out.below hBi).row.2 k HK.out).at hil
     have e0 := (boxed_wide (cs := [.int .i64 (E k).id, .int .i64 (E k).bk, .int .i64 (E k).va, .int .i64 (E k).ki, .int .i64 (E k).au, .int .i64 (E k).pe, .string (E k).key, .string (E k).tx, .slice (E k).lA (E k).ln (E k).lc, .int .u64 (E k).ch]) hbe)
     have x0 := e0 0 _ rfl
     have x1 := e0 1 _ rfl
     have x2 := e0 2 _ rfl
     have x3 := e0 3 _ rfl
     have x4 := e0 4 _ rfl
     have x5 := e0 5 _ rfl
     have x6 := e0 6 _ rfl
     have x7 := e0 7 _ rfl
     have x8 := e0 8 _ rfl
     have x9 := e0 9 _ rfl
     have xb := hbxi.cell
     have zb := hbxi.lt
     have zb1 : ¬ wr.heap.size = bi := by omega
     have ze := heap_lt hbe
     have ze1 : ¬ wr.heap.size = wo.heap.size := by omega
     clear hil hi e0
     by_cases he : ((E k).legs i).ac = id
     ·have h1 : (((E k).legs i).ac == id) = true := beq_iff_eq.2 he
      have HT := hide (toL_yes he)
      have hlen : (toE E id k ++ toL E id k i).length < jn * 1000000 := by
       rw [List.length_append]
       have := HLE.out k (fun j hj => HJR.out.legs j (by have := HK.out; omega))
       have := HLL.out k i
       have := HI.out
       have := HJR.out.legs k HK.out
       have := HK.out
       omega
      obtain ⟨fn, tmps, assign, body, hy, hR⟩ := hY _ (k, i) (wr.alloc (.cells #[.int .i64 ((E k).legs i).ac, .int .i64 ((E k).legs i).am, .string ((E k).legs i).cu] 120)) (ab_alloc (B := W.heap.size) HJ0.out _ hJi) hlen
      dsimp only [entA] at hy
      rw [hA2] at hy
      clear he hlen hY
      simp only [hA2]
      gi_wp2
      refine hR.mono ?_
      rintro e W3 (⟨rfl, hJ3, hk3⟩ | ⟨rfl, hJx3⟩)
      ·have hbe3 := hk3.2 _ _ _ _ (by omega : wo.heap.size ≠ nb) (by rw [Below.heap_alloc _ _ _ ze]; exact hbe)
       have hbx3 := hk3.boxed (hbxi.alloc _) hbi
       have hs3 := hk3.1.size
       simp at hs3
       gi_wp2
       go_roundw
       case rel => exact ⟨i + 1, HI.out, by go_num, by rw [HT.out, ← List.append_assoc]; exact hJ3, (hBi.alloc hBi.size _).trans hk3.1, hbx3, by omega, hbe3⟩
       case measure => have := HI.out; simp [intOf]; omega
      ·gi_wp2
       refine bodyPost_ret (results_none rfl _ _ _) rfl ?_
       exact ⟨⟨_, rfl⟩, .inr ⟨_, trivial, hJx3⟩⟩
     ·have h1 : (((E k).legs i).ac == id) = false := beq_eq_false_iff_ne.2 he
      have HT := hide (toL_no he)
      clear he hY
      simp only [hA2]
      gi_wp2
      refine ⟨fun _ h => (by cases h), ?_⟩
      gi_wp2
      go_roundw
      case rel => exact ⟨i + 1, HI.out, by go_num, by rw [HT.out]; exact ab_alloc (B := W.heap.size) HJ0.out _ hJi, hBi.alloc hBi.size _, hbxi.alloc _, by simp; omega, by rw [Below.heap_alloc _ _ _ ze]; exact hbe⟩
      case measure => have := HI.out; simp [intOf]; omega
    ·obtain rfl : i = (E k).ln := by omega
     clear hil hi
     gi_wp2
     go_roundw
     case rel => exact ⟨k + 1, HK.out, by go_num, hJi, hBi, hbxi, hszi⟩
     case measure => have := HK.out; simp [intOf]; omega
  ·obtain rfl : k = jn := by omega
   clear hlt hk
   gi_wp2
   go_end0
   exact ⟨⟨_, rfl⟩, .inl ⟨_, rfl, hJs⟩⟩
end Go.Proofs.YtdjlaiilngechaaGreatDoor
namespace Go.Proofs.YtdjlaiilngechaaGreatDoor
set_option maxRecDepth 4000
set_option linter.unusedSimpArgs false
set_option linter.unusedVariables false
open Go.RowKit Go.Shelf
attribute [local go_sem] Oper.semAt_some
set_option maxHeartbeats 1000000 in
theorem movs_in (F : Fence) (n : Nat) (h5 : F.fn 122) (hro : F.round = none) (A : Option Addr) (jn jc : Nat) (id : Int) (w : World) :
  CallsIn F n Tryz.prog 122 #[.slice A jn jc, .int .i64 id] w fun e w' => e = .returned (.func (.func 150) #[] #[.pointer (some ⟨w.heap.size, 0, none⟩), .pointer (some ⟨w.heap.size + 1, 0, none⟩)]) ∧ w' = (w.alloc (.cells #[.slice A jn jc] 29)).alloc (.cells #[.int .i64 id] 3) := by
 refine callsIn_of_wp Tryz.func122 rfl h5 ?_ hro
 simp only [Tryz.ntmps122, List.size_toArray, List.length_cons, List.length_nil, Nat.reduceAdd, Nat.reduceSub, Array.replicate_succ, Array.replicate_zero, List.push_toArray, List.append_toArray, List.nil_append, List.cons_append]
 gi_wp2
 go_ret
 exact ⟨rfl, rfl⟩
theorem mov_stops (F : Fence) (n : Nat) (hf : F.fn 150) (hro : F.round = none) (hn : 1 ≤ n) (bj bi nb : Nat) (jA : Option Addr) (jn jc : Nat) (E : Nat → LEnt) (id : Int) (hjn : jn ≤ 1000000) (w0 W0 : World) (hb : Below w0.heap.size w0 W0) (hj : Jrn w0 jA jn E) (h1 : Boxed W0 bj 29 (.slice jA jn jc)) (h2 : Boxed W0 bi 3 (.int .i64 id)) (hnb : nb < W0.heap.size) (hbi : bi ≠ nb) :
  SeqStopsK F n Tryz.prog 150 #[.pointer (some ⟨bj, 0, none⟩), .pointer (some ⟨bi, 0, none⟩)] (fun x : Nat × Nat => #[entA (E x.1), .int .i64 ((E x.1).legs x.2).am]) (KpM w0.heap.size nb) (fun ys => ys = toE E id jn) (fun _ => True) (jn * 1000000) W0 := fun l J Jx W hW hJ _ hY h0 =>
 mov1_in F n hf hro hn l bj bi nb jA jn jc E id hjn w0 hj hbi J Jx hY W hJ (Nat.lt_of_lt_of_le hnb hW.size) (hb.trans (hW.mono hb.size)) ((hW.block bj h1.lt).trans h1) ((hW.block bi h2.lt).trans h2) h0
def AtI (E : Nat → LEnt) (bk va : Int) (w : World) (pre : List (Nat × Nat)) (W : World) : Prop :=
 (Boxed W (w.heap.size + 2) 3 (.int .i64 (fsum E bk va pre)) ∧ Boxed W w.heap.size 3 (.int .i64 bk) ∧ Boxed W (w.heap.size + 1) 3 (.int .i64 va)) ∧ Below w.heap.size w W
def AtX (E : Nat → LEnt) (A : Option Addr) (jn jc : Nat) (id bk va : Int) (w : World) (x : Nat × Nat) (a' : Act) (W : World) : Prop :=
 ∃ Bx, w.heap.size + 2 < Bx ∧ W.heap[Bx]? = some (.cells #[.int .i64 (E x.1).id, .int .i64 (E x.1).bk, .int .i64 (E x.1).va, .int .i64 (E x.1).ki, .int .i64 (E x.1).au, .int .i64 (E x.1).pe, .string (E x.1).key, .string (E x.1).tx, .slice (E x.1).lA (E x.1).ln (E x.1).lc, .int .u64 (E x.1).ch] 82 (0, 0)) ∧
  a' = { tmps := #[.slice A jn jc, .int .i64 id, .int .i64 bk, .int .i64 va, undef, undef, .pointer (some ⟨w.heap.size, 0, none⟩), .pointer (some ⟨w.heap.size + 1, 0, none⟩), .int .i64 0, .pointer (some ⟨w.heap.size + 2, 0, none⟩), .pointer (some ⟨Bx, 0, none⟩), .int .i64 ((E x.1).legs x.2).am, .slice A jn jc, .int .i64 id, .func (.func 150) #[] #[.pointer (some ⟨w.heap.size + 3, 0, none⟩), .pointer (some ⟨w.heap.size + 4, 0, none⟩)], entA (E x.1), .int .i64 ((E x.1).legs x.2).am, undef, undef, undef, undef, undef, undef, undef, undef, undef, undef, undef, undef, undef, undef], defers := [] }
set_option maxRecDepth 100000 in
set_option maxHeartbeats 4000000 in
theorem at_in (F : Fence) (n : Nat) (h0 : F.fn 80) (h5 : F.fn 122) (hf : F.fn 150) (hro : F.round = none) (hn : 4 ≤ n) (A : Option Addr) (jn jc : Nat) (E : Nat → LEnt) (id bk va : Int) (hjn : jn ≤ 1000000) (w : World) (hj : Jrn w A jn E) :
  CallsIn F n Tryz.prog 80 #[.slice A jn jc, .int .i64 id, .int .i64 bk, .int .i64 va] w fun e w' => e = .returned (.int .i64 (sumE E id (upB bk va) jn)) ∧ Below w.heap.size w w' := by
 have h1 : 1 ≤ n := by omega
 have HJ := hide hj
 refine callsIn_of_wp_marks Tryz.func80 rfl h0 ?_ hro
 simp only [Tryz.ntmps80, List.size_toArray, List.length_cons, List.length_nil, Nat.reduceAdd, Nat.reduceSub, Array.replicate_succ, Array.replicate_zero, List.push_toArray, List.append_toArray, List.nil_append, List.cons_append]
 clear hj
 gi_wp2_with (gi_at_call 122; refine (movs_in F (n - 1) h5 hro _ _ _ _ _).mono ?_; rintro e w' ⟨rfl, rfl⟩)
 have b0 := ((((Boxed.new w 3 (.int .i64 bk)).alloc (.cells #[.int .i64 va] 3)).alloc (.cells #[.int .i64 0] 3)).alloc (.cells #[.slice A jn jc] 29)).alloc (.cells #[.int .i64 id] 3)
 have b1 := (((Boxed.new (w.alloc (.cells #[.int .i64 bk] 3)) 3 (.int .i64 va)).alloc (.cells #[.int .i64 0] 3)).alloc (.cells #[.slice A jn jc] 29)).alloc (.cells #[.int .i64 id] 3)
 have b2 := ((Boxed.new ((w.alloc (.cells #[.int .i64 bk] 3)).alloc (.cells #[.int .i64 va] 3)) 3 (.int .i64 0)).alloc (.cells #[.slice A jn jc] 29)).alloc (.cells #[.int .i64 id] 3)
 have b3 := (Boxed.new (((w.alloc (.cells #[.int .i64 bk] 3)).alloc (.cells #[.int .i64 va] 3)).alloc (.cells #[.int .i64 0] 3)) 29 (.slice A jn jc)).alloc (.cells #[.int .i64 id] 3)
 have b4 := Boxed.new ((((w.alloc (.cells #[.int .i64 bk] 3)).alloc (.cells #[.int .i64 va] 3)).alloc (.cells #[.int .i64 0] 3)).alloc (.cells #[.slice A jn jc] 29)) 3 (.int .i64 id)
 simp only [World.size_alloc] at b1 b2 b3 b4
 have hB0 : Below w.heap.size w (((((w.alloc (.cells #[.int .i64 bk] 3)).alloc (.cells #[.int .i64 va] 3)).alloc (.cells #[.int .i64 0] 3)).alloc (.cells #[.slice A jn jc] 29)).alloc (.cells #[.int .i64 id] 3)) := by (repeat (first | (with_reducible first | exact Below.refl _ _ | assumption | refine Below.drew ?_) | ((with_reducible first | refine Below.alloc ?_ ?_ _ | refine Below.setCell ?_ ?_ _); rotate_left; (first | omega | (simp <;> omega)))))
 have hsz : (((((w.alloc (.cells #[.int .i64 bk] 3)).alloc (.cells #[.int .i64 va] 3)).alloc (.cells #[.int .i64 0] 3)).alloc (.cells #[.slice A jn jc] 29)).alloc (.cells #[.int .i64 id] 3)).heap.size = w.heap.size + 5 := by simp
 obtain ⟨W0, hW0⟩ : ∃ W0, (((((w.alloc (.cells #[.int .i64 bk] 3)).alloc (.cells #[.int .i64 va] 3)).alloc (.cells #[.int .i64 0] 3)).alloc (.cells #[.slice A jn jc] 29)).alloc (.cells #[.int .i64 id] 3)) = W0 := ⟨_, rfl⟩
 rw [hW0] at b0 b1 b2 b3 b4 hB0 hsz ⊢
 clear hW0
 refine wpIn_rangeFunc_ownH hro h1 (gf := 150) (lb := #[.pointer (some ⟨w.heap.size + 3, 0, none⟩), .pointer (some ⟨w.heap.size + 4, 0, none⟩)]) rfl hf (enters_of Tryz.func150 (by kernel_rfl) rfl)
  (mov_stops F (n - 1) hf hro (by omega) (w.heap.size + 3) (w.heap.size + 4) (w.heap.size + 2) A jn jc E id hjn w W0 hB0 HJ.out b3 b4 (by omega) (by omega)) (fun h k => KpM.trans h k) (kpM_b (by omega)) (Below.refl _ _) (fun _ => rfl)
  (AtI E bk va w)
  (fun _ _ _ => False)
  (OwnFrom.and (OwnFrom.and (Own.from (boxed_own _ _ _) _) (OwnFrom.and (Own.from (boxed_own _ _ (fun _ => .int .i64 bk)) _) (Own.from (boxed_own _ _ (fun _ => .int .i64 va)) _))) (ownFrom_below (Nat.le_refl _) (by omega)))
  (fun _ _ _ _ _ hs _ _ => hs)
  ⟨⟨b2, b0, b1⟩, hB0⟩
  (AtX E A jn jc id bk va w)
  (fun x a' _ X Y row hs hg hr => by
   obtain ⟨Bx, k1, k2, k3⟩ := hs
   refine ⟨Bx, k1, (hg.block Bx (heap_lt k2) fun e => ?_).trans k2, k3⟩
   obtain ⟨_, o, ho, hc⟩ := hr Bx e.symm
   rw [k2] at ho
   injection ho with ho
   subst ho
   cases hc)
  ?assign ?body ?done ?stop
 case assign =>
  rintro l pre x W K ⟨⟨bS1, bB1, bB2⟩, hB1⟩ hK
  gi_wp2
  exact hK _ _ ((KeepsOthers.alloc _ _).from _) (KpM.alloc W _ hB1.size) ⟨⟨bS1.alloc _, bB1.alloc _, bB2.alloc _⟩, hB1.alloc hB1.size _⟩ ⟨W.heap.size, bS1.lt, World.alloc_heap_new W _, rfl⟩
 case body =>
  rintro l pre x a' W hl ⟨r, hr⟩ ⟨⟨bS1, bB1, bB2⟩, hB1⟩ ⟨Bx, hBx, bX, rfl⟩ hlt
  have e0 := boxed_wide (cs := [.int .i64 (E x.1).id, .int .i64 (E x.1).bk, .int .i64 (E x.1).va, .int .i64 (E x.1).ki, .int .i64 (E x.1).au, .int .i64 (E x.1).pe, .string (E x.1).key, .string (E x.1).tx, .slice (E x.1).lA (E x.1).ln (E x.1).lc, .int .u64 (E x.1).ch]) bX
  have x1 := e0 1 _ rfl
  have x2 := e0 2 _ rfl
  have cS := bS1.cell
  have fS := bS1.frozen
  have c0 := bB1.cell
  have c1 := bB2.cell
  clear e0
  have HF := hide (fsum_snoc E bk va pre x)
  have z2 := bS1.lt
  by_cases hbk : (E x.1).bk ≤ bk
  ·by_cases hva : (E x.1).va ≤ va
   ·have HU := hide (show fst1 E bk va (fsum E bk va pre) x = wrap64 (fsum E bk va pre - ((E x.1).legs x.2).am) from if_pos (decide_eq_true ⟨hbk, hva⟩))
    gi_wp2
    exact ⟨(KeepsOthers.setCell _ _ _).from _, KpM.set W _ (by omega), ⟨⟨by rw [HF.out, HU.out]; exact bS1.set _, bB1.other (by omega) _, bB2.other (by omega) _⟩, hB1.setCell (p := ⟨w.heap.size + 2, 0, none⟩) (by simp) _⟩⟩
   ·have HU := hide (show fst1 E bk va (fsum E bk va pre) x = fsum E bk va pre from if_neg (by unfold upB; simp; omega))
    have hv2 := Int.not_le.1 hva
    clear hva
    gi_wp2
    exact ⟨KeepsFrom.refl _ _, KpM.refl _ _ _, ⟨⟨by rw [HF.out, HU.out]; exact bS1, bB1, bB2⟩, hB1⟩⟩
  ·have HU := hide (show fst1 E bk va (fsum E bk va pre) x = fsum E bk va pre from if_neg (by unfold upB; simp; omega))
   have hv2 := Int.not_le.1 hbk
   clear hbk
   gi_wp2
   exact ⟨KeepsFrom.refl _ _, KpM.refl _ _ _, ⟨⟨by rw [HF.out, HU.out]; exact bS1, bB1, bB2⟩, hB1⟩⟩
 case done =>
  rintro D zs W hD rfl ⟨⟨bS1, bB1, bB2⟩, hB1⟩ hK
  have cS := bS1.cell
  gi_wp2
  refine ⟨by simp, .inl ⟨_, _, rfl, run_takeDeferred hK, ?_⟩⟩
  exact ⟨_, results_tmp rfl _ _ _, by rw [fsum_all]; rfl, hB1.trans (belowK_b (w := w) (Nat.le_refl _) W D _ _ (by omega) hK rfl rfl)⟩
 case stop =>
  rintro D c pre W _ _ h _
  exact h.elim
theorem at_any (A : Option Addr) (jn jc : Nat) (E : Nat → LEnt) (id bk va : Int) (hjn : jn ≤ 1000000) (w : World) (hj : Jrn w A jn E) :
  Calls Tryz.prog 80 #[.slice A jn jc, .int .i64 id, .int .i64 bk, .int .i64 va] w fun e w' => e = .returned (.int .i64 (sumE E id (upB bk va) jn)) ∧ Below w.heap.size w w' :=
 (callsIn_wide (n := 4)).1 (at_in Fence.wide 4 trivial trivial trivial rfl (by decide) A jn jc E id bk va hjn w hj)
def RAtI (E : Nat → LEnt) (id bk va : Int) (n : Nat) (w : World) (v9 v : Value) (wr : World) : Prop :=
 ∃ k : Nat, k ≤ n ∧ v = .int .i64 k ∧ v9 = .int .i64 (sumE E id (upB bk va) k) ∧ Below w.heap.size w wr
set_option maxHeartbeats 2000000 in
theorem rat_any (A : Option Addr) (n c : Nat) (E : Nat → LEnt) (id bk va : Int) (hn : n ≤ 1000000) (w : World) (hj : Jrn w A n E) :
  Calls Tryz.prog 87 #[.slice A n c, .int .i64 id, .int .i64 bk, .int .i64 va] w fun e w' => e = .returned (.int .i64 (sumE E id (upB bk va) n)) ∧ Below w.heap.size w w' := by
 have HR := hide hj
 clear hj
 go_enter Tryz.func87, Tryz.ntmps87
 go_wp2_with fail
 go_loopw [9, 10] (fun v9 v wr => RAtI E id bk va n w v9 v wr) (fun _ v _ => n - (intOf v).toNat)
 case atStart => exact ⟨0, by omega, rfl, rfl, Below.refl _ _⟩
 case round =>
  obtain ⟨k, hk, rfl, rfl, hb⟩ := hrel
  by_cases hlt : k < n
  ·have hm : (k : Int) < n := by omega
   obtain ⟨b, off, rfl, hbl, c0, c1, c2, c3, c4, c5, c6, c7, c8, c9⟩ := (HR.out.below hb).row.at hlt
   have HK := hide hlt
   have hk0 : (0 : Int) ≤ k := by omega
   clear hlt hk
   by_cases hbk : (E k).bk ≤ bk
   ·by_cases hva : (E k).va ≤ va
    ·have HD := hide (show sumE E id (upB bk va) (k + 1) = wrap64 (sumE E id (upB bk va) k + mvE (E k) id) from if_pos (decide_eq_true ⟨hbk, hva⟩))
     go_wp2_with fail
     refine (rmoved_any _ (E k).lA (E k).ln (E k).lc rfl (E k).legs id (HR.out.legs k HK.out) _ ((HR.out.below hb).row.2 k HK.out)).mono ?_
     rintro e w1 ⟨rfl, hb1⟩
     go_wp2_with fail
     go_roundw
     case rel => exact ⟨k + 1, HK.out, by go_num, by rw [HD.out]; rfl, hb.trans (hb1.mono hb.size)⟩
     case measure => have := HK.out; simp [intOf]; omega
    ·have HD := hide (show sumE E id (upB bk va) (k + 1) = sumE E id (upB bk va) k from if_neg (by unfold upB; simp; omega))
     have hv2 := Int.not_le.1 hva
     clear hva
     go_wp2_with fail
     go_roundw
     case rel => exact ⟨k + 1, HK.out, by go_num, by rw [HD.out], hb⟩
     case measure => have := HK.out; simp [intOf]; omega
   ·have HD := hide (show sumE E id (upB bk va) (k + 1) = sumE E id (upB bk va) k from if_neg (by unfold upB; simp; omega))
    have hv2 := Int.not_le.1 hbk
    clear hbk
    go_wp2_with fail
    go_roundw
    case rel => exact ⟨k + 1, HK.out, by go_num, by rw [HD.out], hb⟩
    case measure => have := HK.out; simp [intOf]; omega
  ·obtain rfl : k = n := by omega
   clear hlt hk
   go_wp2_with fail
   go_ret
   exact ⟨rfl, hb⟩
end Go.Proofs.YtdjlaiilngechaaGreatDoor
