/- Texts laid together: ExG. -/
import Derived.Test.YtdjlaiilngechaaGreatDoorXExF
namespace Go.Proofs.YtdjlaiilngechaaGreatDoor
set_option maxRecDepth 4000
set_option linter.unusedSimpArgs false
set_option linter.unusedVariables false
open Go.RowKit Go
attribute [local go_sem] Oper.semAt_some
theorem wpListIn_append_own2 {F : Fence} {q : Nat} {P : Program} (w : World) {ops : Array Oper} {rest : List Oper} {o : Oper} {a : Act} {Q : Exit → Act → World → Prop} (hgd : o.guard = none) (s x : Operand) (t : TypeId)
  (ho : o.op = .call { callee := .builtin .append, args := #[s, x], argTypes := #[t, t] })
  (base : Nat) (e : TypeId) (i : TypeInfo) (z : Value) (size bytes : Nat) (ht : P.underlying t = some (.slice e)) (hi : P.info? e = some i) (hz : i.zero = some z)
  (hsize : i.size = size) (hby : i.bytes = bytes) (hzs : z.cells.size = size) (hsz : 0 < size)
  (v : Value) (n : Nat) (xs : List Value) (hs : a.eval s = v) (hown : w.ownsRow base e size v n xs)
  (ad : Addr) (m c : Nat) (news : List Value) (hx : a.eval x = .slice (some ad) m c) (hl : news.length = m * size) (hnews : ∀ j u, news[j]? = some u → w.cell? (ad.add j) = some u) (h1 : ∀ u ∈ news, u.oneCell' = true)
  (h63 : n + m ≤ maxLen) (hbytes : (n + m) * bytes ≤ 140737488355328) (hbase : base ≤ w.heap.size)
  (h : ∀ A' c' w', w'.ownsRow base e size (.slice A' (n + m) c') (n + m) (xs ++ news) → w.grownBy w' v.ownBlock → ((Value.slice A' (n + m) c').ownBlock = v.ownBlock ∨ ∃ k, (Value.slice A' (n + m) c').ownBlock = some k ∧ w.heap.size ≤ k) → wpListIn F q P ops Q rest (a.put o.dst (.slice A' (n + m) c')) w') : wpListIn F q P ops Q (o :: rest) a w := by
 refine wpListIn_plain hgd fun K hK => ?_
 obtain ⟨A', c', w', hr, h2, h3, h4⟩ := append_own2 (P := P) w base t o.type e i z size bytes ht hi hz hsize hby hzs hsz v n xs hown ad m c news hl hnews h1 h63 hbytes hbase
 unfold Oper.wpIn
 refine ⟨?_, ?_⟩
 ·simp [Oper.about, ho, resolve, Target.leads, Sem.run_pure]
 ·rw [Oper.semAt_plain F _ _ (by rw [ho]; intro c hc'; cases hc')]
  unfold execOp
  simp only [ho, resolve, invoke, builtin, Sem.run_bind, Sem.run_pure, Result.andThen_ok, List.map_toArray, List.map_cons, List.map_nil, hs, hx, hr]
  exact hK _ _ (h A' c' w' h2 h3 h4)
/-! ### Rows of lines -/
def linLL (x : LnR) : List Value := [.int .i64 x.1.fr, .int .i64 x.1.tt, .int .i64 x.1.bl, .int .i64 x.1.we, .slice x.2.1 x.1.sl.length x.2.2, .int .i64 (hiW x.1.gr), .int .u64 (loW x.1.gr)]
def linF (x : LnR) : Nat → Value
 | 0 => .int .i64 x.1.fr | 1 => .int .i64 x.1.tt | 2 => .int .i64 x.1.bl | 3 => .int .i64 x.1.we | 4 => .slice x.2.1 x.1.sl.length x.2.2 | 5 => .int .i64 (hiW x.1.gr) | 6 => .int .u64 (loW x.1.gr) | _ => undef
theorem linLL_len (x : LnR) : (linLL x).length = 7 := rfl
theorem linLL_at (x : LnR) (j : Nat) (h : j < 7) : (linLL x)[j]? = some (linF x j) := by
 match j with
 | 0 | 1 | 2 | 3 | 4 | 5 | 6 => rfl
 | j + 7 => omega
def zLnR : LnR := (zLin, none, 0)
def atX (l : List LnR) (k : Nat) : LnR := l.getD k zLnR
theorem atX_at {l : List LnR} {k : Nat} (h : k < l.length) : atX l k = l[k] := by simp [atX, List.getD, h]
/-- A row of lines, and their slices. -/
structure RowLn (W : World) (A : Option Addr) (n : Nat) (x : Nat → LnR) : Prop where
 row : RowS W A n 7 (fun k => linF (x k))
 sl : ∀ k, k < n → Row2 W (x k).2.1 (x k).1.sl.length (fsts (x k).1.sl) (snds (x k).1.sl)
theorem RowLn.below {w w' : World} {A : Option Addr} {n : Nat} {x : Nat → LnR} (h : RowLn w A n x) (hb : Below w.heap.size w w') : RowLn w' A n x := ⟨RowS.below h.row hb, fun k hk => (h.sl k hk).below hb⟩
theorem RowLn.at {w : World} {A : Option Addr} {n k : Nat} {x : Nat → LnR} (h : RowLn w A n x) (hk : k < n) : ∃ b off, A = some ⟨b, off, none⟩ ∧ b < w.heap.size ∧
  w.cell? ⟨b, off + k * 7, none⟩ = some (.int .i64 (x k).1.fr) ∧ w.cell? ⟨b, off + k * 7 + 1, none⟩ = some (.int .i64 (x k).1.tt) ∧ w.cell? ⟨b, off + k * 7 + 2, none⟩ = some (.int .i64 (x k).1.bl) ∧ w.cell? ⟨b, off + k * 7 + 3, none⟩ = some (.int .i64 (x k).1.we) ∧
  w.cell? ⟨b, off + k * 7 + 4, none⟩ = some (.slice (x k).2.1 (x k).1.sl.length (x k).2.2) ∧ w.cell? ⟨b, off + k * 7 + 5, none⟩ = some (.int .i64 (hiW (x k).1.gr)) ∧ w.cell? ⟨b, off + k * 7 + 6, none⟩ = some (.int .u64 (loW (x k).1.gr)) := by
 obtain ⟨b, off, e, hlt, hc⟩ := RowS.at h.row hk
 exact ⟨b, off, e, hlt, hc 0 (by omega), hc 1 (by omega), hc 2 (by omega), hc 3 (by omega), hc 4 (by omega), hc 5 (by omega), hc 6 (by omega)⟩
theorem own_rowLn {w : World} {base : Nat} {e : TypeId} {v : Value} {l : List LnR} (h : w.ownsRow base e 7 v l.length (l.flatMap linLL)) (hs : ∀ x, x ∈ l → Row2 w x.2.1 x.1.sl.length (fsts x.1.sl) (snds x.1.sl)) :
  ∃ A c, v = .slice A l.length c ∧ RowLn w A l.length (atX l) := by
 obtain ⟨A, c, hv, hr⟩ := own_rowS linLL_len (fun k => linF (atX l k)) (fun k hk j hj => by rw [linLL_at _ _ hj, atX_at hk]) h
 exact ⟨A, c, hv, hr, fun k hk => by rw [atX_at hk]; exact hs _ (List.getElem_mem hk)⟩
/-- What Lines answers. -/
noncomputable def lnsL (B : LBk) (id f t : Int) : List Lin := if serE B id f t = 0 then lnL (fun k => oneP B (acrN B id f k)) (t - f + 1).toNat else []
def LinesRet (B : LBk) (id f t : Int) (w : World) (e : Ending) (w' : World) : Prop :=
 ∃ A c l, e = .returned (.tuple #[.slice A l.length c, .int .i64 (serE B id f t)]) ∧ RowLn w' A l.length (atX l) ∧ l.map (·.1) = lnsL B id f t ∧ Below w.heap.size w w'
theorem acrN_fine (B : LBk) (id f : Int) (k : Nat) : AcrOk (acrN B id f k) ∧ IIn (acrN B id f k).bl := by
 refine ⟨(acr_ok B id (f + k)).1, ?_⟩
 unfold acrN acr
 split
 ·exact balB_in B id _
 ·show IIn 0; unfold IIn; omega
theorem line_info : (Tryz.prog.info? 58).map (fun i => (i.zero, i.size, i.bytes)) = some (some (.agg #[.int .i64 0, .int .i64 0, .int .i64 0, .int .i64 0, .slice none 0 0, .int .i64 0, .int .u64 0]), 7, 72) := by kernel_rfl
theorem lns_any (C : Array Value) (lA : Option Addr) (ln lc : Nat) (w : World) : Calls Tryz.prog 28 #[.agg C, .slice lA ln lc] w fun e w' => e = .returned (.func (.func 47) #[] #[.pointer (some ⟨w.heap.size + 1, 0, none⟩), .pointer (some ⟨w.heap.size, 0, none⟩)]) ∧ w' = (w.alloc (.cells C 33)).alloc (.cells #[.slice lA ln lc] 64) := by
 go_enter Tryz.func28, Tryz.ntmps28
 go_wp2_with fail
 go_ret
 exact ⟨rfl, rfl⟩
/-- The caller's state behind the lines that came. -/
def LiI (nb z : Nat) (w1 : World) (pre : List LnR) (W : World) : Prop :=
 (∃ v, Boxed W nb 37 v ∧ W.ownsRow z 58 7 v pre.length (pre.flatMap linLL)) ∧ Below nb w1 W ∧ z ≤ W.heap.size
theorem obW_boxed {W : World} {nb : Nat} {t : TypeId} {v : Value} (h : Boxed W nb t v) : obW nb W = v.ownBlock := by
 unfold obW
 rw [h.cell]
 rfl
theorem liI_stay {nb z : Nat} (hz : nb < z) (w1 : World) : StayFrom z (MineL nb) (LiI nb z w1) := by
 intro pre W W' row h hg hr
 obtain ⟨⟨v, hv, ho⟩, hb, hzz⟩ := h
 have hne : ∀ r, row = some r → r ≠ nb ∧ v.ownBlock ≠ some r := fun r e => by
  obtain ⟨h1, o, h2, h3⟩ := hr r e
  refine ⟨by omega, fun e2 => ?_⟩
  obtain ⟨-, hlt⟩ := ho.lt r e2
  rcases ho.2 with ⟨rfl, _⟩ | ⟨g, cap, cur, rfl, hgz, hh, _⟩
  ·cases e2
  ·simp [Value.ownBlock] at e2
   subst e2
   rw [hh] at h2
   injection h2 with h2
   subst h2
   exact h3 rfl (.inr (by rw [obW_boxed hv]; rfl))
 refine ⟨⟨v, hv.kept hg (fun e => (hne nb e.symm).1 rfl), ho.kept hg ?_⟩, ⟨hg.os.trans hb.os, hg.tape.trans hb.tape, hg.output.trans hb.output, Nat.le_trans hb.size hg.size, fun k hk => ?_⟩, Nat.le_trans hzz hg.size⟩
 ·cases row with
  | none =>
   cases hv2 : v.ownBlock with
   | none => exact .inl rfl
   | some r => exact .inr (by simp)
  | some r => exact .inr (fun e => (hne r rfl).2 e)
 ·refine (hg.block k ?_ fun e => ?_).trans (hb.block k hk)
  ·exact Nat.lt_trans hk hv.lt
  ·have := (hr k e.symm).1
   omega
theorem told_own {nb z : Nat} (f : Nat → Lin) (n : Nat) : OwnFrom z (fun (xs : List LnR) W => xs.map (·.1) = lnL f n ∧ ∀ x, x ∈ xs → Row2 W x.2.1 x.1.sl.length (fsts x.1.sl) (snds x.1.sl)) := by
 intro xs W W' row h hg hr
 refine ⟨h.1, fun x hx hn => ?_⟩
 obtain ⟨b, off, e, hlt, hc⟩ := h.2 x hx hn
 have hb : W'.heap[b]? = W.heap[b]? := hg.block b hlt fun e2 => by
  obtain ⟨_, o, h2, h3⟩ := hr b e2.symm
  obtain ⟨cs, t, fz, h4⟩ := cells_of_cell (hc 0 hn).1
  rw [h4] at h2
  injection h2 with h2
  subst h2
  cases h3
 refine ⟨b, off, e, Nat.lt_of_lt_of_le hlt hg.size, fun k hk => ?_⟩
 obtain ⟨c0, c1⟩ := hc k hk
 exact ⟨(World.cell?_of_block (a := ⟨b, _, none⟩) hb).trans c0, (World.cell?_of_block (a := ⟨b, _, none⟩) hb).trans c1⟩
/-- The body's step: the list grows by a line. -/
theorem liI_step {nb z : Nat} {w1 W W2 : World} {pre : List LnR} {x : LnR} {v v' : Value} {cs : Array Value} {t : TypeId} (hz : nb < z) (hv : Boxed W nb 37 v) (ho : W.ownsRow z 58 7 v pre.length (pre.flatMap linLL)) (hb : Below nb w1 W) (hzz : z ≤ W.heap.size)
  (hg : (W.alloc (.cells cs t)).grownBy W2 v.ownBlock) (ho2 : W2.ownsRow z 58 7 v' (pre.length + 1) (pre.flatMap linLL ++ linLL x)) (hn : v'.ownBlock = v.ownBlock ∨ ∃ k, v'.ownBlock = some k ∧ (W.alloc (.cells cs t)).heap.size ≤ k) :
  KeepsFrom z W (W2.setCell ⟨nb, 0, none⟩ v') ∧ KpL nb W (W2.setCell ⟨nb, 0, none⟩ v') ∧ LiI nb z w1 (pre ++ [x]) (W2.setCell ⟨nb, 0, none⟩ v') := by
 have hlt := hv.lt
 have hown : ∀ k, v.ownBlock = some k → z ≤ k ∧ k < W.heap.size := fun k e => ho.lt k e
 have hnr : some nb ≠ v.ownBlock := fun e => by have := hown nb e.symm; omega
 have hv2 : Boxed W2 nb 37 v := (hv.alloc _).kept hg hnr
 have hs2 : W.heap.size + 1 ≤ W2.heap.size := by have := hg.size; simpa using this
 have hsz : (W2.setCell ⟨nb, 0, none⟩ v').heap.size = W2.heap.size := by simp
 have hblk : ∀ b, b < W.heap.size → b ≠ nb → v.ownBlock ≠ some b → (W2.setCell ⟨nb, 0, none⟩ v').heap[b]? = W.heap[b]? := fun b hb1 hb2 hb3 => by
  rw [Below.heap_setCell _ _ _ _ (show b ≠ (⟨nb, 0, none⟩ : Addr).block from hb2), hg.block b (by simp; omega) (fun e => hb3 e.symm), Below.heap_alloc _ _ _ hb1]
 have hv3 := hv2.set v'
 have e1 : obW nb W = v.ownBlock := obW_boxed hv
 have e2 : obW nb (W2.setCell ⟨nb, 0, none⟩ v') = v'.ownBlock := obW_boxed hv3
 have ho3 : (W2.setCell ⟨nb, 0, none⟩ v').ownsRow z 58 7 v' (pre.length + 1) (pre.flatMap linLL ++ linLL x) := by
  refine ho2.kept (grownBy_setCell' W2 nb v') ?_
  cases h : v'.ownBlock with
  | none => exact .inl rfl
  | some k => exact .inr (fun e => by have := (ho2.lt k h).1; cases e; omega)
 have hbel : Below nb W (W2.setCell ⟨nb, 0, none⟩ v') := by
  refine ⟨?_, ?_, ?_, by omega, fun k hk => hblk k (by omega) (by omega) (fun e => by have := hown k e; omega)⟩
  ·exact hg.os
  ·exact hg.tape
  ·exact hg.output
 refine ⟨⟨by omega, fun k o hk hh hc => ?_⟩, ⟨hbel, fun b cs t fz hb1 hb2 hh => ?_, fun b e => ?_, fun _ b e => ?_⟩, ⟨⟨v', hv3, ?_⟩, hb.trans hbel, Nat.le_trans hzz hbel.size⟩⟩
 ·have hkl : k < W.heap.size := heap_lt hh
  refine (hblk k hkl (by omega) fun e => ?_).trans hh
  rcases ho.2 with ⟨rfl, _⟩ | ⟨g, cap, cur, rfl, hgz, hh2, _⟩
  ·cases e
  ·simp [Value.ownBlock] at e
   subst e
   rw [hh2] at hh
   injection hh with hh
   subst hh
   cases hc
 ·exact (hblk b (heap_lt hh) hb1 (by rw [← e1]; exact hb2)).trans hh
 ·rw [e2] at e
  rw [e1]
  rcases hn with h | ⟨k, h, hk⟩
  ·exact .inl (h ▸ e)
  ·rw [h] at e
   cases e
   simp at hk
   exact .inr (by omega)
 ·rw [e2] at e
  rw [hsz]
  exact (ho2.lt b e).2
 ·rw [List.length_append, List.flatMap_append]
  simpa using ho3
end Go.Proofs.YtdjlaiilngechaaGreatDoor
