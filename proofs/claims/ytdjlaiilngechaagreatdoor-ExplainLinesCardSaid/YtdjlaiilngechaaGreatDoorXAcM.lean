/- Texts laid together: AcM AcN Opq Opr. -/
import Derived.Test.YtdjlaiilngechaaGreatDoorXRowM
import Derived.Test.YtdjlaiilngechaaGreatDoorXKeep
import Derived.Test.YtdjlaiilngechaaGreatDoorXDaM
import Derived.Test.YtdjlaiilngechaaGreatDoorXStA
import Derived.Test.YtdjlaiilngechaaGreatDoorXReg
import Derived.Great.BuildSlice
import Derived.Great.Walk
import Derived.Laws.CopyOwn
import Derived.Laws.Rows
import Derived.Deep.MidRow
namespace Go.Proofs.YtdjlaiilngechaaGreatDoor
set_option maxRecDepth 4000
set_option linter.unusedSimpArgs false
set_option linter.unusedVariables false
open Go.RowKit
/-- The interest of one side of a product. -/
structure LInt where
 tA : Option Addr
 tn : Nat
 tc : Nat
 mg : Bool
 ba : Int
 mo : Int
 ke : Bool
 f : Nat → Int
 g : Nat → Int
/-- A version of a product: its cells, and what is read of it. -/
structure LPro where
 C : Array Value
 nm : ByteArray
 fr : Int
 cr : LInt
 db : LInt
structure PrC (C : Array Value) (p : LPro) : Prop where
 size : C.size = 19
 ones : C.all (·.oneCell') = true
 nm : C[0]? = some (.string p.nm)
 fr : C[3]? = some (.int .i64 p.fr)
 c0 : C[7]? = some (.slice p.cr.tA p.cr.tn p.cr.tc)
 c1 : C[8]? = some (.bool p.cr.mg)
 c2 : C[9]? = some (.int .i64 p.cr.ba)
 c3 : C[10]? = some (.int .i64 p.cr.mo)
 c4 : C[11]? = some (.bool p.cr.ke)
 d0 : C[12]? = some (.slice p.db.tA p.db.tn p.db.tc)
 d1 : C[13]? = some (.bool p.db.mg)
 d2 : C[14]? = some (.int .i64 p.db.ba)
 d3 : C[15]? = some (.int .i64 p.db.mo)
 d4 : C[16]? = some (.bool p.db.ke)
/-- Tiers that the walks take. -/
structure InI (x : LInt) : Prop where
 tn : x.tn ≤ 1000000
 ib : IB x.tn x.f x.g
 ba : IIn x.ba
def laterB (P : Nat → LPro) (i : Nat) : Option Nat → Bool
 | none => true
 | some k => decide ((P k).fr < (P i).fr)
/-- The version that holds on a day. -/
def bstP (P : Nat → LPro) (nm : ByteArray) (day : Int) : Nat → Option Nat
 | 0 => none
 | i + 1 => if ((P i).nm.toList == nm.toList) = true ∧ (P i).fr ≤ day ∧ laterB P i (bstP P nm day i) = true then some i else bstP P nm day i
def bstV (P : Nat → LPro) (nm : ByteArray) (day : Int) (n : Nat) : Int := match bstP P nm day n with | some k => k | none => -1
theorem bstP_lt {P : Nat → LPro} {nm : ByteArray} {day : Int} : ∀ {n k : Nat}, bstP P nm day n = some k → k < n
 | 0, k, h => by cases h
 | n + 1, k, h => by
  unfold bstP at h
  split at h
  ·injection h with h; omega
  ·have := bstP_lt h; omega
theorem bstV_some {P : Nat → LPro} {nm : ByteArray} {day : Int} {n k : Nat} (h : bstP P nm day n = some k) : bstV P nm day n = k := by unfold bstV; rw [h]
theorem bstV_none {P : Nat → LPro} {nm : ByteArray} {day : Int} {n : Nat} (h : bstP P nm day n = none) : bstV P nm day n = -1 := by unfold bstV; rw [h]
theorem bst_nm {P : Nat → LPro} {nm : ByteArray} {day : Int} {n : Nat} (h : ((P n).nm.toList == nm.toList) = false) : bstP P nm day (n + 1) = bstP P nm day n := if_neg fun hh => by rw [h] at hh; cases hh.1
theorem bst_fr {P : Nat → LPro} {nm : ByteArray} {day : Int} {n : Nat} (h : day < (P n).fr) : bstP P nm day (n + 1) = bstP P nm day n := if_neg fun hh => by have := hh.2.1; omega
theorem bst_old {P : Nat → LPro} {nm : ByteArray} {day : Int} {n k : Nat} (hk : bstP P nm day n = some k) (h : (P n).fr ≤ (P k).fr) : bstP P nm day (n + 1) = bstP P nm day n := if_neg fun hh => by
 have := hh.2.2
 rw [hk] at this
 have := of_decide_eq_true this
 omega
theorem bst_none {P : Nat → LPro} {nm : ByteArray} {day : Int} {n : Nat} (h1 : ((P n).nm.toList == nm.toList) = true) (h2 : (P n).fr ≤ day) (hk : bstP P nm day n = none) : bstP P nm day (n + 1) = some n := if_pos ⟨h1, h2, by rw [hk]; rfl⟩
theorem bst_new {P : Nat → LPro} {nm : ByteArray} {day : Int} {n k : Nat} (h1 : ((P n).nm.toList == nm.toList) = true) (h2 : (P n).fr ≤ day) (hk : bstP P nm day n = some k) (h : (P k).fr < (P n).fr) : bstP P nm day (n + 1) = some n := if_pos ⟨h1, h2, by rw [hk]; exact decide_eq_true h⟩
/-- An account is open on a day. -/
def actL (x : LAcc) (day : Int) : Bool := decide (x.op ≤ day) && (x.cl == 0 || decide (day < x.cl))
/-- The movements by value date. -/
def upB (bk va : Int) (e : LEnt) : Bool := decide (e.bk ≤ bk ∧ e.va ≤ va)
/-! ### Weights -/
noncomputable def thr (f t : Int) : Int := if vday f = true ∧ vday t = true then 360 * (cY t - cY f) + 30 * (cM t - cM f) + min (cD t) 30 - min (cD f) 30 else 0
noncomputable def wgt (ba day : Int) : Int :=
 if vday day = false then 0 else if ba = 1 then 4453 else if ba = 2 then 4392 else if ba = 3 then (if lpB (cY day) = true then 4380 else 4392) else if ba = 4 then thr day (day + 1) * 4453 else 0
theorem civ_bds {day : Int} (h : vday day = true) : 2000 ≤ cY day ∧ cY day ≤ 2199 ∧ 1 ≤ cM day ∧ cM day ≤ 12 ∧ 1 ≤ cD day ∧ cD day ≤ 31 := by
 obtain ⟨h1, h2, h3, h4, h5, h6, _⟩ := civ_is h
 have := mlen_bd (cY day) h3 h4
 omega
theorem thr_bd (f t : Int) : -72000 ≤ thr f t ∧ thr f t ≤ 72399 := by
 unfold thr
 split
 ·rename_i h
  have a := civ_bds h.1
  have b := civ_bds h.2
  omega
 ·omega
/-! ### The interest of a day -/
/-- The interest of a balance. -/
noncomputable def grn (x : LInt) (b day : Int) : Int :=
 grR (slices x.tn x.f x.g x.mg b (rate x.tn x.f x.g b)).length (fsts (slices x.tn x.f x.g x.mg b (rate x.tn x.f x.g b))) (snds (slices x.tn x.f x.g x.mg b (rate x.tn x.f x.g b))) (wgt x.ba day)
structure LAcr where
 ac : Int
 dy : Int
 bl : Int
 cr : Int
 db : Int
def acrC (a : LAcr) : Nat → Value
 | 0 => .int .i64 a.ac | 1 => .int .i64 a.dy | 2 => .int .i64 a.bl | 3 => .int .i64 (hiW a.cr) | 4 => .int .u64 (loW a.cr) | 5 => .int .i64 (hiW a.db) | 6 => .int .u64 (loW a.db) | _ => undef
def acrL (a : LAcr) : List Value := [.int .i64 a.ac, .int .i64 a.dy, .int .i64 a.bl, .int .i64 (hiW a.cr), .int .u64 (loW a.cr), .int .i64 (hiW a.db), .int .u64 (loW a.db)]
theorem acrL_len (p : LAcr) : (acrL p).length = 7 := rfl
def zAcr : LAcr := ⟨0, 0, 0, 0, 0⟩
def atR (l : List LAcr) (k : Nat) : LAcr := l.getD k zAcr
theorem atR_at {l : List LAcr} {k : Nat} (h : k < l.length) : atR l k = l[k] := by simp [atR, List.getD, h]
theorem acrL_at (e : LAcr) (j : Nat) (h : j < 7) : (acrL e)[j]? = some (acrC e j) := by
 match j with
 | 0 | 1 | 2 | 3 | 4 | 5 | 6 => rfl
 | j + 7 => omega
def RowAcr (w : World) (A : Option Addr) (n : Nat) (a : Nat → LAcr) : Prop := RowS w A n 7 (fun k => acrC (a k))
theorem RowAcr.below {w w' : World} {A : Option Addr} {n : Nat} {a : Nat → LAcr} (h : RowAcr w A n a) (hb : Below w.heap.size w w') : RowAcr w' A n a := RowS.below h hb
theorem RowAcr.at {w : World} {A : Option Addr} {n k : Nat} {a : Nat → LAcr} (h : RowAcr w A n a) (hk : k < n) : ∃ b off, A = some ⟨b, off, none⟩ ∧ b < w.heap.size ∧
  w.cell? ⟨b, off + k * 7, none⟩ = some (.int .i64 (a k).ac) ∧ w.cell? ⟨b, off + k * 7 + 1, none⟩ = some (.int .i64 (a k).dy) ∧ w.cell? ⟨b, off + k * 7 + 2, none⟩ = some (.int .i64 (a k).bl) ∧ w.cell? ⟨b, off + k * 7 + 3, none⟩ = some (.int .i64 (hiW (a k).cr)) ∧
  w.cell? ⟨b, off + k * 7 + 4, none⟩ = some (.int .u64 (loW (a k).cr)) ∧ w.cell? ⟨b, off + k * 7 + 5, none⟩ = some (.int .i64 (hiW (a k).db)) ∧ w.cell? ⟨b, off + k * 7 + 6, none⟩ = some (.int .u64 (loW (a k).db)) := by
 obtain ⟨b, off, e, hlt, hc⟩ := RowS.at h hk
 exact ⟨b, off, e, hlt, hc 0 (by omega), hc 1 (by omega), hc 2 (by omega), hc 3 (by omega), hc 4 (by omega), hc 5 (by omega), hc 6 (by omega)⟩
theorem own_rowAcr {w : World} {base : Nat} {e : TypeId} {v : Value} {l : List LAcr} (h : w.ownsRow base e 7 v l.length (l.flatMap acrL)) :
  ∃ A c, v = .slice A l.length c ∧ RowAcr w A l.length (atR l) :=
 own_rowS acrL_len (fun k => acrC (atR l k)) (fun k hk j hj => by rw [acrL_at _ _ hj, atR_at hk]) h
/-! ### Sums -/
theorem fitE_iff {z : Int} : fitE z = 0 ↔ WIn z := by
 unfold fitE
 split
 ·exact ⟨fun _ => by assumption, fun _ => rfl⟩
 ·exact ⟨fun h => absurd h (by decide), fun h => absurd h (by assumption)⟩
end Go.Proofs.YtdjlaiilngechaaGreatDoor
namespace Go.Proofs.YtdjlaiilngechaaGreatDoor
set_option maxRecDepth 4000
set_option linter.unusedSimpArgs false
set_option linter.unusedVariables false
open Go.RowKit
/-- Books. -/
structure LBk where
 C : Array Value
 aA : Option Addr
 an : Nat
 ac : Nat
 a : Nat → LAcc
 jA : Option Addr
 jn : Nat
 jc : Nat
 E : Nat → LEnt
 pA : Option Addr
 pn : Nat
 pc : Nat
 P : Nat → LPro
/-- Rows of versions. -/
structure RowPro (w : World) (A : Option Addr) (n : Nat) (P : Nat → LPro) : Prop where
 row : 0 < n → ∃ b off, A = some ⟨b, off, none⟩ ∧ b < w.heap.size ∧ ∀ k j v, k < n → (P k).C[j]? = some v → w.cell? ⟨b, off + k * 19 + j, none⟩ = some v
 cr : ∀ k, k < n → Row2 w (P k).cr.tA (P k).cr.tn (P k).cr.f (P k).cr.g
 db : ∀ k, k < n → Row2 w (P k).db.tA (P k).db.tn (P k).db.f (P k).db.g
theorem RowPro.below {w w' : World} {A : Option Addr} {n : Nat} {P : Nat → LPro} (h : RowPro w A n P) (hb : Below w.heap.size w w') : RowPro w' A n P :=
 ⟨fun hn => by
  obtain ⟨b, off, e, hlt, hc⟩ := h.row hn
  exact ⟨b, off, e, Nat.lt_of_lt_of_le hlt hb.size, fun k j v hk hv => (hb.cell (p := ⟨b, _, none⟩) hlt).trans (hc k j v hk hv)⟩, fun k hk => (h.cr k hk).below hb, fun k hk => (h.db k hk).below hb⟩
/-- The version of an account's product on a day. -/
def prdB (B : LBk) (id day : Int) : Option Nat := if hasA B.a id B.an = true then bstP B.P (getA B.a id B.an).pr day B.pn else none
def actB (B : LBk) (id day : Int) : Bool := hasA B.a id B.an && actL (getA B.a id B.an) day
def balB (B : LBk) (id day : Int) : Int := sumE B.E id (upB 73048 day) B.jn
def hasB (B : LBk) (id : Int) : Bool := hasA B.a id B.an
/-- What a day accrues. -/
noncomputable def acr (B : LBk) (id day : Int) : LAcr :=
 if actB B id day = true then ⟨id, day, balB B id day,
  match prdB B id day with | some k => if 0 < balB B id day then grn (B.P k).cr (balB B id day) day else 0 | none => 0,
  match prdB B id day with | some k => if balB B id day < 0 then grn (B.P k).db (balB B id day) day else 0 | none => 0⟩
 else ⟨id, day, 0, 0, 0⟩
def dayE (B : LBk) (id day : Int) : Int := if hasB B id = false then 11 else if vday day = false then 1 else 0
noncomputable def dayV (B : LBk) (id day : Int) : LAcr := if dayE B id day = 0 then acr B id day else zAcr
def serE (B : LBk) (id f t : Int) : Int := if hasB B id = false then 11 else if vday f = false then 1 else if vday t = false then 1 else if t < f then 1 else if 4000 ≤ t - f then 1 else 0
noncomputable def serL (B : LBk) (id f : Int) : Nat → List LAcr
 | 0 => []
 | n + 1 => serL B id f n ++ [acr B id (f + n)]
noncomputable def serV (B : LBk) (id f t : Int) : List LAcr := if serE B id f t = 0 then serL B id f (t - f + 1).toNat else []
theorem serL_len (B : LBk) (id f : Int) : ∀ n, (serL B id f n).length = n
 | 0 => rfl
 | n + 1 => by unfold serL; rw [List.length_append, serL_len B id f n]; rfl
structure BkOK (B : LBk) : Prop where
 bks : Bks B.C B.aA B.an B.ac B.jA B.jn B.jc
 pro : B.C[17]? = some (.slice B.pA B.pn B.pc)
 an : B.an ≤ 1000000
 jn : B.jn ≤ 1000000
 pn : B.pn ≤ 1000000
 ones : B.C.all (·.oneCell') = true
 cells : ∀ k, k < B.pn → PrC (B.P k).C (B.P k)
 cr : ∀ k, k < B.pn → InI (B.P k).cr
 db : ∀ k, k < B.pn → InI (B.P k).db
structure BkIn (w : World) (B : LBk) : Prop where
 acc : RowAcc w B.aA B.an B.a
 jrn : Jrn w B.jA B.jn B.E
 pro : RowPro w B.pA B.pn B.P
theorem BkIn.below {w w' : World} {B : LBk} (h : BkIn w B) (hb : Below w.heap.size w w') : BkIn w' B := ⟨h.acc.below hb, h.jrn.below hb, h.pro.below hb⟩
end Go.Proofs.YtdjlaiilngechaaGreatDoor
namespace Go.Proofs.YtdjlaiilngechaaGreatDoor
set_option maxRecDepth 4000
set_option linter.unusedSimpArgs false
set_option linter.unusedVariables false
open Go.RowKit
section
variable {P : Program}
theorem run_alloc_row (w : World) (t : TypeId) (i : TypeInfo) (hi : P.info? t = some i) (z : Array Value) (hz : i.zero = some (.agg z)) :
  (Instr.alloc t true (.tuple #[])).run P w = .ok (.pointer (some ⟨w.heap.size, 0, none⟩)) (w.alloc (.cells z t)) := by
 simp [Instr.alloc, zeroValue, typeInfo, hi, hz, newVar, newRow, Value.cells]
theorem wpList_alloc_row {ops : Array Oper} {rest : List Oper} {o : Oper} {a : Act} {w : World} {Q : Exit → Act → World → Prop} (hg : o.guard = none) (t : TypeId) (ho : o.op = .alloc t) (d : Option Tmp) (hd : o.dst = d)
  (i : TypeInfo) (hi : P.info? t = some i) (z : Array Value) (hz : i.zero = some (.agg z)) (N : Nat) (hN : N = w.heap.size)
  (h : wpList P ops Q rest (a.put d (.pointer (some ⟨N, 0, none⟩))) (w.alloc (.cells z t))) : wpList P ops Q (o :: rest) a w := by
 subst hd hN
 refine wpList_plain hg fun K hK => ?_
 unfold Oper.wp execOp
 simp only [ho, Sem.run_bind, run_alloc_row w t i hi z hz, Result.andThen_ok]
 exact hK _ _ h
theorem wpList_store_newrow2 {ops : Array Oper} {rest : List Oper} {o : Oper} {a : Act} {w : World} {Q : Exit → Act → World → Prop} (hgd : o.guard = none) (ty : TypeId) (x y : Operand) (ho : o.op = .store ty x y)
  (hd : o.dst = none) (g : Nat) (cells : Array Value) (hx : a.eval x = .pointer (some ⟨g, 0, none⟩)) (hy : a.eval y = .agg cells)
  (t : TypeId) (old : Array Value) (hg : w.heap[g]? = some (.cells old t (0, 0))) (hi : (P.info? ty).map (·.size) = some cells.size)
  (hold : old.size = cells.size) (h1 : cells.all (·.oneCell') = true)
  (h : ∀ w', Below g w w' → w'.heap.size = w.heap.size → w'.heap[g]? = some (.cells cells t (0, 0)) → (∀ k, k ≠ g → w'.heap[k]? = w.heap[k]?) → wpList P ops Q rest a w') : wpList P ops Q (o :: rest) a w :=
 Go.wpList_store_rowTo hgd ty x y ho hd g cells hx hy t old hg hi hold h1 (h _ (below_setRow (Below.refl _ _) (Nat.le_refl _) _) (by simp) (setRow_heap w g old cells t _ hg) (fun k hk => setRow_other w g k cells hk))
end
theorem info_agg {p : Option TypeInfo} {z : Array Value} (h : p.bind (·.zero) = some (.agg z)) : ∃ i, p = some i ∧ i.zero = some (.agg z) := by
 cases p with
 | none => cases h
 | some i => exact ⟨i, rfl, h⟩
theorem blk_new {w : World} {o : Obj} {k : Nat} (h : k = w.heap.size) : (w.alloc o).heap[k]? = some o := by subst h; exact Go.Deep.blk_alloc_new _ _
theorem blk_under {w : World} {o x : Obj} {k : Nat} (h : w.heap[k]? = some x) : (w.alloc o).heap[k]? = some x := by
 rw [Go.Deep.blk_alloc_lt _ _ _ (Array.getElem?_eq_some_iff.1 h).1]; exact h
theorem blk_setRow {w : World} {x : Obj} {g k : Nat} {cs : Array Value} (hn : k ≠ g) (h : w.heap[k]? = some x) : (w.setRow g cs).heap[k]? = some x := (setRow_other w g k cs hn).trans h
/-- A block known whole, one cell of which is written. -/
theorem blk_setCell {w : World} {g i : Nat} {C : Array Value} {t : TypeId} {fr : Nat × Nat} {v : Value} (h : w.heap[g]? = some (.cells C t fr)) : (w.setCell ⟨g, i, none⟩ v).heap[g]? = some (.cells (C.setIfInBounds i v) t fr) := by
 rw [setCell_eq_setRow w g i C t fr v h]
 exact setRow_heap w g C _ t fr h
theorem blk_setOther {w : World} {p : Addr} {v : Value} {k : Nat} {x : Obj} (hn : k ≠ p.block) (h : w.heap[k]? = some x) : (w.setCell p v).heap[k]? = some x := by
 rw [Go.Deep.blk_setCell_other _ _ _ _ hn]; exact h
theorem blk_below {w w' : World} {B k : Nat} {x : Obj} (hb : Below B w w') (hk : k < B) (h : w.heap[k]? = some x) : w'.heap[k]? = some x := (hb.block k hk).trans h
theorem free_of_cells {w : World} {g : Nat} {C : Array Value} {t : TypeId} (h : w.heap[g]? = some (.cells C t (0, 0))) (o : Nat) : w.frozen? ⟨g, o, none⟩ = false := by
 simp [World.frozen?, h]
theorem blk_drew {w : World} {x : Obj} {k : Nat} (h : w.heap[k]? = some x) : w.drew.heap[k]? = some x := h
/-- A block known whole is a row. -/
theorem rowS_of {w : World} {b : Nat} {cs : Array Value} {t : TypeId} {fz : Nat × Nat} {n size : Nat} {C : Nat → Nat → Value} (hb : w.heap[b]? = some (.cells cs t fz)) (h : ∀ k j, k < n → j < size → cs[k * size + j]? = some (C k j)) : RowS w (some ⟨b, 0, none⟩) n size C := fun _ =>
 ⟨b, 0, rfl, heap_lt hb, fun k j hk hj => by rw [cell_of_cells hb, Nat.zero_add]; exact h k j hk hj⟩
end Go.Proofs.YtdjlaiilngechaaGreatDoor
namespace Go.Proofs.YtdjlaiilngechaaGreatDoor
set_option maxRecDepth 4000
set_option linter.unusedSimpArgs false
set_option linter.unusedVariables false
open Go.RowKit
theorem results_row_tmp {P : Program} {fn : Func} {p q : Tmp} {ty : TypeId} (h : fn.results = #[.cell p ty, .tmp q]) (tmps : Array Value) (w : World) (g : Nat) (t : TypeId) (cs : Array Value) (fr : Nat × Nat) (d : TypeDesc)
  (hp : tmps.getD p undef = .pointer (some ⟨g, 0, none⟩)) (hg : w.heap[g]? = some (.cells cs t fr)) (v : Value) (hq : tmps.getD q undef = v)
  (hu : P.underlying ty = some d) (hd : (match d with | .struct _ | .array _ _ => true | _ => false) = true) (hi : (P.info? ty).map (·.size) = some cs.size) :
  (results fn tmps).run P w = .ok (.tuple #[.agg cs, v]) w := by
 have hp' : tmps[p]?.getD undef = .pointer (some ⟨g, 0, none⟩) := by simpa using hp
 have hq' : tmps[q]?.getD undef = v := by simpa using hq
 simp [results, h, hp', hq', asAddr, run_loadVar_row w g t ty cs fr d hg hu hd hi]
theorem wpList_load_midA {P : Program} {ops : Array Oper} {rest : List Oper} {op : Oper} {a : Act} {w : World} {Q : Exit → Act → World → Prop} (hgd : op.guard = none) (ty : TypeId) (x : Operand) (ho : op.op = .load ty x)
  (b o : Nat) (hx : a.eval x = .pointer (some ⟨b, o, none⟩)) (C : Array Value) (d : TypeDesc) (hc : ∀ j v, C[j]? = some v → w.cell? ⟨b, o + j, none⟩ = some v)
  (hu : P.underlying ty = some d) (hd : d.isRow = true) (hi : (P.info? ty).map (·.size) = some C.size)
  (h : wpList P ops Q rest (a.put op.dst (.agg C)) w) : wpList P ops Q (op :: rest) a w :=
 Go.wpList_load_mid hgd ty x ho b o hx C.toList d (fun j v hv => hc j v (by simpa using hv)) hu hd (by simpa using hi) (by simpa using h)
end Go.Proofs.YtdjlaiilngechaaGreatDoor
