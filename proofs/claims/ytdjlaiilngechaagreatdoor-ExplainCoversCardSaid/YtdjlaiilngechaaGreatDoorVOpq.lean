/- Texts laid together: Opq Opr. -/
import Derived.Test.YtdjlaiilngechaaGreatDoorVReg
import Derived.Test.YtdjlaiilngechaaGreatDoorVRowM
import Derived.Great.BuildSlice
import Derived.Great.Walk
import Derived.Laws.CopyOwn
import Derived.Laws.Rows
import Derived.Deep.MidRow
namespace Go.Proofs.YtdjlaiilngechaaGreatDoor
set_option maxRecDepth 4000
set_option linter.unusedSimpArgs false
set_option linter.unusedVariables false
open Go.RowKit
section
variable {P : Program}
theorem run_alloc_row (w : World) (t : TypeId) (i : TypeInfo) (hi : P.info? t = some i) (z : Array Value) (hz : i.zero = some (.agg z)) :
    (Instr.alloc t true (.tuple #[])).run P w = .ok (.pointer (some ⟨w.heap.size, 0, none⟩)) (w.alloc (.cells z t)) := by
  simp [Instr.alloc, zeroValue, typeInfo, hi, hz, newVar, newRow, Value.cells]
theorem wpList_alloc_row {ops : Array Oper} {rest : List Oper} {o : Oper} {a : Act} {w : World} {Q : Exit → Act → World → Prop} (hg : o.guard = none) (t : TypeId) (ho : o.op = .alloc t) (d : Option Tmp) (hd : o.dst = d)
    (i : TypeInfo) (hi : P.info? t = some i) (z : Array Value) (hz : i.zero = some (.agg z)) (N : Nat) (hN : N = w.heap.size)
    (h : wpList P ops Q rest (a.put d (.pointer (some ⟨N, 0, none⟩))) (w.alloc (.cells z t))) : wpList P ops Q (o :: rest) a w := by
  subst hd hN
  refine wpList_plain hg fun K hK => ?_
  unfold Oper.wp execOp
  simp only [ho, Sem.run_bind, run_alloc_row w t i hi z hz, Result.andThen_ok]
  exact hK _ _ h
theorem wpList_store_newrow2 {ops : Array Oper} {rest : List Oper} {o : Oper} {a : Act} {w : World} {Q : Exit → Act → World → Prop} (hgd : o.guard = none) (ty : TypeId) (x y : Operand) (ho : o.op = .store ty x y)
    (hd : o.dst = none) (g : Nat) (cells : Array Value) (hx : a.eval x = .pointer (some ⟨g, 0, none⟩)) (hy : a.eval y = .agg cells)
    (t : TypeId) (old : Array Value) (hg : w.heap[g]? = some (.cells old t (0, 0))) (hi : (P.info? ty).map (·.size) = some cells.size)
    (hold : old.size = cells.size) (h1 : cells.all (·.oneCell') = true)
    (h : ∀ w', Below g w w' → w'.heap.size = w.heap.size → w'.heap[g]? = some (.cells cells t (0, 0)) → (∀ k, k ≠ g → w'.heap[k]? = w.heap[k]?) → wpList P ops Q rest a w') : wpList P ops Q (o :: rest) a w :=
  Go.wpList_store_rowTo hgd ty x y ho hd g cells hx hy t old hg hi hold h1 (h _ (below_setRow (Below.refl _ _) (Nat.le_refl _) _) (by simp) (setRow_heap w g old cells t _ hg) (fun k hk => setRow_other w g k cells hk))
end
theorem info_agg {p : Option TypeInfo} {z : Array Value} (h : p.bind (·.zero) = some (.agg z)) : ∃ i, p = some i ∧ i.zero = some (.agg z) := by
  cases p with
  | none => cases h
  | some i => exact ⟨i, rfl, h⟩
theorem blk_new {w : World} {o : Obj} {k : Nat} (h : k = w.heap.size) : (w.alloc o).heap[k]? = some o := by subst h; exact Go.Deep.blk_alloc_new _ _
theorem blk_under {w : World} {o x : Obj} {k : Nat} (h : w.heap[k]? = some x) : (w.alloc o).heap[k]? = some x := by
  rw [Go.Deep.blk_alloc_lt _ _ _ (Array.getElem?_eq_some_iff.1 h).1]; exact h
theorem blk_setRow {w : World} {x : Obj} {g k : Nat} {cs : Array Value} (hn : k ≠ g) (h : w.heap[k]? = some x) : (w.setRow g cs).heap[k]? = some x := (setRow_other w g k cs hn).trans h
/-- A block known whole, one cell of which is written. -/
theorem blk_setCell {w : World} {g i : Nat} {C : Array Value} {t : TypeId} {fr : Nat × Nat} {v : Value} (h : w.heap[g]? = some (.cells C t fr)) : (w.setCell ⟨g, i, none⟩ v).heap[g]? = some (.cells (C.setIfInBounds i v) t fr) := by
  rw [setCell_eq_setRow w g i C t fr v h]
  exact setRow_heap w g C _ t fr h
theorem blk_setOther {w : World} {p : Addr} {v : Value} {k : Nat} {x : Obj} (hn : k ≠ p.block) (h : w.heap[k]? = some x) : (w.setCell p v).heap[k]? = some x := by
  rw [Go.Deep.blk_setCell_other _ _ _ _ hn]; exact h
theorem blk_below {w w' : World} {B k : Nat} {x : Obj} (hb : Below B w w') (hk : k < B) (h : w.heap[k]? = some x) : w'.heap[k]? = some x := (hb.block k hk).trans h
theorem free_of_cells {w : World} {g : Nat} {C : Array Value} {t : TypeId} (h : w.heap[g]? = some (.cells C t (0, 0))) (o : Nat) : w.frozen? ⟨g, o, none⟩ = false := by
  simp [World.frozen?, h]
theorem blk_drew {w : World} {x : Obj} {k : Nat} (h : w.heap[k]? = some x) : w.drew.heap[k]? = some x := h
/-- A block known whole is a row. -/
theorem rowS_of {w : World} {b : Nat} {cs : Array Value} {t : TypeId} {fz : Nat × Nat} {n size : Nat} {C : Nat → Nat → Value} (hb : w.heap[b]? = some (.cells cs t fz)) (h : ∀ k j, k < n → j < size → cs[k * size + j]? = some (C k j)) : RowS w (some ⟨b, 0, none⟩) n size C := fun _ =>
  ⟨b, 0, rfl, heap_lt hb, fun k j hk hj => by rw [cell_of_cells hb, Nat.zero_add]; exact h k j hk hj⟩
end Go.Proofs.YtdjlaiilngechaaGreatDoor
namespace Go.Proofs.YtdjlaiilngechaaGreatDoor
set_option maxRecDepth 4000
set_option linter.unusedSimpArgs false
set_option linter.unusedVariables false
open Go.RowKit
theorem results_row_tmp {P : Program} {fn : Func} {p q : Tmp} {ty : TypeId} (h : fn.results = #[.cell p ty, .tmp q]) (tmps : Array Value) (w : World) (g : Nat) (t : TypeId) (cs : Array Value) (fr : Nat × Nat) (d : TypeDesc)
    (hp : tmps.getD p undef = .pointer (some ⟨g, 0, none⟩)) (hg : w.heap[g]? = some (.cells cs t fr)) (v : Value) (hq : tmps.getD q undef = v)
    (hu : P.underlying ty = some d) (hd : (match d with | .struct _ | .array _ _ => true | _ => false) = true) (hi : (P.info? ty).map (·.size) = some cs.size) :
    (results fn tmps).run P w = .ok (.tuple #[.agg cs, v]) w := by
  have hp' : tmps[p]?.getD undef = .pointer (some ⟨g, 0, none⟩) := by simpa using hp
  have hq' : tmps[q]?.getD undef = v := by simpa using hq
  simp [results, h, hp', hq', asAddr, run_loadVar_row w g t ty cs fr d hg hu hd hi]
theorem wpList_load_midA {P : Program} {ops : Array Oper} {rest : List Oper} {op : Oper} {a : Act} {w : World} {Q : Exit → Act → World → Prop} (hgd : op.guard = none) (ty : TypeId) (x : Operand) (ho : op.op = .load ty x)
    (b o : Nat) (hx : a.eval x = .pointer (some ⟨b, o, none⟩)) (C : Array Value) (d : TypeDesc) (hc : ∀ j v, C[j]? = some v → w.cell? ⟨b, o + j, none⟩ = some v)
    (hu : P.underlying ty = some d) (hd : d.isRow = true) (hi : (P.info? ty).map (·.size) = some C.size)
    (h : wpList P ops Q rest (a.put op.dst (.agg C)) w) : wpList P ops Q (op :: rest) a w :=
  Go.wpList_load_mid hgd ty x ho b o hx C.toList d (fun j v hv => hc j v (by simpa using hv)) hu hd (by simpa using hi) (by simpa using h)
end Go.Proofs.YtdjlaiilngechaaGreatDoor
