/- Texts laid together: AcP TrM. -/
import Derived.Test.YtdjlaiilngechaaGreatDoorXRowM
namespace Go.Proofs.YtdjlaiilngechaaGreatDoor
set_option maxRecDepth 4000
set_option linter.unusedSimpArgs false
set_option linter.unusedVariables false
open Go.RowKit
section
variable {P : Program}
theorem run_append_none2 {w : World} (base : Nat) (t ty e : TypeId) (i : TypeInfo) (size : Nat) (ht : P.underlying t = some (.slice e)) (hi : P.info? e = some i)
  (v : Value) (n c : Nat) (xs : List Value) (hown : w.ownsRow base e size v n xs) :
  (Builtin.append_ #[t, t] ty #[v, .slice none 0 c]).run P w = .ok v w := by
 rcases hown.2 with ⟨rfl, rfl⟩ | ⟨g, cap, cur, rfl, _, _, hnc, _⟩
 ·simp [Builtin.append_, run_underlying ht, sizeOf, typeInfo, hi, Builtin.lenOf, Builtin.firstCells]
 ·simp [Builtin.append_, run_underlying ht, sizeOf, typeInfo, hi, Builtin.lenOf, Builtin.firstCells, hnc, storeCells]
theorem rowS_news {w : World} {b off m size : Nat} {C : Nat → Nat → Value} {news : List Value} (hsz : 0 < size) (hrow : ∀ k j, k < m → j < size → w.cell? ⟨b, off + (k * size + j), none⟩ = some (C k j)) (hl : news.length = m * size)
  (hn : ∀ k j, k < m → j < size → news[k * size + j]? = some (C k j)) (j : Nat) (u : Value) (hu : news[j]? = some u) : w.cell? ((⟨b, off, none⟩ : Addr).add j) = some u := by
 have hj : j < m * size := by rw [← hl]; exact (List.getElem?_eq_some_iff.1 hu).1
 have h1 : j / size < m := (Nat.div_lt_iff_lt_mul hsz).2 hj
 have h2 : j % size < size := Nat.mod_lt _ hsz
 have h3 : j / size * size + j % size = j := by rw [Nat.mul_comm]; exact Nat.div_add_mod j size
 have e1 := hn _ _ h1 h2
 have e2 := hrow _ _ h1 h2
 rw [h3] at e1 e2
 have e : ((⟨b, off, none⟩ : Addr).add j) = ⟨b, off + j, none⟩ := by
  simp [Addr.add]
 rw [e, e2, ← e1, hu]
theorem append_rowS (w : World) (base : Nat) (t ty e : TypeId) (i : TypeInfo) (z : Value) (size bytes : Nat) (ht : P.underlying t = some (.slice e)) (hi : P.info? e = some i) (hz : i.zero = some z)
  (hsize : i.size = size) (hby : i.bytes = bytes) (hzs : z.cells.size = size) (hsz : 0 < size)
  (v : Value) (n : Nat) (xs : List Value) (hown : w.ownsRow base e size v n xs)
  (A : Option Addr) (m c : Nat) (C : Nat → Nat → Value) (hrow : RowS w A m size C) (news : List Value) (hl : news.length = m * size) (hn : ∀ k j, k < m → j < size → news[k * size + j]? = some (C k j)) (h1 : ∀ u ∈ news, u.oneCell' = true)
  (h63 : n + m ≤ maxLen) (hbytes : (n + m) * bytes ≤ 140737488355328) (hbase : base ≤ w.heap.size) :
  ∃ A' c' w', (Builtin.append_ #[t, t] ty #[v, .slice A m c]).run P w = .ok (.slice A' (n + m) c') w' ∧ w'.ownsRow base e size (.slice A' (n + m) c') (n + m) (xs ++ news) ∧ w.grownBy w' v.ownBlock ∧
   ((Value.slice A' (n + m) c').ownBlock = v.ownBlock ∨ ∃ k, (Value.slice A' (n + m) c').ownBlock = some k ∧ w.heap.size ≤ k) := by
 cases A with
 | none =>
  have hm : m = 0 := by
   rcases Nat.eq_zero_or_pos m with h | h
   ·exact h
   ·obtain ⟨b, off, e, _⟩ := hrow h; cases e
  subst hm
  obtain rfl : news = [] := by rw [Nat.zero_mul] at hl; exact List.eq_nil_of_length_eq_zero hl
  have hr := run_append_none2 (P := P) (w := w) base t ty e i size ht hi v n c xs hown
  obtain ⟨A', c', hv⟩ : ∃ A' c', v = .slice A' n c' := by
   rcases hown.2 with ⟨rfl, h0⟩ | ⟨g, cap, cur, rfl, _⟩
   ·exact ⟨none, 0, by rw [h0]⟩
   ·exact ⟨_, _, rfl⟩
  refine ⟨A', c', w, by rw [hr, hv]; rfl, ?_, ⟨rfl, rfl, rfl, Nat.le_refl _, fun _ _ _ => rfl⟩, .inl (by rw [hv]; rfl)⟩
  rw [List.append_nil, Nat.add_zero, ← hv]
  exact hown
 | some ad =>
  refine append_own2 (P := P) w base t ty e i z size bytes ht hi hz hsize hby hzs hsz v n xs hown ad m c news hl ?_ h1 h63 hbytes hbase
  intro j u hu
  rcases Nat.eq_zero_or_pos m with h | h
  ·subst h
   rw [Nat.zero_mul] at hl
   rw [List.eq_nil_of_length_eq_zero hl] at hu
   cases hu
  ·obtain ⟨b, off, e, _, hc⟩ := hrow h
   injection e with e
   subst e
   exact rowS_news hsz hc hl hn j u hu
theorem wpList_append_rowS (w : World) {ops : Array Oper} {rest : List Oper} {o : Oper} {a : Act} {Q : Exit → Act → World → Prop} (hgd : o.guard = none) (s x : Operand) (t : TypeId)
  (ho : o.op = .call { callee := .builtin .append, args := #[s, x], argTypes := #[t, t] })
  (base : Nat) (e : TypeId) (i : TypeInfo) (z : Value) (size bytes : Nat) (ht : P.underlying t = some (.slice e)) (hi : P.info? e = some i) (hz : i.zero = some z)
  (hsize : i.size = size) (hby : i.bytes = bytes) (hzs : z.cells.size = size) (hsz : 0 < size)
  (v : Value) (n : Nat) (xs : List Value) (hs : a.eval s = v) (hown : w.ownsRow base e size v n xs)
  (A : Option Addr) (m c : Nat) (hx : a.eval x = .slice A m c) (C : Nat → Nat → Value) (hrow : RowS w A m size C) (news : List Value) (hl : news.length = m * size) (hn : ∀ k j, k < m → j < size → news[k * size + j]? = some (C k j)) (h1 : ∀ u ∈ news, u.oneCell' = true)
  (h63 : n + m ≤ maxLen) (hbytes : (n + m) * bytes ≤ 140737488355328) (hbase : base ≤ w.heap.size)
  (h : ∀ A' c' w', w'.ownsRow base e size (.slice A' (n + m) c') (n + m) (xs ++ news) → w.grownBy w' v.ownBlock → ((Value.slice A' (n + m) c').ownBlock = v.ownBlock ∨ ∃ k, (Value.slice A' (n + m) c').ownBlock = some k ∧ w.heap.size ≤ k) → wpList P ops Q rest (a.put o.dst (.slice A' (n + m) c')) w') : wpList P ops Q (o :: rest) a w := by
 refine wpList_plain hgd fun K hK => ?_
 obtain ⟨A', c', w', hr, h2, h3, h4⟩ := append_rowS (P := P) w base t o.type e i z size bytes ht hi hz hsize hby hzs hsz v n xs hown A m c C hrow news hl hn h1 h63 hbytes hbase
 unfold Oper.wp execOp
 simp only [ho, resolve, invoke, builtin, Sem.run_bind, Sem.run_pure, Result.andThen_ok, List.map_toArray, List.map_cons, List.map_nil, hs, hx, hr]
 exact hK _ _ (h A' c' w' h2 h3 h4)
end
end Go.Proofs.YtdjlaiilngechaaGreatDoor
namespace Go.Proofs.YtdjlaiilngechaaGreatDoor
set_option maxRecDepth 4000
set_option linter.unusedSimpArgs false
set_option linter.unusedVariables false
open Go.RowKit
/-- A cell's value: one that holds no memory, or a row of n elements of sz cells. -/
inductive Tr where
 | lf (v : Value)
 | row (n sz : Nat) (c : Nat → Nat → Tr)
/-- n elements of sz cells each, in a block of which S holds; cell j of element k is C k j. -/
def RowZ (S : Nat → Prop) (w : World) (A : Option Addr) (n sz : Nat) (C : Nat → Nat → Value) : Prop :=
 0 < n → ∃ b off, A = some ⟨b, off, none⟩ ∧ S b ∧ ∀ k j, k < n → j < sz → w.cell? ⟨b, off + (k * sz + j), none⟩ = some (C k j)
theorem RowZ.toS {S : Nat → Prop} {w : World} {A : Option Addr} {n sz : Nat} {C : Nat → Nat → Value} (h : RowZ S w A n sz C) (hsz : 0 < sz) : RowS w A n sz C := fun hn => by
 obtain ⟨b, off, e, _, hc⟩ := h hn
 exact ⟨b, off, e, World.block_lt_of_cell? _ _ (hc 0 0 hn hsz), hc⟩
theorem RowZ.mono {S S' : Nat → Prop} {w w' : World} {A : Option Addr} {n sz : Nat} {C : Nat → Nat → Value} (hs : ∀ b, S b → S' b) (hw : ∀ b, S b → w'.heap[b]? = w.heap[b]?) (h : RowZ S w A n sz C) : RowZ S' w' A n sz C := fun hn => by
 obtain ⟨b, off, e, hb, hc⟩ := h hn
 exact ⟨b, off, e, hs b hb, fun k j hk hj => (World.cell?_of_block (w := w) (a := ⟨b, _, none⟩) (hw b hb)).trans (hc k j hk hj)⟩
/-- The cell x of the world w reads as the tree; its rows lie in blocks of which S holds. -/
def Tr.rd (S : Nat → Prop) (w : World) : Tr → Value → Prop
 | .lf v, x => x = v
 | .row n sz c, x => ∃ A cap C, x = .slice A n cap ∧ n ≤ cap ∧ RowZ S w A n sz C ∧ ∀ k j, k < n → j < sz → (c k j).rd S w (C k j)
theorem Tr.rd.mono {S S' : Nat → Prop} {w w' : World} (hs : ∀ b, S b → S' b) (hw : ∀ b, S b → w'.heap[b]? = w.heap[b]?) : ∀ {T : Tr} {x : Value}, T.rd S w x → T.rd S' w' x
 | .lf _, _, h => h
 | .row _ _ _, _, ⟨A, cap, C, e, hc, hr, h⟩ => ⟨A, cap, C, e, hc, hr.mono hs hw, fun k j hk hj => Tr.rd.mono hs hw (h k j hk hj)⟩
/-- Blocks that lie in the world. -/
def Old (w : World) (b : Nat) : Prop := b < w.heap.size
/-- Blocks made since B. -/
def New (B : Nat) (w : World) (b : Nat) : Prop := B ≤ b ∧ b < w.heap.size
theorem Tr.rd.below {w w' : World} (hb : Below w.heap.size w w') {T : Tr} {x : Value} (h : T.rd (Old w) w x) : T.rd (Old w') w' x :=
 h.mono (fun b hb' => Nat.lt_of_lt_of_le hb' hb.size) (fun b hb' => hb.block b hb')
theorem Tr.rd.new {B : Nat} {w : World} {T : Tr} {x : Value} (h : T.rd (New B w) w x) : T.rd (Old w) w x := h.mono (fun _ h => h.2) (fun _ _ => rfl)
/-- The kinds of cells; sl e: a slice of the records that the table names e. -/
inductive Kd where
 | i | u | s | b | sl (e : Nat)
deriving DecidableEq
/-- The records of books: 0 int, 1 Currency, 2 Calendar, 3 Gl, 4 Tier, 5 Expr, 6 Fee, 7 Rule, 8 Product, 9 Account, 10 Leg, 11 Entry, 12 Hold, 13 Block, 14 Interest, 15 Books. -/
def tbl : Nat → List Kd
 | 0 => [.i]
 | 1 => [.s, .i]
 | 2 => [.s, .sl 0, .sl 0]
 | 3 => [.i, .i, .i, .s]
 | 4 => [.i, .i]
 | 5 => [.i, .i, .s, .sl 5]
 | 6 => [.s, .i, .i, .i, .s, .sl 5, .i, .i, .s, .sl 5]
 | 7 => [.s, .i, .i, .i, .s, .sl 5]
 | 8 => [.s, .s, .s, .i, .i, .i, .i, .sl 4, .b, .i, .i, .b, .sl 4, .b, .i, .i, .b, .sl 6, .sl 7]
 | 9 => [.i, .i, .i, .i, .s, .s, .s]
 | 10 => [.i, .i, .s]
 | 11 => [.i, .i, .i, .i, .i, .i, .s, .s, .sl 10, .u]
 | 12 => [.i, .i, .i, .i, .i, .s]
 | 13 => [.i, .i, .i, .i, .i, .i, .s]
 | 14 => [.sl 4, .b, .i, .i, .b]
 | 15 => [.sl 1, .sl 2, .sl 3, .i, .i, .i, .i, .i, .i, .i, .i, .i, .i, .i, .i, .i, .i, .sl 8, .sl 9, .sl 11, .sl 12, .sl 13]
 | _ => []
/-- The bytes of a record. -/
def tby : Nat → Nat
 | 0 => 8 | 1 => 24 | 2 => 64 | 3 => 40 | 4 => 16 | 5 => 56 | 6 => 136 | 7 => 80 | 8 => 240 | 9 => 80 | 10 => 32 | 11 => 112 | 12 => 56 | 13 => 64 | 14 => 56 | _ => 0
/-- The tree is of a kind. -/
def Tr.wt : Tr → Kd → Prop
 | .lf v, .i => ∃ z, v = .int .i64 z ∧ IIn z
 | .lf v, .u => ∃ z, v = .int .u64 z ∧ 0 ≤ z ∧ z < 18446744073709551616
 | .lf v, .s => ∃ s, v = .string s ∧ s.size ≤ maxLen
 | .lf v, .b => ∃ b, v = .bool b
 | .lf _, .sl _ => False
 | .row n sz c, .sl e => sz = (tbl e).length ∧ n * tby e ≤ 140737488351232 ∧ ∀ k j, k < n → j < sz → (c k j).wt ((tbl e).getD j .i)
 | .row _ _ _, _ => False
section
variable {S : Nat → Prop} {w : World} {T : Tr} {x : Value}
theorem rd_int (h : T.rd S w x) (ht : T.wt .i) : ∃ z, T = .lf (.int .i64 z) ∧ x = .int .i64 z ∧ IIn z := by
 cases T with
 | lf v => obtain ⟨z, rfl, hz⟩ := ht; exact ⟨z, rfl, h, hz⟩
 | row n sz c => cases ht
theorem rd_u64 (h : T.rd S w x) (ht : T.wt .u) : ∃ z, T = .lf (.int .u64 z) ∧ x = .int .u64 z ∧ 0 ≤ z ∧ z < 18446744073709551616 := by
 cases T with
 | lf v => obtain ⟨z, rfl, hz⟩ := ht; exact ⟨z, rfl, h, hz⟩
 | row n sz c => cases ht
theorem rd_str (h : T.rd S w x) (ht : T.wt .s) : ∃ s, T = .lf (.string s) ∧ x = .string s ∧ s.size ≤ maxLen := by
 cases T with
 | lf v => obtain ⟨z, rfl, hz⟩ := ht; exact ⟨z, rfl, h, hz⟩
 | row n sz c => cases ht
theorem rd_bool (h : T.rd S w x) (ht : T.wt .b) : ∃ b, T = .lf (.bool b) ∧ x = .bool b := by
 cases T with
 | lf v => obtain ⟨z, rfl⟩ := ht; exact ⟨z, rfl, h⟩
 | row n sz c => cases ht
/-- A leaf's value. -/
def lfv : Tr → Value
 | .lf v => v
 | .row _ _ _ => undef
def Tr.n : Tr → Nat
 | .lf _ => 0
 | .row n _ _ => n
def Tr.c : Tr → Nat → Nat → Tr
 | .lf _ => fun _ _ => .lf undef
 | .row _ _ c => c
theorem rd_one {k : Kd} (h : T.rd S w x) (ht : T.wt k) : x.oneCell' = true := by
 cases k with
 | i => obtain ⟨z, _, rfl, _⟩ := rd_int h ht; rfl
 | u => obtain ⟨z, _, rfl, _⟩ := rd_u64 h ht; rfl
 | s => obtain ⟨z, _, rfl, _⟩ := rd_str h ht; rfl
 | b => obtain ⟨z, _, rfl⟩ := rd_bool h ht; rfl
 | sl e =>
  cases T with
  | lf v => cases ht
  | row n sz c => obtain ⟨A, cap, C, rfl, _⟩ := h; rfl
end
/-- A row's elements: cell j of element k is C k j, and reads as c k j. -/
structure RowT (S : Nat → Prop) (w : World) (e : Nat) (A : Option Addr) (n : Nat) (c : Nat → Nat → Tr) (C : Nat → Nat → Value) : Prop where
 row : RowZ S w A n (tbl e).length C
 rd : ∀ k j, k < n → j < (tbl e).length → (c k j).rd S w (C k j)
/-- The kinds of a row's elements. -/
structure RowK (e n : Nat) (c : Nat → Nat → Tr) : Prop where
 room : n * tby e ≤ 140737488351232
 wt : ∀ k j, k < n → j < (tbl e).length → (c k j).wt ((tbl e).getD j .i)
theorem RowT.mono {S S' : Nat → Prop} {w w' : World} {e : Nat} {A : Option Addr} {n : Nat} {c : Nat → Nat → Tr} {C : Nat → Nat → Value} (hs : ∀ b, S b → S' b) (hw : ∀ b, S b → w'.heap[b]? = w.heap[b]?) (h : RowT S w e A n c C) : RowT S' w' e A n c C :=
 ⟨h.row.mono hs hw, fun k j hk hj => (h.rd k j hk hj).mono hs hw⟩
theorem RowT.below {w w' : World} {e : Nat} {A : Option Addr} {n : Nat} {c : Nat → Nat → Tr} {C : Nat → Nat → Value} (h : RowT (Old w) w e A n c C) (hb : Below w.heap.size w w') : RowT (Old w') w' e A n c C :=
 h.mono (fun _ hb' => Nat.lt_of_lt_of_le hb' hb.size) (fun b hb' => hb.block b hb')
theorem rd_row {S : Nat → Prop} {w : World} {T : Tr} {x : Value} {e : Nat} (h : T.rd S w x) (ht : T.wt (.sl e)) : ∃ n c, T = .row n (tbl e).length c ∧ RowK e n c ∧ ∃ A cap C, x = .slice A n cap ∧ n ≤ cap ∧ RowT S w e A n c C := by
 cases T with
 | lf v => cases ht
 | row n sz c =>
  obtain ⟨rfl, hn, hc⟩ := ht
  obtain ⟨A, cap, C, rfl, hcap, hr, h⟩ := h
  exact ⟨n, c, rfl, ⟨hn, hc⟩, A, cap, C, rfl, hcap, hr, h⟩
end Go.Proofs.YtdjlaiilngechaaGreatDoor
