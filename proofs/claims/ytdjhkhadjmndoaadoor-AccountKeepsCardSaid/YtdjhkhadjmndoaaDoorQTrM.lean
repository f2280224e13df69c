/- Texts laid together: TrM AcP TrC TrB. -/
import Derived.Test.YtdjhkhadjmndoaaDoorQRowM
import Derived.Test.YtdjhkhadjmndoaaDoorQOpq
import Derived.Great.FillDense
import Derived.OwnWalk
namespace Go.Proofs.YtdjhkhadjmndoaaDoor
set_option maxRecDepth 4000
set_option linter.unusedSimpArgs false
set_option linter.unusedVariables false
open Go.RowKit
/-- A cell's value: one that holds no memory, or a row of n elements of sz cells. -/
inductive Tr where
  | lf (v : Value)
  | row (n sz : Nat) (c : Nat → Nat → Tr)
/-- n elements of sz cells each, in a block of which S holds; cell j of element k is C k j. -/
def RowZ (S : Nat → Prop) (w : World) (A : Option Addr) (n sz : Nat) (C : Nat → Nat → Value) : Prop :=
  0 < n → ∃ b off, A = some ⟨b, off, none⟩ ∧ S b ∧ ∀ k j, k < n → j < sz → w.cell? ⟨b, off + (k * sz + j), none⟩ = some (C k j)
theorem RowZ.toS {S : Nat → Prop} {w : World} {A : Option Addr} {n sz : Nat} {C : Nat → Nat → Value} (h : RowZ S w A n sz C) (hsz : 0 < sz) : RowS w A n sz C := fun hn => by
  obtain ⟨b, off, e, _, hc⟩ := h hn
  exact ⟨b, off, e, World.block_lt_of_cell? _ _ (hc 0 0 hn hsz), hc⟩
theorem RowZ.mono {S S' : Nat → Prop} {w w' : World} {A : Option Addr} {n sz : Nat} {C : Nat → Nat → Value} (hs : ∀ b, S b → S' b) (hw : ∀ b, S b → w'.heap[b]? = w.heap[b]?) (h : RowZ S w A n sz C) : RowZ S' w' A n sz C := fun hn => by
  obtain ⟨b, off, e, hb, hc⟩ := h hn
  exact ⟨b, off, e, hs b hb, fun k j hk hj => (World.cell?_of_block (w := w) (a := ⟨b, _, none⟩) (hw b hb)).trans (hc k j hk hj)⟩
/-- The cell x of the world w reads as the tree; its rows lie in blocks of which S holds. -/
def Tr.rd (S : Nat → Prop) (w : World) : Tr → Value → Prop
  | .lf v, x => x = v
  | .row n sz c, x => ∃ A cap C, x = .slice A n cap ∧ n ≤ cap ∧ RowZ S w A n sz C ∧ ∀ k j, k < n → j < sz → (c k j).rd S w (C k j)
theorem Tr.rd.mono {S S' : Nat → Prop} {w w' : World} (hs : ∀ b, S b → S' b) (hw : ∀ b, S b → w'.heap[b]? = w.heap[b]?) : ∀ {T : Tr} {x : Value}, T.rd S w x → T.rd S' w' x
  | .lf _, _, h => h
  | .row _ _ _, _, ⟨A, cap, C, e, hc, hr, h⟩ => ⟨A, cap, C, e, hc, hr.mono hs hw, fun k j hk hj => Tr.rd.mono hs hw (h k j hk hj)⟩
/-- Blocks that lie in the world. -/
def Old (w : World) (b : Nat) : Prop := b < w.heap.size
/-- Blocks made since B. -/
def New (B : Nat) (w : World) (b : Nat) : Prop := B ≤ b ∧ b < w.heap.size
theorem Tr.rd.below {w w' : World} (hb : Below w.heap.size w w') {T : Tr} {x : Value} (h : T.rd (Old w) w x) : T.rd (Old w') w' x :=
  h.mono (fun b hb' => Nat.lt_of_lt_of_le hb' hb.size) (fun b hb' => hb.block b hb')
theorem Tr.rd.new {B : Nat} {w : World} {T : Tr} {x : Value} (h : T.rd (New B w) w x) : T.rd (Old w) w x := h.mono (fun _ h => h.2) (fun _ _ => rfl)
/-- The kinds of cells; sl e: a slice of the records that the table names e. -/
inductive Kd where
  | i | u | s | b | sl (e : Nat)
deriving DecidableEq
/-- The records of books: 0 int, 1 Currency, 2 Calendar, 3 Gl, 4 Tier, 5 Expr, 6 Fee, 7 Rule, 8 Product, 9 Account, 10 Leg, 11 Entry, 12 Hold, 13 Block, 14 Interest, 15 Books. -/
def tbl : Nat → List Kd
  | 0 => [.i]
  | 1 => [.s, .i]
  | 2 => [.s, .sl 0, .sl 0]
  | 3 => [.i, .i, .i, .s]
  | 4 => [.i, .i]
  | 5 => [.i, .i, .s, .sl 5]
  | 6 => [.s, .i, .i, .i, .s, .sl 5, .i, .i, .s, .sl 5]
  | 7 => [.s, .i, .i, .i, .s, .sl 5]
  | 8 => [.s, .s, .s, .i, .i, .i, .i, .sl 4, .b, .i, .i, .b, .sl 4, .b, .i, .i, .b, .sl 6, .sl 7]
  | 9 => [.i, .i, .i, .i, .s, .s, .s]
  | 10 => [.i, .i, .s]
  | 11 => [.i, .i, .i, .i, .i, .i, .s, .s, .sl 10, .u]
  | 12 => [.i, .i, .i, .i, .i, .s]
  | 13 => [.i, .i, .i, .i, .i, .i, .s]
  | 14 => [.sl 4, .b, .i, .i, .b]
  | 15 => [.sl 1, .sl 2, .sl 3, .i, .i, .i, .i, .i, .i, .i, .i, .i, .i, .i, .i, .i, .i, .sl 8, .sl 9, .sl 11, .sl 12, .sl 13]
  | _ => []
/-- The bytes of a record. -/
def tby : Nat → Nat
  | 0 => 8 | 1 => 24 | 2 => 64 | 3 => 40 | 4 => 16 | 5 => 56 | 6 => 136 | 7 => 80 | 8 => 240 | 9 => 80 | 10 => 32 | 11 => 112 | 12 => 56 | 13 => 64 | 14 => 56 | _ => 0
/-- The tree is of a kind. -/
def Tr.wt : Tr → Kd → Prop
  | .lf v, .i => ∃ z, v = .int .i64 z ∧ IIn z
  | .lf v, .u => ∃ z, v = .int .u64 z ∧ 0 ≤ z ∧ z < 18446744073709551616
  | .lf v, .s => ∃ s, v = .string s ∧ s.size ≤ maxLen
  | .lf v, .b => ∃ b, v = .bool b
  | .lf _, .sl _ => False
  | .row n sz c, .sl e => sz = (tbl e).length ∧ n * tby e ≤ 140737488351232 ∧ ∀ k j, k < n → j < sz → (c k j).wt ((tbl e).getD j .i)
  | .row _ _ _, _ => False
section
variable {S : Nat → Prop} {w : World} {T : Tr} {x : Value}
theorem rd_int (h : T.rd S w x) (ht : T.wt .i) : ∃ z, T = .lf (.int .i64 z) ∧ x = .int .i64 z ∧ IIn z := by
  cases T with
  | lf v => obtain ⟨z, rfl, hz⟩ := ht; exact ⟨z, rfl, h, hz⟩
  | row n sz c => cases ht
theorem rd_u64 (h : T.rd S w x) (ht : T.wt .u) : ∃ z, T = .lf (.int .u64 z) ∧ x = .int .u64 z ∧ 0 ≤ z ∧ z < 18446744073709551616 := by
  cases T with
  | lf v => obtain ⟨z, rfl, hz⟩ := ht; exact ⟨z, rfl, h, hz⟩
  | row n sz c => cases ht
theorem rd_str (h : T.rd S w x) (ht : T.wt .s) : ∃ s, T = .lf (.string s) ∧ x = .string s ∧ s.size ≤ maxLen := by
  cases T with
  | lf v => obtain ⟨z, rfl, hz⟩ := ht; exact ⟨z, rfl, h, hz⟩
  | row n sz c => cases ht
theorem rd_bool (h : T.rd S w x) (ht : T.wt .b) : ∃ b, T = .lf (.bool b) ∧ x = .bool b := by
  cases T with
  | lf v => obtain ⟨z, rfl⟩ := ht; exact ⟨z, rfl, h⟩
  | row n sz c => cases ht
/-- A leaf's value. -/
def lfv : Tr → Value
  | .lf v => v
  | .row _ _ _ => undef
def Tr.n : Tr → Nat
  | .lf _ => 0
  | .row n _ _ => n
def Tr.c : Tr → Nat → Nat → Tr
  | .lf _ => fun _ _ => .lf undef
  | .row _ _ c => c
def leafK : Kd → Bool
  | .sl _ => false
  | _ => true
theorem rd_leaf {k : Kd} (hk : leafK k = true) (h : T.rd S w x) (ht : T.wt k) : T = .lf x := by
  cases k with
  | i => obtain ⟨z, rfl, rfl, _⟩ := rd_int h ht; rfl
  | u => obtain ⟨z, rfl, rfl, _⟩ := rd_u64 h ht; rfl
  | s => obtain ⟨z, rfl, rfl, _⟩ := rd_str h ht; rfl
  | b => obtain ⟨z, rfl, rfl⟩ := rd_bool h ht; rfl
  | sl e => cases hk
theorem rd_one {k : Kd} (h : T.rd S w x) (ht : T.wt k) : x.oneCell' = true := by
  cases k with
  | i => obtain ⟨z, _, rfl, _⟩ := rd_int h ht; rfl
  | u => obtain ⟨z, _, rfl, _⟩ := rd_u64 h ht; rfl
  | s => obtain ⟨z, _, rfl, _⟩ := rd_str h ht; rfl
  | b => obtain ⟨z, _, rfl⟩ := rd_bool h ht; rfl
  | sl e =>
    cases T with
    | lf v => cases ht
    | row n sz c => obtain ⟨A, cap, C, rfl, _⟩ := h; rfl
end
/-- A row's elements: cell j of element k is C k j, and reads as c k j. -/
structure RowT (S : Nat → Prop) (w : World) (e : Nat) (A : Option Addr) (n : Nat) (c : Nat → Nat → Tr) (C : Nat → Nat → Value) : Prop where
  row : RowZ S w A n (tbl e).length C
  rd : ∀ k j, k < n → j < (tbl e).length → (c k j).rd S w (C k j)
/-- The kinds of a row's elements. -/
structure RowK (e n : Nat) (c : Nat → Nat → Tr) : Prop where
  room : n * tby e ≤ 140737488351232
  wt : ∀ k j, k < n → j < (tbl e).length → (c k j).wt ((tbl e).getD j .i)
theorem RowT.mono {S S' : Nat → Prop} {w w' : World} {e : Nat} {A : Option Addr} {n : Nat} {c : Nat → Nat → Tr} {C : Nat → Nat → Value} (hs : ∀ b, S b → S' b) (hw : ∀ b, S b → w'.heap[b]? = w.heap[b]?) (h : RowT S w e A n c C) : RowT S' w' e A n c C :=
  ⟨h.row.mono hs hw, fun k j hk hj => (h.rd k j hk hj).mono hs hw⟩
theorem RowT.below {w w' : World} {e : Nat} {A : Option Addr} {n : Nat} {c : Nat → Nat → Tr} {C : Nat → Nat → Value} (h : RowT (Old w) w e A n c C) (hb : Below w.heap.size w w') : RowT (Old w') w' e A n c C :=
  h.mono (fun _ hb' => Nat.lt_of_lt_of_le hb' hb.size) (fun b hb' => hb.block b hb')
theorem rd_row {S : Nat → Prop} {w : World} {T : Tr} {x : Value} {e : Nat} (h : T.rd S w x) (ht : T.wt (.sl e)) : ∃ n c, T = .row n (tbl e).length c ∧ RowK e n c ∧ ∃ A cap C, x = .slice A n cap ∧ n ≤ cap ∧ RowT S w e A n c C := by
  cases T with
  | lf v => cases ht
  | row n sz c =>
    obtain ⟨rfl, hn, hc⟩ := ht
    obtain ⟨A, cap, C, rfl, hcap, hr, h⟩ := h
    exact ⟨n, c, rfl, ⟨hn, hc⟩, A, cap, C, rfl, hcap, hr, h⟩
theorem row_mk {S : Nat → Prop} {w : World} {e : Nat} {A : Option Addr} {n cap : Nat} {c : Nat → Nat → Tr} {C : Nat → Nat → Value} (hcap : n ≤ cap) (h : RowT S w e A n c C) : (Tr.row n (tbl e).length c).rd S w (.slice A n cap) :=
  ⟨A, cap, C, rfl, hcap, h.row, h.rd⟩
end Go.Proofs.YtdjhkhadjmndoaaDoor
namespace Go.Proofs.YtdjhkhadjmndoaaDoor
set_option maxRecDepth 4000
set_option linter.unusedSimpArgs false
set_option linter.unusedVariables false
open Go.RowKit
section
variable {P : Program}
theorem run_append_none2 {w : World} (base : Nat) (t ty e : TypeId) (i : TypeInfo) (size : Nat) (ht : P.underlying t = some (.slice e)) (hi : P.info? e = some i)
    (v : Value) (n c : Nat) (xs : List Value) (hown : w.ownsRow base e size v n xs) :
    (Builtin.append_ #[t, t] ty #[v, .slice none 0 c]).run P w = .ok v w := by
  rcases hown.2 with ⟨rfl, rfl⟩ | ⟨g, cap, cur, rfl, _, _, hnc, _⟩
  · simp [Builtin.append_, run_underlying ht, sizeOf, typeInfo, hi, Builtin.lenOf, Builtin.firstCells]
  · simp [Builtin.append_, run_underlying ht, sizeOf, typeInfo, hi, Builtin.lenOf, Builtin.firstCells, hnc, storeCells]
theorem rowS_news {w : World} {b off m size : Nat} {C : Nat → Nat → Value} {news : List Value} (hsz : 0 < size) (hrow : ∀ k j, k < m → j < size → w.cell? ⟨b, off + (k * size + j), none⟩ = some (C k j)) (hl : news.length = m * size)
    (hn : ∀ k j, k < m → j < size → news[k * size + j]? = some (C k j)) (j : Nat) (u : Value) (hu : news[j]? = some u) : w.cell? ((⟨b, off, none⟩ : Addr).add j) = some u := by
  have hj : j < m * size := by rw [← hl]; exact (List.getElem?_eq_some_iff.1 hu).1
  have h1 : j / size < m := (Nat.div_lt_iff_lt_mul hsz).2 hj
  have h2 : j % size < size := Nat.mod_lt _ hsz
  have h3 : j / size * size + j % size = j := by rw [Nat.mul_comm]; exact Nat.div_add_mod j size
  have e1 := hn _ _ h1 h2
  have e2 := hrow _ _ h1 h2
  rw [h3] at e1 e2
  have e : ((⟨b, off, none⟩ : Addr).add j) = ⟨b, off + j, none⟩ := by
    simp [Addr.add]
  rw [e, e2, ← e1, hu]
theorem append_rowS (w : World) (base : Nat) (t ty e : TypeId) (i : TypeInfo) (z : Value) (size bytes : Nat) (ht : P.underlying t = some (.slice e)) (hi : P.info? e = some i) (hz : i.zero = some z)
    (hsize : i.size = size) (hby : i.bytes = bytes) (hzs : z.cells.size = size) (hsz : 0 < size)
    (v : Value) (n : Nat) (xs : List Value) (hown : w.ownsRow base e size v n xs)
    (A : Option Addr) (m c : Nat) (C : Nat → Nat → Value) (hrow : RowS w A m size C) (news : List Value) (hl : news.length = m * size) (hn : ∀ k j, k < m → j < size → news[k * size + j]? = some (C k j)) (h1 : ∀ u ∈ news, u.oneCell' = true)
    (h63 : n + m ≤ maxLen) (hbytes : (n + m) * bytes ≤ 140737488355328) (hbase : base ≤ w.heap.size) :
    ∃ A' c' w', (Builtin.append_ #[t, t] ty #[v, .slice A m c]).run P w = .ok (.slice A' (n + m) c') w' ∧ w'.ownsRow base e size (.slice A' (n + m) c') (n + m) (xs ++ news) ∧ w.grownBy w' v.ownBlock ∧
      ((Value.slice A' (n + m) c').ownBlock = v.ownBlock ∨ ∃ k, (Value.slice A' (n + m) c').ownBlock = some k ∧ w.heap.size ≤ k) := by
  cases A with
  | none =>
    have hm : m = 0 := by
      rcases Nat.eq_zero_or_pos m with h | h
      · exact h
      · obtain ⟨b, off, e, _⟩ := hrow h; cases e
    subst hm
    obtain rfl : news = [] := by rw [Nat.zero_mul] at hl; exact List.eq_nil_of_length_eq_zero hl
    have hr := run_append_none2 (P := P) (w := w) base t ty e i size ht hi v n c xs hown
    obtain ⟨A', c', hv⟩ : ∃ A' c', v = .slice A' n c' := by
      rcases hown.2 with ⟨rfl, h0⟩ | ⟨g, cap, cur, rfl, _⟩
      · exact ⟨none, 0, by rw [h0]⟩
      · exact ⟨_, _, rfl⟩
    refine ⟨A', c', w, by rw [hr, hv]; rfl, ?_, ⟨rfl, rfl, rfl, Nat.le_refl _, fun _ _ _ => rfl⟩, .inl (by rw [hv]; rfl)⟩
    rw [List.append_nil, Nat.add_zero, ← hv]
    exact hown
  | some ad =>
    refine append_own2 (P := P) w base t ty e i z size bytes ht hi hz hsize hby hzs hsz v n xs hown ad m c news hl ?_ h1 h63 hbytes hbase
    intro j u hu
    rcases Nat.eq_zero_or_pos m with h | h
    · subst h
      rw [Nat.zero_mul] at hl
      rw [List.eq_nil_of_length_eq_zero hl] at hu
      cases hu
    · obtain ⟨b, off, e, _, hc⟩ := hrow h
      injection e with e
      subst e
      exact rowS_news hsz hc hl hn j u hu
theorem wpList_append_rowS (w : World) {ops : Array Oper} {rest : List Oper} {o : Oper} {a : Act} {Q : Exit → Act → World → Prop} (hgd : o.guard = none) (s x : Operand) (t : TypeId)
    (ho : o.op = .call { callee := .builtin .append, args := #[s, x], argTypes := #[t, t] })
    (base : Nat) (e : TypeId) (i : TypeInfo) (z : Value) (size bytes : Nat) (ht : P.underlying t = some (.slice e)) (hi : P.info? e = some i) (hz : i.zero = some z)
    (hsize : i.size = size) (hby : i.bytes = bytes) (hzs : z.cells.size = size) (hsz : 0 < size)
    (v : Value) (n : Nat) (xs : List Value) (hs : a.eval s = v) (hown : w.ownsRow base e size v n xs)
    (A : Option Addr) (m c : Nat) (hx : a.eval x = .slice A m c) (C : Nat → Nat → Value) (hrow : RowS w A m size C) (news : List Value) (hl : news.length = m * size) (hn : ∀ k j, k < m → j < size → news[k * size + j]? = some (C k j)) (h1 : ∀ u ∈ news, u.oneCell' = true)
    (h63 : n + m ≤ maxLen) (hbytes : (n + m) * bytes ≤ 140737488355328) (hbase : base ≤ w.heap.size)
    (h : ∀ A' c' w', w'.ownsRow base e size (.slice A' (n + m) c') (n + m) (xs ++ news) → w.grownBy w' v.ownBlock → ((Value.slice A' (n + m) c').ownBlock = v.ownBlock ∨ ∃ k, (Value.slice A' (n + m) c').ownBlock = some k ∧ w.heap.size ≤ k) → wpList P ops Q rest (a.put o.dst (.slice A' (n + m) c')) w') : wpList P ops Q (o :: rest) a w := by
  refine wpList_plain hgd fun K hK => ?_
  obtain ⟨A', c', w', hr, h2, h3, h4⟩ := append_rowS (P := P) w base t o.type e i z size bytes ht hi hz hsize hby hzs hsz v n xs hown A m c C hrow news hl hn h1 h63 hbytes hbase
  unfold Oper.wp execOp
  simp only [ho, resolve, invoke, builtin, Sem.run_bind, Sem.run_pure, Result.andThen_ok, List.map_toArray, List.map_cons, List.map_nil, hs, hx, hr]
  exact hK _ _ (h A' c' w' h2 h3 h4)
end
end Go.Proofs.YtdjhkhadjmndoaaDoor
namespace Go.Proofs.YtdjhkhadjmndoaaDoor
set_option maxRecDepth 4000
set_option linter.unusedSimpArgs false
set_option linter.unusedVariables false
open Go.RowKit
/-- n records side by side. -/
def rowA (R : Nat → Array Value) (n : Nat) : List Value := (List.range n).flatMap fun k => (R k).toList
theorem rowA_succ (R : Nat → Array Value) (n : Nat) : rowA R (n + 1) = rowA R n ++ (R n).toList := by unfold rowA; rw [List.range_succ, List.flatMap_append]; simp
theorem rowA_congr {R R' : Nat → Array Value} : ∀ {n : Nat}, (∀ k, k < n → R k = R' k) → rowA R n = rowA R' n
  | 0, _ => rfl
  | n + 1, h => by rw [rowA_succ, rowA_succ, rowA_congr (fun k hk => h k (by omega)), h n (by omega)]
theorem rowA_len {R : Nat → Array Value} {sz : Nat} : ∀ {n : Nat}, (∀ k, k < n → (R k).size = sz) → (rowA R n).length = n * sz
  | 0, _ => by simp [rowA]
  | n + 1, h => by rw [rowA_succ, List.length_append, rowA_len (fun k hk => h k (by omega)), Array.length_toList, h n (by omega), Nat.add_mul, Nat.one_mul]
theorem rowA_at {R : Nat → Array Value} {sz : Nat} : ∀ {n : Nat}, (∀ k, k < n → (R k).size = sz) → ∀ k j, k < n → j < sz → (rowA R n)[k * sz + j]? = some ((R k).getD j undef)
  | 0, _, k, j, hk, _ => by omega
  | n + 1, h, k, j, hk, hj => by
    rw [rowA_succ]
    have hl := rowA_len (R := R) (n := n) (fun k hk => h k (by omega))
    rcases Nat.lt_or_ge k n with h1 | h1
    · have hb : k * sz + j < n * sz := by
        have := Nat.mul_le_mul_right sz (show k + 1 ≤ n by omega)
        rw [Nat.add_mul, Nat.one_mul] at this
        omega
      rw [List.getElem?_append_left (by omega)]
      exact rowA_at (fun k hk => h k (by omega)) k j h1 hj
    · obtain rfl : k = n := by omega
      rw [List.getElem?_append_right (by omega), hl, show k * sz + j - k * sz = j by omega]
      have hs := h k (by omega)
      rw [Array.getElem?_toList, Array.getElem?_eq_getElem (by omega), Array.getD, dif_pos (by omega)]
      rfl
/-- An owned row, as a row of cells in its own block. -/
theorem own_rowZ {w : World} {base : Nat} {e : TypeId} {v : Value} {n sz : Nat} {R : Nat → Array Value} (hR : ∀ k, k < n → (R k).size = sz) (h : w.ownsRow base e sz v n (rowA R n)) :
    ∃ A c, v = .slice A n c ∧ n ≤ c ∧ RowZ (fun b => base ≤ b ∧ b < w.heap.size) w A n sz (fun k j => (R k).getD j undef) := by
  rcases h.2 with ⟨rfl, rfl⟩ | ⟨g, cap, cur, rfl, hg, hh, h3, h4, h5, h6⟩
  · exact ⟨none, 0, rfl, Nat.le_refl _, fun h => by omega⟩
  · refine ⟨_, _, rfl, h3, fun _ => ⟨g, 0, rfl, ⟨hg, heap_lt hh⟩, fun k j hk hj => ?_⟩⟩
    have f1 := rowA_at hR k j hk hj
    rw [← h6, List.getElem?_take] at f1
    split at f1
    · rw [Nat.zero_add]
      exact (cell_of_cells hh _).trans (by simpa using f1)
    · cases f1
section
variable {P : Program}
/-- A slice literal of one record. -/
theorem wpList_build1 {ops : Array Oper} {rest : List Oper} {o : Oper} {a : Act} {w : World} {Q : Exit → Act → World → Prop} (hg : o.guard = none) (t e : TypeId) (x : Operand) (ho : o.op = .buildSlice t 1 #[(0, x)])
    (X : Array Value) (hx : a.eval x = .agg X) (ie : TypeInfo) (z : Array Value) (hu : P.underlying t = some (.slice e)) (hie : P.info? e = some ie) (hz : ie.zero = some (.agg z)) (sz : Nat) (hs : ie.size = sz) (h0 : 0 < sz) (h1 : sz ≤ 100) (hX : X.size = sz)
    (d : Option Tmp) (hd : o.dst = d) (N : Nat) (hN : N = w.heap.size)
    (h : wpList P ops Q rest (a.put d (.slice (some ⟨N, 0, none⟩) 1 1)) (w.alloc (.cells X e))) : wpList P ops Q (o :: rest) a w := by
  subst hd hN
  refine wpList_buildSlice hg t e 1 _ ho X ie (.agg z) hu hie hz (by rw [hs]; omega) (by rw [hs]; omega) ?_ h
  have := Great.fill_whole (s := sz) h0 [.agg X] ((Array.range (1 * ie.size)).map ((Value.agg z).cells[· % (Value.agg z).cells.size]!)) (fun v hv => by simp at hv; subst hv; exact hX) (by simp [hs])
  rw [hs] at this ⊢
  simpa [hx, Value.cells] using this
end
/-- A record in memory's terms: its cells read as trees. -/
structure ElT (S : Nat → Prop) (w : World) (e : Nat) (ck : Nat → Tr) (X : Array Value) : Prop where
  size : X.size = (tbl e).length
  ones : X.all (·.oneCell') = true
  rd : ∀ j, j < (tbl e).length → (ck j).rd S w (X.getD j undef)
theorem ElT.mono {S S' : Nat → Prop} {w w' : World} {e : Nat} {ck : Nat → Tr} {X : Array Value} (hs : ∀ b, S b → S' b) (hw : ∀ b, S b → w'.heap[b]? = w.heap[b]?) (h : ElT S w e ck X) : ElT S' w' e ck X :=
  ⟨h.size, h.ones, fun j hj => (h.rd j hj).mono hs hw⟩
theorem ElT.below {w w' : World} {e : Nat} {ck : Nat → Tr} {X : Array Value} (h : ElT (Old w) w e ck X) (hb : Below w.heap.size w w') : ElT (Old w') w' e ck X :=
  h.mono (fun _ hb' => Nat.lt_of_lt_of_le hb' hb.size) (fun b hb' => hb.block b hb')
/-- A row's element, as a record. -/
def elA (e : Nat) (C : Nat → Nat → Value) (k : Nat) : Array Value := ((List.range (tbl e).length).map (C k)).toArray
theorem elA_size (e : Nat) (C : Nat → Nat → Value) (k : Nat) : (elA e C k).size = (tbl e).length := by simp [elA]
theorem elA_at (e : Nat) (C : Nat → Nat → Value) (k j : Nat) (hj : j < (tbl e).length) : (elA e C k)[j]? = some (C k j) := by simp [elA, hj]
theorem elA_getD (e : Nat) (C : Nat → Nat → Value) (k j : Nat) (hj : j < (tbl e).length) : (elA e C k).getD j undef = C k j := by
  have h := elA_at e C k j hj
  have hs : j < (elA e C k).size := by rw [elA_size]; exact hj
  rw [Array.getElem?_eq_getElem hs] at h
  rw [Array.getD, dif_pos hs]
  exact Option.some.inj h
theorem RowT.el {S : Nat → Prop} {w : World} {e : Nat} {A : Option Addr} {n : Nat} {c : Nat → Nat → Tr} {C : Nat → Nat → Value} (h : RowT S w e A n c C) (hk : RowK e n c) {k : Nat} (hkn : k < n) : ElT S w e (c k) (elA e C k) := by
  refine ⟨elA_size e C k, ?_, fun j hj => by rw [elA_getD _ _ _ _ hj]; exact h.rd k j hkn hj⟩
  rw [Array.all_eq_true]
  intro j hj
  rw [elA_size] at hj
  have := elA_at e C k j hj
  rw [Array.getElem?_eq_getElem (by rw [elA_size]; exact hj)] at this
  rw [Option.some.inj this]
  exact rd_one (h.rd k j hkn hj) (hk.wt k j hkn hj)
theorem RowT.cells {S : Nat → Prop} {w : World} {e : Nat} {A : Option Addr} {n : Nat} {c : Nat → Nat → Tr} {C : Nat → Nat → Value} (h : RowT S w e A n c C) (h0 : 0 < (tbl e).length) {k : Nat} (hkn : k < n) :
    ∃ b off, A = some ⟨b, off, none⟩ ∧ b < w.heap.size ∧ ∀ j v, (elA e C k)[j]? = some v → w.cell? ⟨b, off + k * (tbl e).length + j, none⟩ = some v := by
  obtain ⟨b, off, ha, _, hc⟩ := h.row (by omega)
  refine ⟨b, off, ha, World.block_lt_of_cell? _ _ (hc k 0 hkn h0), fun j v hv => ?_⟩
  have hj : j < (tbl e).length := by rw [← elA_size e C k]; exact (Array.getElem?_eq_some_iff.1 hv).1
  rw [elA_at _ _ _ _ hj] at hv
  rw [Nat.add_assoc, hc k j hkn hj]
  exact hv
/-- What a call that copies a record hands back. -/
def ElRet (e : Nat) (ck : Nat → Tr) (w : World) (r : Ending) (w' : World) : Prop :=
  ∃ D : Array Value, r = .returned (.agg D) ∧ ElT (New w.heap.size w') w' e ck D ∧ Below w.heap.size w w'
/-- What a call that copies a row hands back. -/
def SlRet (e n : Nat) (c : Nat → Nat → Tr) (w : World) (r : Ending) (w' : World) : Prop :=
  ∃ A cap C, r = .returned (.slice A n cap) ∧ n ≤ cap ∧ RowT (New w.heap.size w') w' e A n c C ∧ Below w.heap.size w w'
/-- A function that copies a record. -/
def FnOK (P : Program) (e : Nat) (ck : Nat → Tr) (F : Nat) : Prop := ∀ (w : World) (X : Array Value), ElT (Old w) w e ck X → Calls P F #[.agg X] w (ElRet e ck w)
/-- The state of a loop that copies a row. -/
def EachI (t : TypeId) (e n : Nat) (c : Nat → Nat → Tr) (B : Nat) (W : World) (v5 v13 : Value) (wr : World) : Prop :=
  ∃ (k : Nat) (A : Option Addr) (cap : Nat) (R : Nat → Array Value), k ≤ n ∧ v13 = .int .i64 k ∧ v5 = .slice A k cap ∧ wr.ownsRow B t (tbl e).length v5 k (rowA R k) ∧
    (∀ i, i < k → ElT (fun b => New B wr b ∧ v5.ownBlock ≠ some b) wr e (c i) (R i)) ∧ Below B W wr ∧ B ≤ wr.heap.size
/-- Behind the append. -/
theorem each_step {t : TypeId} {e n : Nat} {c : Nat → Nat → Tr} {B : Nat} {W w1 w2 : World} {v5 : Value} {k : Nat} {A A' : Option Addr} {cap cap' : Nat} {R : Nat → Array Value} {D : Array Value}
    (hv : v5 = .slice A k cap) (hR : ∀ i, i < k → ElT (fun b => New B w1 b ∧ v5.ownBlock ≠ some b) w1 e (c i) (R i)) (hD : ElT (fun b => New B w1 b ∧ v5.ownBlock ≠ some b) w1 e (c k) D)
    (ho : w2.ownsRow B t (tbl e).length (.slice A' (k + 1) cap') (k + 1) (rowA R k ++ D.toList)) (hg : w1.grownBy w2 v5.ownBlock)
    (hb : (Value.slice A' (k + 1) cap').ownBlock = v5.ownBlock ∨ ∃ q, (Value.slice A' (k + 1) cap').ownBlock = some q ∧ w1.heap.size ≤ q) (hk : k < n) (hB : Below B W w1) (hBs : B ≤ w1.heap.size) (ho0 : ∀ q, v5.ownBlock = some q → B ≤ q) :
    EachI t e n c B W (.slice A' (k + 1) cap') (.int .i64 (k + 1 : Nat)) w2 := by
  have key : ∀ (ck : Nat → Tr) (X : Array Value), ElT (fun b => New B w1 b ∧ v5.ownBlock ≠ some b) w1 e ck X → ElT (fun b => New B w2 b ∧ (Value.slice A' (k + 1) cap').ownBlock ≠ some b) w2 e ck X := fun ck X h => by
    refine h.mono (fun b hbb => ⟨⟨hbb.1.1, Nat.lt_of_lt_of_le hbb.1.2 hg.size⟩, ?_⟩) (fun b hbb => hg.block b hbb.1.2 (fun e => hbb.2 e.symm))
    rcases hb with h1 | ⟨q, h1, h2⟩
    · rw [h1]; exact hbb.2
    · rw [h1]
      intro h3
      injection h3 with h3
      have := hbb.1.2
      omega
  refine ⟨k + 1, A', cap', fun i => if i < k then R i else D, hk, rfl, rfl, ?_, fun i hi => ?_, hB.trans (below_grown hg hBs ho0), Nat.le_trans hBs hg.size⟩
  · rw [rowA_succ, rowA_congr (R' := R) (fun i hi => if_pos hi)]
    simp only [Nat.lt_irrefl, if_false]
    exact ho
  · by_cases h : i < k
    · simp only [if_pos h]; exact key _ _ (hR i h)
    · obtain rfl : i = k := by omega
      simp only [Nat.lt_irrefl, if_false]
      exact key _ _ hD
/-- The next round: the record D is copied in w6, and appended to the row in w1. -/
theorem each_next {t : TypeId} {e n : Nat} {c : Nat → Nat → Tr} {B N : Nat} {W wr w6 w1 w2 : World} {v5 : Value} {k : Nat} {A A' : Option Addr} {cap cap' : Nat} {R : Nat → Array Value} {D : Array Value}
    (hv : v5 = .slice A k cap) (ho : wr.ownsRow B t (tbl e).length v5 k (rowA R k)) (hR : ∀ i, i < k → ElT (fun b => New B wr b ∧ v5.ownBlock ≠ some b) wr e (c i) (R i)) (hBr : Below B W wr) (hBs : B ≤ wr.heap.size)
    (hb : Below wr.heap.size wr w1) (hD : ElT (New N w6) w6 e (c k) D) (hN : wr.heap.size ≤ N) (h6 : Below w6.heap.size w6 w1)
    (ho2 : w2.ownsRow B t (tbl e).length (.slice A' (k + 1) cap') (k + 1) (rowA R k ++ D.toList)) (hg : w1.grownBy w2 v5.ownBlock)
    (hb2 : (Value.slice A' (k + 1) cap').ownBlock = v5.ownBlock ∨ ∃ q, (Value.slice A' (k + 1) cap').ownBlock = some q ∧ w1.heap.size ≤ q) (hk : k < n) : EachI t e n c B W (.slice A' (k + 1) cap') (.int .i64 (k + 1 : Nat)) w2 := by
  have own_lt : ∀ q, v5.ownBlock = some q → q < wr.heap.size := fun q hq => (ho.lt q hq).2
  refine each_step hv (w1 := w1) (fun i hi => (hR i hi).mono (fun b h => ⟨⟨h.1.1, Nat.lt_of_lt_of_le h.1.2 hb.size⟩, h.2⟩) (fun b h => hb.block b h.1.2)) ?_ ho2 hg hb2 hk (hBr.trans (hb.mono hBs)) (Nat.le_trans hBs hb.size) (fun q hq => own_ge ho q hq)
  refine hD.mono (fun b h => ⟨⟨by have := h.1; omega, Nat.lt_of_lt_of_le h.2 h6.size⟩, fun e => ?_⟩) (fun b h => h6.block b h.2)
  have h1 := own_lt b e
  have h2 := h.1
  omega
/-- The end of the loop. -/
theorem each_end {t : TypeId} {e n : Nat} {c : Nat → Nat → Tr} {B : Nat} {W wr : World} {v5 v13 : Value} (h : EachI t e n c B W v5 v13 wr) (hk : v13 = .int .i64 n) (hB : B = W.heap.size) : SlRet e n c W (.returned v5) wr := by
  obtain ⟨k, A, cap, R, hkn, h13, h5, ho, hR, hb, _⟩ := h
  rw [hk] at h13
  injection h13 with _ h13
  obtain rfl : k = n := by omega
  subst hB
  obtain ⟨A', cap', hv, hcap, hrow⟩ := own_rowZ (fun i hi => (hR i hi).size) ho
  rw [h5] at hv
  injection hv with e1 e2 e3
  subst e1 e3
  exact ⟨A, cap, fun k j => (R k).getD j undef, by rw [h5], hcap, ⟨hrow, fun i j hi hj => ((hR i hi).rd j hj).mono (fun b h => h.1) (fun _ _ => rfl)⟩, hb⟩
end Go.Proofs.YtdjhkhadjmndoaaDoor
namespace Go.Proofs.YtdjhkhadjmndoaaDoor
set_option maxRecDepth 4000
set_option linter.unusedSimpArgs false
set_option linter.unusedVariables false
open Go.RowKit
theorem getD_at {X : Array Value} {j : Nat} (h : j < X.size) : X[j]? = some (X.getD j undef) := by
  rw [Array.getElem?_eq_getElem h, Array.getD, dif_pos h]; rfl
theorem at_eq {X : Array Value} {j n : Nat} {v : Value} (hs : X.size = n) (h : j < n) (e : X.getD j undef = v) : X[j]? = some v := by rw [getD_at (by omega), e]
theorem set_ne {X : Array Value} {i j : Nat} {v u : Value} (h : i ≠ j) (e : X[j]? = some u) : (X.setIfInBounds i v)[j]? = some u := by rw [Array.getElem?_setIfInBounds_ne h]; exact e
theorem set_eq {X : Array Value} {i n : Nat} {v : Value} (hs : X.size = n) (h : i < n) : (X.setIfInBounds i v)[i]? = some v := by rw [Array.getElem?_setIfInBounds_self]; simp [hs, h]
theorem one_at {X : Array Value} {j n : Nat} (hs : X.size = n) (h : j < n) (ho : X.all (·.oneCell') = true) : (X.getD j undef).oneCell' = true := by
  have := Array.all_eq_true.1 ho j (by omega)
  rw [Array.getD, dif_pos (by omega)]
  exact this
theorem getD_of {Y : Array Value} {j : Nat} {v : Value} (h : Y[j]? = some v) : Y.getD j undef = v := by
  obtain ⟨hj, e⟩ := Array.getElem?_eq_some_iff.1 h
  rw [Array.getD, dif_pos hj]; exact e
theorem el_big {S : Nat → Prop} {w : World} {e : Nat} {ck : Nat → Tr} {Y : Array Value} (hs : Y.size = (tbl e).length) (h : ∀ j, j < (tbl e).length → ∃ v, Y[j]? = some v ∧ v.oneCell' = true ∧ (ck j).rd S w v) : ElT S w e ck Y := by
  refine ⟨hs, Array.all_eq_true.2 fun j hj => ?_, fun j hj => ?_⟩
  · obtain ⟨v, h1, h2, _⟩ := h j (by omega)
    rw [Array.getElem?_eq_getElem hj] at h1
    rw [Option.some.inj h1]; exact h2
  · obtain ⟨v, h1, _, h3⟩ := h j hj
    rw [getD_of h1]; exact h3
theorem all_setZ {C : Array Value} {i : Nat} {v : Value} (h : C.all (·.oneCell') = true) (hv : v.oneCell' = true) : (C.setIfInBounds i v).all (·.oneCell') = true := by
  rw [Array.all_eq_true] at h ⊢
  intro j hj
  have hj2 : j < C.size := by simpa using hj
  rw [Array.getElem_setIfInBounds hj2]
  split
  · exact hv
  · exact h j hj2
end Go.Proofs.YtdjhkhadjmndoaaDoor
