/- Texts laid together: TrM AcP TrO Keep TierM SlM GrM SlL. -/
import Derived.Test.YtpghciiifnjimaaGreatDoorXRowM
import Derived.Test.YtpghciiifnjimaaGreatDoorXNum
import Derived.SizedLaws
import Derived.Deep.Draws
import Derived.OwnWalk
namespace Go.Proofs.YtpghciiifnjimaaGreatDoor
set_option maxRecDepth 4000
set_option linter.unusedSimpArgs false
set_option linter.unusedVariables false
open Go.RowKit
/-- A cell's value: one that holds no memory, or a row of n elements of sz cells. -/
inductive Tr where
 | lf (v : Value)
 | row (n sz : Nat) (c : Nat → Nat → Tr)
/-- n elements of sz cells each, in a block of which S holds; cell j of element k is C k j. -/
def RowZ (S : Nat → Prop) (w : World) (A : Option Addr) (n sz : Nat) (C : Nat → Nat → Value) : Prop :=
 0 < n → ∃ b off, A = some ⟨b, off, none⟩ ∧ S b ∧ ∀ k j, k < n → j < sz → w.cell? ⟨b, off + (k * sz + j), none⟩ = some (C k j)
theorem RowZ.toS {S : Nat → Prop} {w : World} {A : Option Addr} {n sz : Nat} {C : Nat → Nat → Value} (h : RowZ S w A n sz C) (hsz : 0 < sz) : RowS w A n sz C := fun hn => by
 obtain ⟨b, off, e, _, hc⟩ := h hn
 exact ⟨b, off, e, World.block_lt_of_cell? _ _ (hc 0 0 hn hsz), hc⟩
theorem RowZ.mono {S S' : Nat → Prop} {w w' : World} {A : Option Addr} {n sz : Nat} {C : Nat → Nat → Value} (hs : ∀ b, S b → S' b) (hw : ∀ b, S b → w'.heap[b]? = w.heap[b]?) (h : RowZ S w A n sz C) : RowZ S' w' A n sz C := fun hn => by
 obtain ⟨b, off, e, hb, hc⟩ := h hn
 exact ⟨b, off, e, hs b hb, fun k j hk hj => (World.cell?_of_block (w := w) (a := ⟨b, _, none⟩) (hw b hb)).trans (hc k j hk hj)⟩
/-- The cell x of the world w reads as the tree; its rows lie in blocks of which S holds. -/
def Tr.rd (S : Nat → Prop) (w : World) : Tr → Value → Prop
 | .lf v, x => x = v
 | .row n sz c, x => ∃ A cap C, x = .slice A n cap ∧ n ≤ cap ∧ RowZ S w A n sz C ∧ ∀ k j, k < n → j < sz → (c k j).rd S w (C k j)
theorem Tr.rd.mono {S S' : Nat → Prop} {w w' : World} (hs : ∀ b, S b → S' b) (hw : ∀ b, S b → w'.heap[b]? = w.heap[b]?) : ∀ {T : Tr} {x : Value}, T.rd S w x → T.rd S' w' x
 | .lf _, _, h => h
 | .row _ _ _, _, ⟨A, cap, C, e, hc, hr, h⟩ => ⟨A, cap, C, e, hc, hr.mono hs hw, fun k j hk hj => Tr.rd.mono hs hw (h k j hk hj)⟩
/-- Blocks that lie in the world. -/
def Old (w : World) (b : Nat) : Prop := b < w.heap.size
/-- Blocks made since B. -/
def New (B : Nat) (w : World) (b : Nat) : Prop := B ≤ b ∧ b < w.heap.size
theorem Tr.rd.below {w w' : World} (hb : Below w.heap.size w w') {T : Tr} {x : Value} (h : T.rd (Old w) w x) : T.rd (Old w') w' x :=
 h.mono (fun b hb' => Nat.lt_of_lt_of_le hb' hb.size) (fun b hb' => hb.block b hb')
theorem Tr.rd.new {B : Nat} {w : World} {T : Tr} {x : Value} (h : T.rd (New B w) w x) : T.rd (Old w) w x := h.mono (fun _ h => h.2) (fun _ _ => rfl)
/-- The kinds of cells; sl e: a slice of the records that the table names e. -/
inductive Kd where
 | i | u | s | b | sl (e : Nat)
deriving DecidableEq
/-- The records of books: 0 int, 1 Currency, 2 Calendar, 3 Gl, 4 Tier, 5 Expr, 6 Fee, 7 Rule, 8 Product, 9 Account, 10 Leg, 11 Entry, 12 Hold, 13 Block, 14 Interest, 15 Books. -/
def tbl : Nat → List Kd
 | 0 => [.i]
 | 1 => [.s, .i]
 | 2 => [.s, .sl 0, .sl 0]
 | 3 => [.i, .i, .i, .s]
 | 4 => [.i, .i]
 | 5 => [.i, .i, .s, .sl 5]
 | 6 => [.s, .i, .i, .i, .s, .sl 5, .i, .i, .s, .sl 5]
 | 7 => [.s, .i, .i, .i, .s, .sl 5]
 | 8 => [.s, .s, .s, .i, .i, .i, .i, .sl 4, .b, .i, .i, .b, .sl 4, .b, .i, .i, .b, .sl 6, .sl 7]
 | 9 => [.i, .i, .i, .i, .s, .s, .s]
 | 10 => [.i, .i, .s]
 | 11 => [.i, .i, .i, .i, .i, .i, .s, .s, .sl 10, .u]
 | 12 => [.i, .i, .i, .i, .i, .s]
 | 13 => [.i, .i, .i, .i, .i, .i, .s]
 | 14 => [.sl 4, .b, .i, .i, .b]
 | 15 => [.sl 1, .sl 2, .sl 3, .i, .i, .i, .i, .i, .i, .i, .i, .i, .i, .i, .i, .i, .i, .sl 8, .sl 9, .sl 11, .sl 12, .sl 13]
 | _ => []
/-- The bytes of a record. -/
def tby : Nat → Nat
 | 0 => 8 | 1 => 24 | 2 => 64 | 3 => 40 | 4 => 16 | 5 => 56 | 6 => 136 | 7 => 80 | 8 => 240 | 9 => 80 | 10 => 32 | 11 => 112 | 12 => 56 | 13 => 64 | 14 => 56 | _ => 0
/-- The tree is of a kind. -/
def Tr.wt : Tr → Kd → Prop
 | .lf v, .i => ∃ z, v = .int .i64 z ∧ IIn z
 | .lf v, .u => ∃ z, v = .int .u64 z ∧ 0 ≤ z ∧ z < 18446744073709551616
 | .lf v, .s => ∃ s, v = .string s ∧ s.size ≤ maxLen
 | .lf v, .b => ∃ b, v = .bool b
 | .lf _, .sl _ => False
 | .row n sz c, .sl e => sz = (tbl e).length ∧ n * tby e ≤ 140737488351232 ∧ ∀ k j, k < n → j < sz → (c k j).wt ((tbl e).getD j .i)
 | .row _ _ _, _ => False
section
variable {S : Nat → Prop} {w : World} {T : Tr} {x : Value}
theorem rd_int (h : T.rd S w x) (ht : T.wt .i) : ∃ z, T = .lf (.int .i64 z) ∧ x = .int .i64 z ∧ IIn z := by
 cases T with
 | lf v => obtain ⟨z, rfl, hz⟩ := ht; exact ⟨z, rfl, h, hz⟩
 | row n sz c => cases ht
theorem rd_u64 (h : T.rd S w x) (ht : T.wt .u) : ∃ z, T = .lf (.int .u64 z) ∧ x = .int .u64 z ∧ 0 ≤ z ∧ z < 18446744073709551616 := by
 cases T with
 | lf v => obtain ⟨z, rfl, hz⟩ := ht; exact ⟨z, rfl, h, hz⟩
 | row n sz c => cases ht
theorem rd_str (h : T.rd S w x) (ht : T.wt .s) : ∃ s, T = .lf (.string s) ∧ x = .string s ∧ s.size ≤ maxLen := by
 cases T with
 | lf v => obtain ⟨z, rfl, hz⟩ := ht; exact ⟨z, rfl, h, hz⟩
 | row n sz c => cases ht
theorem rd_bool (h : T.rd S w x) (ht : T.wt .b) : ∃ b, T = .lf (.bool b) ∧ x = .bool b := by
 cases T with
 | lf v => obtain ⟨z, rfl⟩ := ht; exact ⟨z, rfl, h⟩
 | row n sz c => cases ht
/-- A leaf's value. -/
def lfv : Tr → Value
 | .lf v => v
 | .row _ _ _ => undef
def Tr.n : Tr → Nat
 | .lf _ => 0
 | .row n _ _ => n
def Tr.c : Tr → Nat → Nat → Tr
 | .lf _ => fun _ _ => .lf undef
 | .row _ _ c => c
theorem rd_one {k : Kd} (h : T.rd S w x) (ht : T.wt k) : x.oneCell' = true := by
 cases k with
 | i => obtain ⟨z, _, rfl, _⟩ := rd_int h ht; rfl
 | u => obtain ⟨z, _, rfl, _⟩ := rd_u64 h ht; rfl
 | s => obtain ⟨z, _, rfl, _⟩ := rd_str h ht; rfl
 | b => obtain ⟨z, _, rfl⟩ := rd_bool h ht; rfl
 | sl e =>
  cases T with
  | lf v => cases ht
  | row n sz c => obtain ⟨A, cap, C, rfl, _⟩ := h; rfl
end
/-- A row's elements: cell j of element k is C k j, and reads as c k j. -/
structure RowT (S : Nat → Prop) (w : World) (e : Nat) (A : Option Addr) (n : Nat) (c : Nat → Nat → Tr) (C : Nat → Nat → Value) : Prop where
 row : RowZ S w A n (tbl e).length C
 rd : ∀ k j, k < n → j < (tbl e).length → (c k j).rd S w (C k j)
/-- The kinds of a row's elements. -/
structure RowK (e n : Nat) (c : Nat → Nat → Tr) : Prop where
 room : n * tby e ≤ 140737488351232
 wt : ∀ k j, k < n → j < (tbl e).length → (c k j).wt ((tbl e).getD j .i)
theorem RowT.mono {S S' : Nat → Prop} {w w' : World} {e : Nat} {A : Option Addr} {n : Nat} {c : Nat → Nat → Tr} {C : Nat → Nat → Value} (hs : ∀ b, S b → S' b) (hw : ∀ b, S b → w'.heap[b]? = w.heap[b]?) (h : RowT S w e A n c C) : RowT S' w' e A n c C :=
 ⟨h.row.mono hs hw, fun k j hk hj => (h.rd k j hk hj).mono hs hw⟩
theorem RowT.below {w w' : World} {e : Nat} {A : Option Addr} {n : Nat} {c : Nat → Nat → Tr} {C : Nat → Nat → Value} (h : RowT (Old w) w e A n c C) (hb : Below w.heap.size w w') : RowT (Old w') w' e A n c C :=
 h.mono (fun _ hb' => Nat.lt_of_lt_of_le hb' hb.size) (fun b hb' => hb.block b hb')
theorem rd_row {S : Nat → Prop} {w : World} {T : Tr} {x : Value} {e : Nat} (h : T.rd S w x) (ht : T.wt (.sl e)) : ∃ n c, T = .row n (tbl e).length c ∧ RowK e n c ∧ ∃ A cap C, x = .slice A n cap ∧ n ≤ cap ∧ RowT S w e A n c C := by
 cases T with
 | lf v => cases ht
 | row n sz c =>
  obtain ⟨rfl, hn, hc⟩ := ht
  obtain ⟨A, cap, C, rfl, hcap, hr, h⟩ := h
  exact ⟨n, c, rfl, ⟨hn, hc⟩, A, cap, C, rfl, hcap, hr, h⟩
end Go.Proofs.YtpghciiifnjimaaGreatDoor
namespace Go.Proofs.YtpghciiifnjimaaGreatDoor
set_option maxRecDepth 4000
set_option linter.unusedSimpArgs false
set_option linter.unusedVariables false
open Go.RowKit
section
variable {P : Program}
theorem run_append_none2 {w : World} (base : Nat) (t ty e : TypeId) (i : TypeInfo) (size : Nat) (ht : P.underlying t = some (.slice e)) (hi : P.info? e = some i)
  (v : Value) (n c : Nat) (xs : List Value) (hown : w.ownsRow base e size v n xs) :
  (Builtin.append_ #[t, t] ty #[v, .slice none 0 c]).run P w = .ok v w := by
 rcases hown.2 with ⟨rfl, rfl⟩ | ⟨g, cap, cur, rfl, _, _, hnc, _⟩
 ·simp [Builtin.append_, run_underlying ht, sizeOf, typeInfo, hi, Builtin.lenOf, Builtin.firstCells]
 ·simp [Builtin.append_, run_underlying ht, sizeOf, typeInfo, hi, Builtin.lenOf, Builtin.firstCells, hnc, storeCells]
theorem rowS_news {w : World} {b off m size : Nat} {C : Nat → Nat → Value} {news : List Value} (hsz : 0 < size) (hrow : ∀ k j, k < m → j < size → w.cell? ⟨b, off + (k * size + j), none⟩ = some (C k j)) (hl : news.length = m * size)
  (hn : ∀ k j, k < m → j < size → news[k * size + j]? = some (C k j)) (j : Nat) (u : Value) (hu : news[j]? = some u) : w.cell? ((⟨b, off, none⟩ : Addr).add j) = some u := by
 have hj : j < m * size := by rw [← hl]; exact (List.getElem?_eq_some_iff.1 hu).1
 have h1 : j / size < m := (Nat.div_lt_iff_lt_mul hsz).2 hj
 have h2 : j % size < size := Nat.mod_lt _ hsz
 have h3 : j / size * size + j % size = j := by rw [Nat.mul_comm]; exact Nat.div_add_mod j size
 have e1 := hn _ _ h1 h2
 have e2 := hrow _ _ h1 h2
 rw [h3] at e1 e2
 have e : ((⟨b, off, none⟩ : Addr).add j) = ⟨b, off + j, none⟩ := by
  simp [Addr.add]
 rw [e, e2, ← e1, hu]
theorem append_rowS (w : World) (base : Nat) (t ty e : TypeId) (i : TypeInfo) (z : Value) (size bytes : Nat) (ht : P.underlying t = some (.slice e)) (hi : P.info? e = some i) (hz : i.zero = some z)
  (hsize : i.size = size) (hby : i.bytes = bytes) (hzs : z.cells.size = size) (hsz : 0 < size)
  (v : Value) (n : Nat) (xs : List Value) (hown : w.ownsRow base e size v n xs)
  (A : Option Addr) (m c : Nat) (C : Nat → Nat → Value) (hrow : RowS w A m size C) (news : List Value) (hl : news.length = m * size) (hn : ∀ k j, k < m → j < size → news[k * size + j]? = some (C k j)) (h1 : ∀ u ∈ news, u.oneCell' = true)
  (h63 : n + m ≤ maxLen) (hbytes : (n + m) * bytes ≤ 140737488355328) (hbase : base ≤ w.heap.size) :
  ∃ A' c' w', (Builtin.append_ #[t, t] ty #[v, .slice A m c]).run P w = .ok (.slice A' (n + m) c') w' ∧ w'.ownsRow base e size (.slice A' (n + m) c') (n + m) (xs ++ news) ∧ w.grownBy w' v.ownBlock ∧
   ((Value.slice A' (n + m) c').ownBlock = v.ownBlock ∨ ∃ k, (Value.slice A' (n + m) c').ownBlock = some k ∧ w.heap.size ≤ k) := by
 cases A with
 | none =>
  have hm : m = 0 := by
   rcases Nat.eq_zero_or_pos m with h | h
   ·exact h
   ·obtain ⟨b, off, e, _⟩ := hrow h; cases e
  subst hm
  obtain rfl : news = [] := by rw [Nat.zero_mul] at hl; exact List.eq_nil_of_length_eq_zero hl
  have hr := run_append_none2 (P := P) (w := w) base t ty e i size ht hi v n c xs hown
  obtain ⟨A', c', hv⟩ : ∃ A' c', v = .slice A' n c' := by
   rcases hown.2 with ⟨rfl, h0⟩ | ⟨g, cap, cur, rfl, _⟩
   ·exact ⟨none, 0, by rw [h0]⟩
   ·exact ⟨_, _, rfl⟩
  refine ⟨A', c', w, by rw [hr, hv]; rfl, ?_, ⟨rfl, rfl, rfl, Nat.le_refl _, fun _ _ _ => rfl⟩, .inl (by rw [hv]; rfl)⟩
  rw [List.append_nil, Nat.add_zero, ← hv]
  exact hown
 | some ad =>
  refine append_own2 (P := P) w base t ty e i z size bytes ht hi hz hsize hby hzs hsz v n xs hown ad m c news hl ?_ h1 h63 hbytes hbase
  intro j u hu
  rcases Nat.eq_zero_or_pos m with h | h
  ·subst h
   rw [Nat.zero_mul] at hl
   rw [List.eq_nil_of_length_eq_zero hl] at hu
   cases hu
  ·obtain ⟨b, off, e, _, hc⟩ := hrow h
   injection e with e
   subst e
   exact rowS_news hsz hc hl hn j u hu
theorem wpList_append_rowS (w : World) {ops : Array Oper} {rest : List Oper} {o : Oper} {a : Act} {Q : Exit → Act → World → Prop} (hgd : o.guard = none) (s x : Operand) (t : TypeId)
  (ho : o.op = .call { callee := .builtin .append, args := #[s, x], argTypes := #[t, t] })
  (base : Nat) (e : TypeId) (i : TypeInfo) (z : Value) (size bytes : Nat) (ht : P.underlying t = some (.slice e)) (hi : P.info? e = some i) (hz : i.zero = some z)
  (hsize : i.size = size) (hby : i.bytes = bytes) (hzs : z.cells.size = size) (hsz : 0 < size)
  (v : Value) (n : Nat) (xs : List Value) (hs : a.eval s = v) (hown : w.ownsRow base e size v n xs)
  (A : Option Addr) (m c : Nat) (hx : a.eval x = .slice A m c) (C : Nat → Nat → Value) (hrow : RowS w A m size C) (news : List Value) (hl : news.length = m * size) (hn : ∀ k j, k < m → j < size → news[k * size + j]? = some (C k j)) (h1 : ∀ u ∈ news, u.oneCell' = true)
  (h63 : n + m ≤ maxLen) (hbytes : (n + m) * bytes ≤ 140737488355328) (hbase : base ≤ w.heap.size)
  (h : ∀ A' c' w', w'.ownsRow base e size (.slice A' (n + m) c') (n + m) (xs ++ news) → w.grownBy w' v.ownBlock → ((Value.slice A' (n + m) c').ownBlock = v.ownBlock ∨ ∃ k, (Value.slice A' (n + m) c').ownBlock = some k ∧ w.heap.size ≤ k) → wpList P ops Q rest (a.put o.dst (.slice A' (n + m) c')) w') : wpList P ops Q (o :: rest) a w := by
 refine wpList_plain hgd fun K hK => ?_
 obtain ⟨A', c', w', hr, h2, h3, h4⟩ := append_rowS (P := P) w base t o.type e i z size bytes ht hi hz hsize hby hzs hsz v n xs hown A m c C hrow news hl hn h1 h63 hbytes hbase
 unfold Oper.wp execOp
 simp only [ho, resolve, invoke, builtin, Sem.run_bind, Sem.run_pure, Result.andThen_ok, List.map_toArray, List.map_cons, List.map_nil, hs, hx, hr]
 exact hK _ _ (h A' c' w' h2 h3 h4)
end
end Go.Proofs.YtpghciiifnjimaaGreatDoor
namespace Go.Proofs.YtpghciiifnjimaaGreatDoor
set_option maxRecDepth 4000
set_option linter.unusedSimpArgs false
set_option linter.unusedVariables false
open Go.RowKit Go.Deep Go.WideShapes
def kdOf (P : Program) (tids : List TypeId) (t : TypeId) : Option Kd := match P.underlying t with
 | some (.int .i64) => some .i
 | some (.int .u64) => some .u
 | some .string => some .s
 | some .bool => some .b
 | some (.slice e) => (tids.idxOf? e).map .sl
 | _ => none
def flatFs (P : Program) (rec : TypeId → Option (List Kd)) : List Field → Nat → Option (List Kd)
 | [], _ => some []
 | f :: r, o => if f.offset = o then match rec f.type with
   | some ks => if P.cellsOf f.type = ks.length then (flatFs P rec r (o + ks.length)).map (ks ++ ·) else none
   | none => none
  else none
/-- The kinds of a type's cells. -/
def flatT (P : Program) (tids : List TypeId) : Nat → TypeId → Option (List Kd)
 | 0, _ => none
 | f + 1, t => match P.underlying t with
  | some (.struct fs) => match flatFs P (flatT P tids f) fs.toList 0 with
   | some ks => if P.cellsOf t = ks.length then some ks else none
   | none => none
  | _ => (kdOf P tids t).map ([·])
/-- The cells read as trees of these kinds. -/
def Reads (w : World) (cs : List Value) (ks : List Kd) : Prop := cs.length = ks.length ∧ ∀ j, j < ks.length → ∃ T : Tr, T.rd (Old w) w (cs.getD j undef) ∧ T.wt (ks.getD j .i)
section
variable {H : Type} {enc : TypeId × Value → H} {P : Program} {w : World} {base : Nat} {spare : Nat → Bool} {held : Bool}
theorem mem_all {e : TypeId} {m : Nat} : ∀ {l : List (DataW H)} {i : Nat} {d : DataW H}, l[i]? = some d → m ∈ d.weights P e → m ∈ DataW.weightsAll P e l
 | [], _, _, h, _ => by simp at h
 | x :: r, 0, d, h, hm => by
  unfold DataW.weightsAll
  simp at h
  subst h
  exact List.mem_append_left _ hm
 | x :: r, i + 1, d, h, hm => by
  unfold DataW.weightsAll
  exact List.mem_append_right _ (mem_all (i := i) (by simpa using h) hm)
theorem mem_each {m : Nat} : ∀ {ts : List TypeId} {l : List (DataW H)} {i : Nat} {t : TypeId} {d : DataW H}, ts[i]? = some t → l[i]? = some d → m ∈ d.weights P t → m ∈ DataW.weightsEach P ts l
 | [], _, _, _, _, h, _, _ => by simp at h
 | _ :: _, [], _, _, _, _, h, _ => by simp at h
 | t :: ts, x :: r, 0, _, _, h, h2, hm => by
  unfold DataW.weightsEach
  simp at h h2
  subst h h2
  exact List.mem_append_left _ hm
 | t :: ts, x :: r, i + 1, _, _, h, h2, hm => by
  unfold DataW.weightsEach
  exact List.mem_append_right _ (mem_each (i := i) (by simpa using h) (by simpa using h2) hm)
theorem reads_one {v : Value} {k : Kd} {T : Tr} (h : T.rd (Old w) w v) (ht : T.wt k) : Reads w [v] [k] := ⟨rfl, fun j hj => by
 obtain rfl : j = 0 := by simp at hj; exact hj
 exact ⟨T, h, ht⟩⟩
theorem flatFs_reads {rec : TypeId → Option (List Kd)} {cs : List Value} : ∀ {r : List Field} {o : Nat} {ks : List Kd}, flatFs P rec r o = some ks →
  (∀ (f : Field) (ks' : List Kd), f ∈ r → rec f.type = some ks' → Reads w ((cs.drop f.offset).take (P.cellsOf f.type)) ks') → ∀ j, j < ks.length → ∃ T : Tr, T.rd (Old w) w (cs.getD (o + j) undef) ∧ T.wt (ks.getD j .i)
 | [], o, ks, h, _, j, hj => by
  unfold flatFs at h
  injection h with h
  subst h
  simp at hj
 | f :: r, o, ks, h, hr, j, hj => by
  unfold flatFs at h
  split at h
  ·rename_i ho
   cases hk : rec f.type with
   | none => rw [hk] at h; cases h
   | some k1 =>
    rw [hk] at h
    simp only at h
    split at h
    ·rename_i hc
     cases hk2 : flatFs P rec r (o + k1.length) with
     | none => rw [hk2] at h; cases h
     | some k2 =>
      rw [hk2] at h
      simp only [Option.map_some, Option.some.injEq] at h
      subst h
      obtain ⟨hl, h1⟩ := hr f k1 (List.mem_cons_self ..) hk
      by_cases hj1 : j < k1.length
      ·obtain ⟨T, ha, hb⟩ := h1 j hj1
       refine ⟨T, ?_, ?_⟩
       ·rw [ho, hc] at ha hl
        rw [List.getD_eq_getElem?_getD, List.getElem?_take, if_pos hj1, List.getElem?_drop, ← List.getD_eq_getElem?_getD] at ha
        exact ha
       ·rw [List.getD_eq_getElem?_getD, List.getElem?_append_left hj1, ← List.getD_eq_getElem?_getD]
        exact hb
      ·have hj2 : j - k1.length < k2.length := by rw [List.length_append] at hj; omega
       obtain ⟨T, ha, hb⟩ := flatFs_reads hk2 (fun f' ks' hf' => hr f' ks' (List.mem_cons_of_mem _ hf')) _ hj2
       refine ⟨T, ?_, ?_⟩
       ·rw [show o + j = o + k1.length + (j - k1.length) by omega]; exact ha
       ·rw [List.getD_eq_getElem?_getD, List.getElem?_append_right (by omega), ← List.getD_eq_getElem?_getD]
        exact hb
    ·cases h
  ·cases h
/-- Each record of the table lies at this seat as the table says. -/
def tblB (P : Program) (tids : List TypeId) : Bool := tids.length == 15 && (List.range 15).all fun e => match tids[e]? with
 | some t => flatT P tids 4 t == some (tbl e) && P.cellsOf t == (tbl e).length && P.bytesOf t == tby e
 | none => false
theorem tblB_at {tids : List TypeId} (h : tblB P tids = true) {e : Nat} {t : TypeId} (he : tids[e]? = some t) : flatT P tids 4 t = some (tbl e) ∧ P.cellsOf t = (tbl e).length ∧ P.bytesOf t = tby e ∧ e < 15 := by
 unfold tblB at h
 rw [Bool.and_eq_true, List.all_eq_true, beq_iff_eq] at h
 have hj : e < 15 := by rw [← h.1]; exact (List.getElem?_eq_some_iff.1 he).1
 have := h.2 e (List.mem_range.2 hj)
 rw [he] at this
 simp only [Bool.and_eq_true, beq_iff_eq] at this
 exact ⟨this.1.1, this.1.2, this.2, hj⟩
theorem tbl_pos {e : Nat} (h : e < 15) : 0 < (tbl e).length := by
 match e, h with
 | 0, _ | 1, _ | 2, _ | 3, _ | 4, _ | 5, _ | 6, _ | 7, _ | 8, _ | 9, _ | 10, _ | 11, _ | 12, _ | 13, _ | 14, _ => decide
theorem idx_at {tids : List TypeId} {e : TypeId} {k : Nat} (h : tids.idxOf? e = some k) : tids[k]? = some e := by
 have h1 := List.findIdx?_eq_some_iff_getElem.1 h
 obtain ⟨hk, he, _⟩ := h1
 rw [List.getElem?_eq_getElem hk]
 exact congrArg some (by simpa using he)
theorem tree_open {tids : List TypeId} (hT : tblB P tids = true) : ∀ (fu : Nat) (f : Nat) (t : TypeId) (ks : List Kd) (cs : List Value) (x : DataW H × List MemPlace), flatT P tids f t = some ks →
  DataW.trod enc P w base spare held fu t cs = some x → (∀ m, m ∈ x.1.weights P t → m ≤ 140737488351232) → Reads w cs ks
 | 0, _, _, _, _, _, _, h, _ => by simp [DataW.trod] at h
 | fu + 1, 0, _, _, _, _, hf, _, _ => by cases hf
 | fu + 1, f + 1, t, ks, cs, x, hf, h, hm => by
  unfold flatT at hf
  split at hf
  ·rename_i fs he
   cases hk : flatFs P (flatT P tids f) fs.toList 0 with
   | none => rw [hk] at hf; cases hf
   | some k1 =>
    rw [hk] at hf
    simp only at hf
    split at hf
    ·rename_i hc
     injection hf with hf
     subst hf
     obtain ⟨xs, n, hn, hx, hlen, hxl, hi⟩ := DataW.trod_struct he h
     obtain rfl : fu = n := by omega
     refine ⟨by rw [hlen, hc], fun j hj => ?_⟩
     have key := flatFs_reads (w := w) (cs := cs) hk (fun f' ks' hf' hrec => by
      obtain ⟨i, hi1, hi2⟩ := List.getElem_of_mem hf'
      have hfi : fs[i]? = some f' := by rw [← hi2, Array.getElem_toList]; exact Array.getElem?_eq_getElem (by simpa using hi1)
      have hg := hi i f' hfi
      have hxi : xs[i]? = some (xs[i]'(by have := (Array.getElem?_eq_some_iff.1 hfi).1; omega)) := List.getElem?_eq_getElem _
      rw [hxi] at hg
      refine tree_open hT fu f _ ks' _ _ hrec hg (fun m hmm => hm m ?_)
      rw [hx]
      unfold DataW.weights
      rw [he]
      exact mem_each (i := i) (t := f'.type) (by simp [hfi]) (by rw [List.getElem?_map, hxi]; rfl) hmm) j hj
     rwa [Nat.zero_add] at key
    ·cases hf
  ·cases hk : kdOf P tids t with
   | none => rw [hk] at hf; cases hf
   | some k =>
    rw [hk] at hf
    simp only [Option.map_some, Option.some.injEq] at hf
    subst hf
    unfold kdOf at hk
    split at hk
    ·rename_i he
     injection hk with hk
     subst hk
     obtain ⟨n, rfl, _, hw⟩ := DataW.trod_int he h
     simp [Lit.wf] at hw
     exact reads_one (T := .lf (.int .i64 n)) rfl ⟨n, rfl, hw⟩
    ·rename_i he
     injection hk with hk
     subst hk
     obtain ⟨n, rfl, _, hw⟩ := DataW.trod_int he h
     simp [Lit.wf, IntKind.min, IntKind.max, IntKind.signed, IntKind.bits] at hw
     exact reads_one (T := .lf (.int .u64 n)) rfl ⟨n, rfl, hw.1, by omega⟩
    ·rename_i he
     injection hk with hk
     subst hk
     obtain ⟨s, rfl, _, hw⟩ := DataW.trod_string he h
     exact reads_one (T := .lf (.string s)) rfl ⟨s, rfl, hw⟩
    ·rename_i he
     injection hk with hk
     subst hk
     obtain ⟨b, rfl, _⟩ := DataW.trod_bool he h
     exact reads_one (T := .lf (.bool b)) rfl ⟨b, rfl⟩
    ·rename_i e he
     cases hidx : tids.idxOf? e with
     | none => rw [hidx] at hk; cases hk
     | some k0 =>
      rw [hidx] at hk
      simp only [Option.map_some, Option.some.injEq] at hk
      subst hk
      obtain ⟨hfe, hce, hbe, hlt⟩ := tblB_at hT (idx_at hidx)
      have hpos := tbl_pos hlt
      rcases DataW.trod_slice he h with ⟨rfl, _⟩ | ⟨a, len, cap, elems, rest, n, hn, rfl, hx, _, hl, hmx, hlen, hel, _, _⟩
      ·exact reads_one (T := .row 0 (tbl k0).length fun _ _ => .lf undef) ⟨none, 0, fun _ _ => undef, rfl, Nat.le_refl _, fun h => by omega, fun k j hk => by omega⟩ ⟨rfl, by simp, fun k j hk => by omega⟩
      ·obtain rfl : fu = n := by omega
       rw [hce] at hel
       have hwt : len * tby k0 ≤ 140737488351232 := by
        have := hm ((elems.length + rest.length) * P.bytesOf e) (by rw [hx]; unfold DataW.weights; rw [he]; simp)
        rw [hbe, hlen] at this
        exact Nat.le_trans (Nat.mul_le_mul_right _ (Nat.le_add_right _ _)) this
       have key : ∀ i, i < len → ∃ cs', (∀ j, j < (tbl k0).length → w.cell? (a.add (i * (tbl k0).length + j)) = some (cs'.getD j undef)) ∧ Reads w cs' (tbl k0) := fun i hi => by
        have h1 := hel i hi
        have h2 : elems[i]? = some (elems[i]'(by omega)) := List.getElem?_eq_getElem _
        rw [h2] at h1
        obtain ⟨cs', hc, ht'⟩ := Option.bind_eq_some_iff.1 h1
        obtain ⟨_, hcl, hat⟩ := World.cells?_some hc
        refine ⟨cs', fun j hj => ?_, tree_open hT fu 4 e _ cs' _ hfe ht' (fun m hmm => hm m ?_)⟩
        ·have := hat j hj
         rw [Deep.add_add, List.getElem?_eq_getElem (by omega)] at this
         rw [this, List.getD_eq_getElem?_getD, List.getElem?_eq_getElem (by omega)]
         rfl
        ·rw [hx]
         unfold DataW.weights
         rw [he]
         exact List.mem_cons_of_mem _ (List.mem_append_left _ (mem_all (i := i) (by rw [List.getElem?_map, h2]; rfl) hmm))
       have hC : ∃ C : Nat → List Value, ∀ i, i < len → (∀ j, j < (tbl k0).length → w.cell? (a.add (i * (tbl k0).length + j)) = some ((C i).getD j undef)) ∧ Reads w (C i) (tbl k0) := by
        refine ⟨fun i => if hi : i < len then Classical.choose (key i hi) else [], fun i hi => ?_⟩
        simp only [dif_pos hi]
        exact Classical.choose_spec (key i hi)
       obtain ⟨C, hCC⟩ := hC
       have hTr : ∃ c : Nat → Nat → Tr, ∀ i j, i < len → j < (tbl k0).length → (c i j).rd (Old w) w ((C i).getD j undef) ∧ (c i j).wt ((tbl k0).getD j .i) := by
        refine ⟨fun i j => if hi : i < len ∧ j < (tbl k0).length then Classical.choose ((hCC i hi.1).2.2 j hi.2) else .lf undef, fun i j hi hj => ?_⟩
        simp only [dif_pos (And.intro hi hj)]
        exact Classical.choose_spec ((hCC i hi).2.2 j hj)
       obtain ⟨c, hcc⟩ := hTr
       refine reads_one (T := .row len (tbl k0).length c) ⟨some a, cap, fun i j => (C i).getD j undef, rfl, hl, fun hn => ?_, fun i j hi hj => (hcc i j hi hj).1⟩ ⟨rfl, hwt, fun i j hi hj => (hcc i j hi hj).2⟩
       obtain ⟨b, off, spot⟩ := a
       have hv := (hCC 0 hn).1 0 hpos
       have hs : spot = none := by simpa [Addr.add] using World.cell?_spot hv
       subst hs
       have hadd : ∀ k, Addr.add ⟨b, off, none⟩ k = ⟨b, off + k, none⟩ := fun k => by
        cases k <;> simp [Addr.add]
       rw [hadd] at hv
       refine ⟨b, off, rfl, World.block_lt_of_cell? _ _ hv, fun k j hk hj => ?_⟩
       have := (hCC k hk).1 j hj
       rwa [hadd] at this
    ·cases hk
end
end Go.Proofs.YtpghciiifnjimaaGreatDoor
namespace Go.Proofs.YtpghciiifnjimaaGreatDoor
set_option maxRecDepth 4000
set_option linter.unusedSimpArgs false
set_option linter.unusedVariables false
open Go.RowKit
theorem heap_new (w : World) (o : Obj) (n : Nat) (h : n = w.heap.size) : (w.alloc o).heap[n]? = some o := by
 subst h
 show (w.heap.push o)[w.heap.size]? = _
 simp
theorem cell_at {w : World} {g : Nat} {c : Array Value} {t : TypeId} (h : w.heap[g]? = some (.cells c t (0, 0))) (o : Nat) : w.cell? ⟨g, o, none⟩ = c[o]? := cell_of_row w g o c t (0, 0) h
theorem free_at {w : World} {g : Nat} {c : Array Value} {t : TypeId} (h : w.heap[g]? = some (.cells c t (0, 0))) (o : Nat) : w.frozen? ⟨g, o, none⟩ = false := by
 simp [World.frozen?, h]
theorem below_drewN {B : Nat} {a w : World} (h : Below B a w) (n : Nat) : Below B a (w.drewN n) := ⟨h.os, h.tape, h.output, h.size, h.block⟩
theorem undrew {a w : World} (h : Below a.drew.heap.size a.drew w) : Below a.heap.size a w := ⟨h.os, h.tape, h.output, h.size, h.block⟩

end Go.Proofs.YtpghciiifnjimaaGreatDoor
namespace Go.Proofs.YtpghciiifnjimaaGreatDoor
set_option maxRecDepth 4000
set_option linter.unusedSimpArgs false
set_option linter.unusedVariables false
open Go.RowKit
/-- A slice of structs of two ints: n elements, the fields f k and g k. -/
def Row2 (w : World) (A : Option Addr) (n : Nat) (f g : Nat → Int) : Prop :=
 0 < n → ∃ b off, A = some ⟨b, off, none⟩ ∧ b < w.heap.size ∧ ∀ k, k < n → w.cell? ⟨b, off + k * 2, none⟩ = some (.int .i64 (f k)) ∧ w.cell? ⟨b, off + k * 2 + 1, none⟩ = some (.int .i64 (g k))
theorem Row2.below {w w' : World} {A : Option Addr} {n : Nat} {f g : Nat → Int} (h : Row2 w A n f g) (hb : Below w.heap.size w w') : Row2 w' A n f g := fun hn => by
 obtain ⟨b, off, e, hlt, hc⟩ := h hn
 exact ⟨b, off, e, Nat.lt_of_lt_of_le hlt hb.size, fun k hk => ⟨(hb.cell (p := ⟨b, _, none⟩) hlt).trans (hc k hk).1, (hb.cell (p := ⟨b, _, none⟩) hlt).trans (hc k hk).2⟩⟩
/-- Both fields are ints. -/
def IB (n : Nat) (f g : Nat → Int) : Prop := ∀ k, k < n → IIn (f k) ∧ IIn (g k)

def inB (x y : Int) : Prop := 0 ≤ x ∧ x ≤ 1000000000000 ∧ 0 ≤ y ∧ y ≤ 1000000
instance (x y : Int) : Decidable (inB x y) := by unfold inB; exact inferInstance
def allB (n : Nat) (f g : Nat → Int) : Prop := ∀ k, k < n → inB (f k) (g k)
instance (n : Nat) (f g : Nat → Int) : Decidable (allB n f g) := by unfold allB; exact inferInstance
def ascB (n : Nat) (f : Nat → Int) : Prop := ∀ k, k < n - 1 → f k < f (k + 1)
instance (n : Nat) (f : Nat → Int) : Decidable (ascB n f) := by unfold ascB; exact inferInstance
/-- What Check answers. -/
def chk (n : Nat) (f g : Nat → Int) : Int := if 6 < n then 5 else if ¬ allB n f g then 1 else if ¬ ascB n f then 10 else if 0 < n ∧ f 0 ≠ 0 then 1 else 0
theorem chk_5 {n : Nat} {f g : Nat → Int} (h : 6 < n) : chk n f g = 5 := if_pos h
theorem chk_1 {n k : Nat} {f g : Nat → Int} (h : n ≤ 6) (hk : k < n) (hn : ¬ inB (f k) (g k)) : chk n f g = 1 := by
 unfold chk; rw [if_neg (by omega), if_pos (fun ha => hn (ha k hk))]
theorem chk_10 {n k : Nat} {f g : Nat → Int} (h : n ≤ 6) (ha : allB n f g) (hk : 1 ≤ k) (hk' : k < n) (hn : ¬ f (k - 1) < f k) : chk n f g = 10 := by
 unfold chk
 rw [if_neg (by omega), if_neg (not_not_intro ha), if_pos (fun hs => hn (by have := hs (k - 1) (by omega); rwa [show k - 1 + 1 = k from by omega] at this))]
theorem chk_01 {n : Nat} {f g : Nat → Int} (h : n ≤ 6) (ha : allB n f g) (hs : ascB n f) (hn : 0 < n) (h0 : f 0 ≠ 0) : chk n f g = 1 := by
 unfold chk; rw [if_neg (by omega), if_neg (not_not_intro ha), if_neg (not_not_intro hs), if_pos ⟨hn, h0⟩]
theorem chk_0 {n : Nat} {f g : Nat → Int} (h : n ≤ 6) (ha : allB n f g) (hs : ascB n f) (h0 : 0 < n → f 0 = 0) : chk n f g = 0 := by
 unfold chk; rw [if_neg (by omega), if_neg (not_not_intro ha), if_neg (not_not_intro hs), if_neg (fun hh => hh.2 (h0 hh.1))]
theorem allB_succ {k : Nat} {f g : Nat → Int} (h : allB k f g) (hk : inB (f k) (g k)) : allB (k + 1) f g := fun j hj => by
 rcases Nat.lt_or_ge j k with h1 | h1
 ·exact h j h1
 ·obtain rfl : j = k := by omega
  exact hk
theorem ascB_succ {k : Nat} {f : Nat → Int} (hk1 : 1 ≤ k) (h : ascB k f) (hk : f (k - 1) < f k) : ascB (k + 1) f := fun j hj => by
 rcases Nat.lt_or_ge j (k - 1) with h1 | h1
 ·exact h j (by omega)
 ·obtain rfl : j = k - 1 := by omega
  rwa [show k - 1 + 1 = k from by omega]

/-- The size of a balance: its absolute value, the least int's is the greatest int. -/
def tsz (b : Int) : Int := if b < -9223372036854775807 then 9223372036854775807 else if b < 0 then -b else b
end Go.Proofs.YtpghciiifnjimaaGreatDoor
namespace Go.Proofs.YtpghciiifnjimaaGreatDoor
set_option maxRecDepth 4000
set_option linter.unusedSimpArgs false
set_option linter.unusedVariables false
open Go.RowKit
/-- The part of a balance of size sz in tier i, if there is one. -/
def sl1 (n : Nat) (f g : Nat → Int) (sz : Int) (i : Nat) : Option (Int × Int) :=
 if f i < (if i + 1 < n ∧ f (i + 1) < sz then f (i + 1) else sz) then some ((if i + 1 < n ∧ f (i + 1) < sz then f (i + 1) else sz) - f i, g i) else none
/-- The parts in the first k tiers. -/
def sls (n : Nat) (f g : Nat → Int) (sz : Int) (k : Nat) : List (Int × Int) := (List.range k).filterMap (sl1 n f g sz)
theorem own_new (w : World) (e : TypeId) (size : Nat) : (w.alloc (.cells #[] e)).ownsRow w.heap.size e size (.slice (some ⟨w.heap.size, 0, none⟩) 0 0) 0 [] :=
 ⟨by simp, .inr ⟨w.heap.size, 0, #[], rfl, Nat.le_refl _, heap_new w _ _ rfl, Nat.le_refl _, by simp [maxLen], by simp, by simp⟩⟩
/-- What Slices answers. -/
def slices (n : Nat) (f g : Nat → Int) (marginal : Bool) (b : Int) (rate : Int) : List (Int × Int) :=
 if n = 0 ∨ chk n f g ≠ 0 ∨ tsz b = 0 then [] else if marginal = false then [(tsz b, rate)] else sls n f g (tsz b) n
/-- The rate of the first k tiers that begin at or below sz. -/
def rateTo (f g : Nat → Int) (sz : Int) : Nat → Int
 | 0 => 0
 | k + 1 => if f k ≤ sz then g k else rateTo f g sz k
/-- What Rate answers. -/
def rate (n : Nat) (f g : Nat → Int) (b : Int) : Int := if chk n f g ≠ 0 then 0 else rateTo f g (tsz b) n
end Go.Proofs.YtpghciiifnjimaaGreatDoor
namespace Go.Proofs.YtpghciiifnjimaaGreatDoor
set_option maxRecDepth 4000
set_option linter.unusedSimpArgs false
set_option linter.unusedVariables false
open Go.RowKit
def inS (x y : Int) : Prop := 0 ≤ x ∧ 0 ≤ y ∧ y ≤ 1000000
instance (x y : Int) : Decidable (inS x y) := by unfold inS; exact inferInstance
def allS (n : Nat) (f g : Nat → Int) : Prop := ∀ k, k < n → inS (f k) (g k)
instance (n : Nat) (f g : Nat → Int) : Decidable (allS n f g) := by unfold allS; exact inferInstance
def wtOk (t : Int) : Prop := 0 ≤ t ∧ t ≤ 6412320000
instance (t : Int) : Decidable (wtOk t) := by unfold wtOk; exact inferInstance
end Go.Proofs.YtpghciiifnjimaaGreatDoor
namespace Go.Proofs.YtpghciiifnjimaaGreatDoor
set_option maxRecDepth 4000
set_option linter.unusedSimpArgs false
set_option linter.unusedVariables false
open Go.RowKit
theorem Row2.congr {w : World} {A : Option Addr} {n : Nat} {f g f' g' : Nat → Int} (h : Row2 w A n f g) (e : ∀ k, k < n → f k = f' k ∧ g k = g' k) : Row2 w A n f' g' := fun hn => by
 obtain ⟨b, off, hA, hb, hc⟩ := h hn
 exact ⟨b, off, hA, hb, fun k hk => by rw [← (e k hk).1, ← (e k hk).2]; exact hc k hk⟩
end Go.Proofs.YtpghciiifnjimaaGreatDoor
