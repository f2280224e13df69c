/- Slices as functions of the index; appending to slices that the call made, several side by side. No program in sight. -/
import Derived.Test.YtodfpfbcjiganaaDoorReg
import Derived.OwnWalk
import Derived.Deep.OwnRows
namespace Go.Proofs.YtodfpfbcjiganaaDoor
set_option linter.unusedSimpArgs false
set_option linter.unusedVariables false
open Go.RowKit

/-- A slice of ints: n elements, element k being f k. -/
def RowI (w : World) (A : Option Addr) (n : Nat) (f : Nat → Int) : Prop :=
  0 < n → ∃ b off, A = some ⟨b, off, none⟩ ∧ b < w.heap.size ∧ ∀ k, k < n → w.cell? ⟨b, off + k, none⟩ = some (.int .i64 (f k))
theorem RowI.below {w w' : World} {A : Option Addr} {n : Nat} {f : Nat → Int} (h : RowI w A n f) (hb : Below w.heap.size w w') : RowI w' A n f := fun hn => by
  obtain ⟨b, off, e, hlt, hc⟩ := h hn
  exact ⟨b, off, e, Nat.lt_of_lt_of_le hlt hb.size, fun k hk => (hb.cell (p := ⟨b, _, none⟩) hlt).trans (hc k hk)⟩
theorem RowI.congr {w : World} {A : Option Addr} {n : Nat} {f g : Nat → Int} (h : RowI w A n f) (e : ∀ k, k < n → f k = g k) : RowI w A n g := fun hn => by
  obtain ⟨b, off, e', hlt, hc⟩ := h hn
  exact ⟨b, off, e', hlt, fun k hk => by rw [hc k hk, e k hk]⟩

/-- The cells of a list of ints. -/
def ints (l : List Int) : List Value := l.map (Value.int .i64)
theorem ints_len (l : List Int) : (ints l).length = l.length * 1 := by simp [ints]
theorem ints_append (l m : List Int) : ints (l ++ m) = ints l ++ ints m := by simp [ints]
theorem ints_one (l : List Int) : ∀ u ∈ ints l, u.oneCell' = true := by
  intro u hu
  simp [ints] at hu
  obtain ⟨a, _, rfl⟩ := hu
  rfl
theorem cell_of_cells {w : World} {g : Nat} {cur : Array Value} {e : TypeId} {z : Nat × Nat} (h : w.heap[g]? = some (.cells cur e z)) (k : Nat) : w.cell? ⟨g, k, none⟩ = cur[k]? := by simp [World.cell?, h]
def atI (l : List Int) (k : Nat) : Int := l.getD k 0
theorem atI_append_lt {l m : List Int} {k : Nat} (h : k < l.length) : atI (l ++ m) k = atI l k := by simp [atI, List.getElem?_append_left h]
theorem heap_lt {w : World} {g : Nat} {o : Obj} (h : w.heap[g]? = some o) : g < w.heap.size := by
  rcases Nat.lt_or_ge g w.heap.size with h1 | h1
  · exact h1
  · rw [Array.getElem?_eq_none h1] at h; cases h
theorem own_rowI {w : World} {base : Nat} {e : TypeId} {v : Value} {l : List Int} (h : w.ownsRow base e 1 v l.length (ints l)) :
    ∃ A c, v = .slice A l.length c ∧ RowI w A l.length (atI l) := by
  obtain ⟨_, h2⟩ := h
  rcases h2 with ⟨rfl, h0⟩ | ⟨g, cap, cur, rfl, hg, hh, h3, h4, h5, h6⟩
  · exact ⟨none, 0, by rw [h0], fun hn => by omega⟩
  · refine ⟨some ⟨g, 0, none⟩, cap, rfl, fun _ => ⟨g, 0, rfl, heap_lt hh, fun k hk => ?_⟩⟩
    have f1 : (ints l)[k]? = some (.int .i64 (atI l k)) := by simp [ints, atI, List.getElem?_eq_getElem hk]
    rw [← h6, List.getElem?_take] at f1
    rw [if_pos (by omega)] at f1
    exact (cell_of_cells hh _).trans (by simpa using f1)
theorem own_ge {w : World} {base : Nat} {e : TypeId} {size n : Nat} {v : Value} {xs : List Value} (h : w.ownsRow base e size v n xs) (k : Nat) (hk : v.ownBlock = some k) : base ≤ k := (h.lt k hk).1
theorem owns_below {w w' : World} {base : Nat} {e : TypeId} {size n : Nat} {v : Value} {xs : List Value} (h : w.ownsRow base e size v n xs) (hb : Below w.heap.size w w') : w'.ownsRow base e size v n xs := by
  refine ⟨h.1, ?_⟩
  rcases h.2 with h2 | ⟨g, cap, cur, hv, hg, hh, r⟩
  · exact .inl h2
  · exact .inr ⟨g, cap, cur, hv, hg, (hb.block g (heap_lt hh)).trans hh, r⟩
theorem owns_empty (w : World) (base : Nat) (hb : base ≤ w.heap.size) (e : TypeId) (size : Nat) : (w.alloc (.cells #[] e)).ownsRow base e size (.slice (some ⟨w.heap.size, 0, none⟩) 0 0) 0 [] :=
  World.ownsRow_made w #[] 0 hb (by simp [maxLen]) (by simp)
theorem owns_rebase {w : World} {base base' : Nat} {e : TypeId} {size n : Nat} {v : Value} {xs : List Value} (h : w.ownsRow base e size v n xs) (hb : base' ≤ base) : w.ownsRow base' e size v n xs := by
  refine ⟨h.1, h.2.imp id fun ⟨g, cap, cur, hv, hg, r⟩ => ⟨g, cap, cur, hv, by omega, r⟩⟩
theorem below_grown {B : Nat} {W w' : World} {row : Option Nat} (hg : W.grownBy w' row) (hB : B ≤ W.heap.size) (hr : ∀ k, row = some k → B ≤ k) : Below B W w' := (Below.refl B W).grown hg hB hr
theorem news1 {w : World} {g : Nat} {a : Value} (h0 : w.cell? ⟨g, 0, none⟩ = some a) (j : Nat) (u : Value) (h : [a][j]? = some u) : w.cell? ((⟨g, 0, none⟩ : Addr).add j) = some u := by
  match j with
  | 0 => simp at h; subst h; simpa [Addr.add] using h0
  | j + 1 => simp at h
theorem one1 {k : IntKind} {a : Int} : ∀ u ∈ [Value.int k a], u.oneCell' = true := by
  intro u hu; simp at hu; subst hu; rfl
theorem one1s {A : Option Addr} {n c : Nat} : ∀ u ∈ [Value.slice A n c], u.oneCell' = true := by
  intro u hu; simp at hu; subst hu; rfl
theorem grown_setCell (w : World) (b i : Nat) (v : Value) : w.grownBy (w.setCell ⟨b, i, none⟩ v) (some b) :=
  ⟨rfl, rfl, rfl, by simp, fun k _ hk => by
    simp [World.setCell, Array.getElem?_modify]
    intro e
    exact absurd (by rw [e]) hk⟩

section
variable {P : Program}
/-- Appending to a slice that the call made: the value is a slice, and lies where it lay, or in new memory. -/
theorem append_own2 (w : World) (base : Nat) (t ty e : TypeId) (i : TypeInfo) (z : Value) (size bytes : Nat) (ht : P.underlying t = some (.slice e)) (hi : P.info? e = some i) (hz : i.zero = some z)
    (hsize : i.size = size) (hby : i.bytes = bytes) (hzs : z.cells.size = size) (hsz : 0 < size)
    (v : Value) (n : Nat) (xs : List Value) (hown : w.ownsRow base e size v n xs)
    (a : Addr) (m c : Nat) (news : List Value) (hl : news.length = m * size) (hnews : ∀ j u, news[j]? = some u → w.cell? (a.add j) = some u) (h1 : ∀ u ∈ news, u.oneCell' = true)
    (h63 : n + m ≤ maxLen) (hbytes : (n + m) * bytes ≤ 140737488355328) (hbase : base ≤ w.heap.size) :
    ∃ A' c' w', (Builtin.append_ #[t, t] ty #[v, .slice (some a) m c]).run P w = .ok (.slice A' (n + m) c') w' ∧ w'.ownsRow base e size (.slice A' (n + m) c') (n + m) (xs ++ news) ∧ w.grownBy w' v.ownBlock ∧
      ((Value.slice A' (n + m) c').ownBlock = v.ownBlock ∨ ∃ k, (Value.slice A' (n + m) c').ownBlock = some k ∧ w.heap.size ≤ k) := by
  obtain ⟨v', w', hr, h2, h3, _⟩ := run_append_own (P := P) w base t ty e i z size bytes ht hi hz hsize hby hzs hsz v n xs hown a m c news hl hnews h1 h63 hbytes hbase
  obtain ⟨A', c', hv'⟩ : ∃ A' c', v' = .slice A' (n + m) c' := by
    rcases h2.2 with ⟨rfl, h0⟩ | ⟨g, cap, cur, rfl, _⟩
    · exact ⟨none, 0, by rw [h0]⟩
    · exact ⟨_, _, rfl⟩
  refine ⟨A', c', w', by rw [← hv']; exact hr, by rw [← hv']; exact h2, h3, ?_⟩
  rw [← hv']
  subst hsize
  subst hby
  rcases hown.2 with ⟨rfl, rfl⟩ | ⟨g, cap, cur, rfl, hbg, hg, hnc, hcm, hcs, htake⟩
  · by_cases hm : m = 0
    · obtain ⟨v2, w2, hr2, h22, _, hiff⟩ := run_append_own (P := P) w base t ty e i z i.size i.bytes ht hi hz rfl rfl hzs hsz _ _ xs hown a m c news hl hnews h1 h63 hbytes hbase
      have e1 := hr.symm.trans hr2
      injection e1 with e2 e3
      left
      rw [e2, hiff.2 ⟨rfl, hm⟩]
    · have hown2 : w.ownsRow w.heap.size e i.size (.slice none 0 0) 0 xs := ⟨hown.1, .inl ⟨rfl, rfl⟩⟩
      obtain ⟨v2, w2, hr2, h22, _, hiff⟩ := run_append_own (P := P) w w.heap.size t ty e i z i.size i.bytes ht hi hz rfl rfl hzs hsz _ _ xs hown2 a m c news hl hnews h1 h63 hbytes (Nat.le_refl _)
      have e1 := hr.symm.trans hr2
      injection e1 with e2 e3
      right
      rw [e2]
      rcases h22.2 with ⟨_, h0⟩ | ⟨g, cap, cur, rfl, hg, _⟩
      · omega
      · exact ⟨g, rfl, hg⟩
  · by_cases hroom : n + m ≤ cap
    · have hfit : n * i.size + news.length ≤ cur.size := by rw [hl, hcs, ← Nat.add_mul]; exact Nat.mul_le_mul_right _ hroom
      have hr2 := run_append_room (P := P) w t ty e i ht hi g n cap cur hg a m c news hl hnews h1 hroom hfit
      have e1 := hr.symm.trans hr2
      injection e1 with e2 e3
      left
      rw [e2]
      rfl
    · have holds : ∀ j u, xs[j]? = some u → w.cell? ((⟨g, 0, none⟩ : Addr).add j) = some u := hown.cells (g := g) rfl
      have hsmall : n + m ≤ 9223372036854775807 := by simp only [maxLen] at h63; omega
      have hr2 := run_append_grow (P := P) w t ty e i z ht hi hz ⟨g, 0, none⟩ n cap xs hown.1 holds a m c news hl hnews (by omega) (by omega) (growslice_fits (by omega) hbytes)
      have e1 := hr.symm.trans hr2
      injection e1 with e2 e3
      right
      rw [e2]
      exact ⟨_, rfl, Nat.le_refl _⟩
theorem wpList_append_own2 (w : World) {ops : Array Oper} {rest : List Oper} {o : Oper} {a : Act} {Q : Exit → Act → World → Prop} (hgd : o.guard = none) (s x : Operand) (t : TypeId)
    (ho : o.op = .call { callee := .builtin .append, args := #[s, x], argTypes := #[t, t] })
    (base : Nat) (e : TypeId) (i : TypeInfo) (z : Value) (size bytes : Nat) (ht : P.underlying t = some (.slice e)) (hi : P.info? e = some i) (hz : i.zero = some z)
    (hsize : i.size = size) (hby : i.bytes = bytes) (hzs : z.cells.size = size) (hsz : 0 < size)
    (v : Value) (n : Nat) (xs : List Value) (hs : a.eval s = v) (hown : w.ownsRow base e size v n xs)
    (ad : Addr) (m c : Nat) (news : List Value) (hx : a.eval x = .slice (some ad) m c) (hl : news.length = m * size) (hnews : ∀ j u, news[j]? = some u → w.cell? (ad.add j) = some u) (h1 : ∀ u ∈ news, u.oneCell' = true)
    (h63 : n + m ≤ maxLen) (hbytes : (n + m) * bytes ≤ 140737488355328) (hbase : base ≤ w.heap.size)
    (h : ∀ A' c' w', w'.ownsRow base e size (.slice A' (n + m) c') (n + m) (xs ++ news) → w.grownBy w' v.ownBlock → ((Value.slice A' (n + m) c').ownBlock = v.ownBlock ∨ ∃ k, (Value.slice A' (n + m) c').ownBlock = some k ∧ w.heap.size ≤ k) → wpList P ops Q rest (a.put o.dst (.slice A' (n + m) c')) w') : wpList P ops Q (o :: rest) a w := by
  refine wpList_plain hgd fun K hK => ?_
  obtain ⟨A', c', w', hr, h2, h3, h4⟩ := append_own2 (P := P) w base t o.type e i z size bytes ht hi hz hsize hby hzs hsz v n xs hown ad m c news hl hnews h1 h63 hbytes hbase
  unfold Oper.wp execOp
  simp only [ho, resolve, invoke, builtin, Sem.run_bind, Sem.run_pure, Result.andThen_ok, List.map_toArray, List.map_cons, List.map_nil, hs, hx, hr]
  exact hK _ _ (h A' c' w' h2 h3 h4)
end

/-! ### Lists side by side, each in memory of its own -/
/-- Block g is a row of n slices of ints; slice j holds the list L j; no two share a block; all lie behind g. -/
def Buckets (w : World) (g : Nat) (ts e : TypeId) (n : Nat) (L : Nat → List Int) : Prop :=
  ∃ V : Nat → Value, w.rowIs g ts n V ∧ (∀ j, j < n → w.ownsRow (g + 1) e 1 (V j) (L j).length (ints (L j))) ∧ ∀ i j, i < n → j < n → i ≠ j → (V i).ownBlock = none ∨ (V i).ownBlock ≠ (V j).ownBlock
theorem Buckets.below {w w' : World} {g : Nat} {ts e : TypeId} {n : Nat} {L : Nat → List Int} (h : Buckets w g ts e n L) (hb : Below w.heap.size w w') : Buckets w' g ts e n L := by
  obtain ⟨V, h1, h2, h3⟩ := h
  exact ⟨V, h1.of_block (hb.block g h1.lt), fun j hj => owns_below (h2 j hj) hb, h3⟩
theorem Buckets.congr {w : World} {g : Nat} {ts e : TypeId} {n : Nat} {L L' : Nat → List Int} (h : Buckets w g ts e n L) (he : ∀ j, j < n → L j = L' j) : Buckets w g ts e n L' := by
  obtain ⟨V, h1, h2, h3⟩ := h
  exact ⟨V, h1, fun j hj => by rw [← he j hj]; exact h2 j hj, h3⟩
theorem Buckets.start (w : World) (ts e : TypeId) (n : Nat) : Buckets (w.alloc (.cells (madeCells #[.slice none 0 0] n) ts)) w.heap.size ts e n (fun _ => []) :=
  ⟨fun _ => .slice none 0 0, World.rowIs_made w _ n ts, fun _ _ => ⟨rfl, .inl ⟨rfl, rfl⟩⟩, fun _ _ _ _ _ => .inl rfl⟩
/-- One list grows. -/
theorem Buckets.put {w w1 : World} {g : Nat} {ts e : TypeId} {n : Nat} {L : Nat → List Int} {V : Nat → Value} (h1 : w.rowIs g ts n V) (h2 : ∀ j, j < n → w.ownsRow (g + 1) e 1 (V j) (L j).length (ints (L j)))
    (h3 : ∀ i j, i < n → j < n → i ≠ j → (V i).ownBlock = none ∨ (V i).ownBlock ≠ (V j).ownBlock) {s : Nat} (hs : s < n) {v : Value} {x : Int} (ho : w1.ownsRow (g + 1) e 1 v ((L s).length + 1) (ints (L s) ++ [.int .i64 x]))
    (hg : w.grownBy w1 (V s).ownBlock) (hv : v.ownBlock = (V s).ownBlock ∨ ∃ k, v.ownBlock = some k ∧ w.heap.size ≤ k) :
    Buckets (w1.setCell ⟨g, s, none⟩ v) g ts e n (fun j => if j = s then L s ++ [x] else L j) := by
  have hgb : ∀ j, j < n → ∀ k, (V j).ownBlock = some k → g + 1 ≤ k ∧ k < w.heap.size := fun j hj k hk => (h2 j hj).lt k hk
  have hrow : w1.rowIs g ts n V := h1.of_block (hg.block g h1.lt (fun e' => by have := (hgb s hs g e'.symm).1; omega))
  refine ⟨fun j => if j = s then v else V j, hrow.set s v, fun j hj => ?_, fun i j hi hj hij => ?_⟩
  · by_cases hjs : j = s
    · subst hjs
      simp only [if_pos]
      have hv1 : v.ownBlock = none ∨ v.ownBlock ≠ some g := by
        right; intro e'; have := own_ge ho g e'; omega
      have := ho.kept (grown_setCell w1 g j v) hv1
      rwa [List.length_append, List.length_singleton, ints_append]
    · simp only [if_neg hjs]
      have hk1 := (h2 j hj).kept hg (h3 j s hj hs hjs)
      refine hk1.kept (grown_setCell w1 g s v) (.inr fun e' => ?_)
      have := (hgb j hj g e').1
      omega
  · by_cases his : i = s
    · subst his
      have hjs : ¬ j = i := fun e' => hij e'.symm
      simp only [if_pos, if_neg hjs]
      rcases hv with hv | ⟨k, hv, hk⟩
      · rw [hv]; exact h3 i j hi hj hij
      · right; rw [hv]; intro e'; have := (hgb j hj k e'.symm).2; omega
    · by_cases hjs : j = s
      · subst hjs
        simp only [if_pos, if_neg his]
        rcases hv with hv | ⟨k, hv, hk⟩
        · rw [hv]; exact h3 i j hi hj hij
        · right; rw [hv]; intro e'; have := (hgb i hi k e').2; omega
      · simp only [if_neg his, if_neg hjs]
        exact h3 i j hi hj hij
theorem row_grown {w w1 : World} {g : Nat} {ts e : TypeId} {n : Nat} {L : Nat → List Int} {V : Nat → Value} (h1 : w.rowIs g ts n V) (h2 : ∀ j, j < n → w.ownsRow (g + 1) e 1 (V j) (L j).length (ints (L j))) {s : Nat} (hs : s < n)
    (hg : w.grownBy w1 (V s).ownBlock) : w1.rowIs g ts n V :=
  h1.of_block (hg.block g h1.lt (fun e' => by have := ((h2 s hs).lt g e'.symm).1; omega))
/-- A slice of n slices of ints: slice j holds the list L j. -/
def RowRow (w : World) (A : Option Addr) (n : Nat) (L : Nat → List Int) : Prop :=
  0 < n → ∃ b off, A = some ⟨b, off, none⟩ ∧ b < w.heap.size ∧ ∀ j, j < n → ∃ B c, w.cell? ⟨b, off + j, none⟩ = some (.slice B (L j).length c) ∧ RowI w B (L j).length (atI (L j))
theorem RowRow.below {w w' : World} {A : Option Addr} {n : Nat} {L : Nat → List Int} (h : RowRow w A n L) (hb : Below w.heap.size w w') : RowRow w' A n L := fun hn => by
  obtain ⟨b, off, e, hlt, hc⟩ := h hn
  refine ⟨b, off, e, Nat.lt_of_lt_of_le hlt hb.size, fun j hj => ?_⟩
  obtain ⟨B, c, h1, h2⟩ := hc j hj
  exact ⟨B, c, (hb.cell (p := ⟨b, _, none⟩) hlt).trans h1, h2.below hb⟩
theorem Buckets.row {w : World} {g : Nat} {ts e : TypeId} {n : Nat} {L : Nat → List Int} (h : Buckets w g ts e n L) : RowRow w (some ⟨g, 0, none⟩) n L := fun _ => by
  obtain ⟨V, h1, h2, h3⟩ := h
  refine ⟨g, 0, rfl, h1.lt, fun j hj => ?_⟩
  obtain ⟨B, c, hv, hr⟩ := own_rowI (h2 j hj)
  exact ⟨B, c, by rw [Nat.zero_add, h1.cell hj, hv], hr⟩
end Go.Proofs.YtodfpfbcjiganaaDoor
