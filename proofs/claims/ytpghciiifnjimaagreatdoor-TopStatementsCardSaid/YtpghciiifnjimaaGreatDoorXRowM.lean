/- Texts laid together: RowM Rec BkM Lst BkO OpB. -/
import Derived.Test.YtpghciiifnjimaaGreatDoorXNum
import Derived.OwnWalk
import Derived.Deep.OwnRows
import Derived.Deep.Slices
import Derived.Deep.Fields
import Derived.Lib.SmallJoins
namespace Go.Proofs.YtpghciiifnjimaaGreatDoor
set_option maxRecDepth 4000
set_option linter.unusedSimpArgs false
set_option linter.unusedVariables false
open Go.RowKit
/-- A slice of ints: n elements, element k being f k. -/
def RowI (w : World) (A : Option Addr) (n : Nat) (f : Nat → Int) : Prop :=
 0 < n → ∃ b off, A = some ⟨b, off, none⟩ ∧ b < w.heap.size ∧ ∀ k, k < n → w.cell? ⟨b, off + k, none⟩ = some (.int .i64 (f k))
theorem RowI.below {w w' : World} {A : Option Addr} {n : Nat} {f : Nat → Int} (h : RowI w A n f) (hb : Below w.heap.size w w') : RowI w' A n f := fun hn => by
 obtain ⟨b, off, e, hlt, hc⟩ := h hn
 exact ⟨b, off, e, Nat.lt_of_lt_of_le hlt hb.size, fun k hk => (hb.cell (p := ⟨b, _, none⟩) hlt).trans (hc k hk)⟩
theorem RowI.congr {w : World} {A : Option Addr} {n : Nat} {f g : Nat → Int} (h : RowI w A n f) (e : ∀ k, k < n → f k = g k) : RowI w A n g := fun hn => by
 obtain ⟨b, off, e', hlt, hc⟩ := h hn
 exact ⟨b, off, e', hlt, fun k hk => by rw [hc k hk, e k hk]⟩

/-- The cells of a list of ints. -/
def ints (l : List Int) : List Value := l.map (Value.int .i64)
theorem ints_append (l m : List Int) : ints (l ++ m) = ints l ++ ints m := by simp [ints]
theorem cell_of_cells {w : World} {g : Nat} {cur : Array Value} {e : TypeId} {z : Nat × Nat} (h : w.heap[g]? = some (.cells cur e z)) (k : Nat) : w.cell? ⟨g, k, none⟩ = cur[k]? := by simp [World.cell?, h]
def atI (l : List Int) (k : Nat) : Int := l.getD k 0
theorem heap_lt {w : World} {g : Nat} {o : Obj} (h : w.heap[g]? = some o) : g < w.heap.size := by
 rcases Nat.lt_or_ge g w.heap.size with h1 | h1
 ·exact h1
 ·rw [Array.getElem?_eq_none h1] at h; cases h
theorem own_rowI {w : World} {base : Nat} {e : TypeId} {v : Value} {l : List Int} (h : w.ownsRow base e 1 v l.length (ints l)) :
  ∃ A c, v = .slice A l.length c ∧ RowI w A l.length (atI l) := by
 obtain ⟨_, h2⟩ := h
 rcases h2 with ⟨rfl, h0⟩ | ⟨g, cap, cur, rfl, hg, hh, h3, h4, h5, h6⟩
 ·exact ⟨none, 0, by rw [h0], fun hn => by omega⟩
 ·refine ⟨some ⟨g, 0, none⟩, cap, rfl, fun _ => ⟨g, 0, rfl, heap_lt hh, fun k hk => ?_⟩⟩
  have f1 : (ints l)[k]? = some (.int .i64 (atI l k)) := by simp [ints, atI, List.getElem?_eq_getElem hk]
  rw [← h6, List.getElem?_take] at f1
  rw [if_pos (by omega)] at f1
  exact (cell_of_cells hh _).trans (by simpa using f1)
theorem own_ge {w : World} {base : Nat} {e : TypeId} {size n : Nat} {v : Value} {xs : List Value} (h : w.ownsRow base e size v n xs) (k : Nat) (hk : v.ownBlock = some k) : base ≤ k := (h.lt k hk).1
theorem owns_below {w w' : World} {base : Nat} {e : TypeId} {size n : Nat} {v : Value} {xs : List Value} (h : w.ownsRow base e size v n xs) (hb : Below w.heap.size w w') : w'.ownsRow base e size v n xs := by
 refine ⟨h.1, ?_⟩
 rcases h.2 with h2 | ⟨g, cap, cur, hv, hg, hh, r⟩
 ·exact .inl h2
 ·exact .inr ⟨g, cap, cur, hv, hg, (hb.block g (heap_lt hh)).trans hh, r⟩
theorem below_grown {B : Nat} {W w' : World} {row : Option Nat} (hg : W.grownBy w' row) (hB : B ≤ W.heap.size) (hr : ∀ k, row = some k → B ≤ k) : Below B W w' := (Below.refl B W).grown hg hB hr
theorem news1 {w : World} {g : Nat} {a : Value} (h0 : w.cell? ⟨g, 0, none⟩ = some a) (j : Nat) (u : Value) (h : [a][j]? = some u) : w.cell? ((⟨g, 0, none⟩ : Addr).add j) = some u := by
 match j with
 | 0 => simp at h; subst h; simpa [Addr.add] using h0
 | j + 1 => simp at h
theorem grown_setCell (w : World) (b i : Nat) (v : Value) : w.grownBy (w.setCell ⟨b, i, none⟩ v) (some b) :=
 ⟨rfl, rfl, rfl, by simp, fun k _ hk => by
  simp [World.setCell, Array.getElem?_modify]
  intro e
  exact absurd (by rw [e]) hk⟩

section
variable {P : Program}
/-- Appending to a slice that the call made: the value is a slice, and lies where it lay, or in new memory. -/
theorem append_own2 (w : World) (base : Nat) (t ty e : TypeId) (i : TypeInfo) (z : Value) (size bytes : Nat) (ht : P.underlying t = some (.slice e)) (hi : P.info? e = some i) (hz : i.zero = some z)
  (hsize : i.size = size) (hby : i.bytes = bytes) (hzs : z.cells.size = size) (hsz : 0 < size)
  (v : Value) (n : Nat) (xs : List Value) (hown : w.ownsRow base e size v n xs)
  (a : Addr) (m c : Nat) (news : List Value) (hl : news.length = m * size) (hnews : ∀ j u, news[j]? = some u → w.cell? (a.add j) = some u) (h1 : ∀ u ∈ news, u.oneCell' = true)
  (h63 : n + m ≤ maxLen) (hbytes : (n + m) * bytes ≤ 140737488355328) (hbase : base ≤ w.heap.size) :
  ∃ A' c' w', (Builtin.append_ #[t, t] ty #[v, .slice (some a) m c]).run P w = .ok (.slice A' (n + m) c') w' ∧ w'.ownsRow base e size (.slice A' (n + m) c') (n + m) (xs ++ news) ∧ w.grownBy w' v.ownBlock ∧
   ((Value.slice A' (n + m) c').ownBlock = v.ownBlock ∨ ∃ k, (Value.slice A' (n + m) c').ownBlock = some k ∧ w.heap.size ≤ k) := by
 obtain ⟨v', w', hr, h2, h3, _⟩ := run_append_own (P := P) w base t ty e i z size bytes ht hi hz hsize hby hzs hsz v n xs hown a m c news hl hnews h1 h63 hbytes hbase
 obtain ⟨A', c', hv'⟩ : ∃ A' c', v' = .slice A' (n + m) c' := by
  rcases h2.2 with ⟨rfl, h0⟩ | ⟨g, cap, cur, rfl, _⟩
  ·exact ⟨none, 0, by rw [h0]⟩
  ·exact ⟨_, _, rfl⟩
 refine ⟨A', c', w', by rw [← hv']; exact hr, by rw [← hv']; exact h2, h3, ?_⟩
 rw [← hv']
 subst hsize
 subst hby
 rcases hown.2 with ⟨rfl, rfl⟩ | ⟨g, cap, cur, rfl, hbg, hg, hnc, hcm, hcs, htake⟩
 ·by_cases hm : m = 0
  ·obtain ⟨v2, w2, hr2, h22, _, hiff⟩ := run_append_own (P := P) w base t ty e i z i.size i.bytes ht hi hz rfl rfl hzs hsz _ _ xs hown a m c news hl hnews h1 h63 hbytes hbase
   have e1 := hr.symm.trans hr2
   injection e1 with e2 e3
   left
   rw [e2, hiff.2 ⟨rfl, hm⟩]
  ·have hown2 : w.ownsRow w.heap.size e i.size (.slice none 0 0) 0 xs := ⟨hown.1, .inl ⟨rfl, rfl⟩⟩
   obtain ⟨v2, w2, hr2, h22, _, hiff⟩ := run_append_own (P := P) w w.heap.size t ty e i z i.size i.bytes ht hi hz rfl rfl hzs hsz _ _ xs hown2 a m c news hl hnews h1 h63 hbytes (Nat.le_refl _)
   have e1 := hr.symm.trans hr2
   injection e1 with e2 e3
   right
   rw [e2]
   rcases h22.2 with ⟨_, h0⟩ | ⟨g, cap, cur, rfl, hg, _⟩
   ·omega
   ·exact ⟨g, rfl, hg⟩
 ·by_cases hroom : n + m ≤ cap
  ·have hfit : n * i.size + news.length ≤ cur.size := by rw [hl, hcs, ← Nat.add_mul]; exact Nat.mul_le_mul_right _ hroom
   have hr2 := run_append_room (P := P) w t ty e i ht hi g n cap cur hg a m c news hl hnews h1 hroom hfit
   have e1 := hr.symm.trans hr2
   injection e1 with e2 e3
   left
   rw [e2]
   rfl
  ·have holds : ∀ j u, xs[j]? = some u → w.cell? ((⟨g, 0, none⟩ : Addr).add j) = some u := hown.cells (g := g) rfl
   have hsmall : n + m ≤ 9223372036854775807 := by simp only [maxLen] at h63; omega
   have hr2 := run_append_grow (P := P) w t ty e i z ht hi hz ⟨g, 0, none⟩ n cap xs hown.1 holds a m c news hl hnews (by omega) (by omega) (growslice_fits (by omega) hbytes)
   have e1 := hr.symm.trans hr2
   injection e1 with e2 e3
   right
   rw [e2]
   exact ⟨_, rfl, Nat.le_refl _⟩
theorem wpList_append_own2 (w : World) {ops : Array Oper} {rest : List Oper} {o : Oper} {a : Act} {Q : Exit → Act → World → Prop} (hgd : o.guard = none) (s x : Operand) (t : TypeId)
  (ho : o.op = .call { callee := .builtin .append, args := #[s, x], argTypes := #[t, t] })
  (base : Nat) (e : TypeId) (i : TypeInfo) (z : Value) (size bytes : Nat) (ht : P.underlying t = some (.slice e)) (hi : P.info? e = some i) (hz : i.zero = some z)
  (hsize : i.size = size) (hby : i.bytes = bytes) (hzs : z.cells.size = size) (hsz : 0 < size)
  (v : Value) (n : Nat) (xs : List Value) (hs : a.eval s = v) (hown : w.ownsRow base e size v n xs)
  (ad : Addr) (m c : Nat) (news : List Value) (hx : a.eval x = .slice (some ad) m c) (hl : news.length = m * size) (hnews : ∀ j u, news[j]? = some u → w.cell? (ad.add j) = some u) (h1 : ∀ u ∈ news, u.oneCell' = true)
  (h63 : n + m ≤ maxLen) (hbytes : (n + m) * bytes ≤ 140737488355328) (hbase : base ≤ w.heap.size)
  (h : ∀ A' c' w', w'.ownsRow base e size (.slice A' (n + m) c') (n + m) (xs ++ news) → w.grownBy w' v.ownBlock → ((Value.slice A' (n + m) c').ownBlock = v.ownBlock ∨ ∃ k, (Value.slice A' (n + m) c').ownBlock = some k ∧ w.heap.size ≤ k) → wpList P ops Q rest (a.put o.dst (.slice A' (n + m) c')) w') : wpList P ops Q (o :: rest) a w := by
 refine wpList_plain hgd fun K hK => ?_
 obtain ⟨A', c', w', hr, h2, h3, h4⟩ := append_own2 (P := P) w base t o.type e i z size bytes ht hi hz hsize hby hzs hsz v n xs hown ad m c news hl hnews h1 h63 hbytes hbase
 unfold Oper.wp execOp
 simp only [ho, resolve, invoke, builtin, Sem.run_bind, Sem.run_pure, Result.andThen_ok, List.map_toArray, List.map_cons, List.map_nil, hs, hx, hr]
 exact hK _ _ (h A' c' w' h2 h3 h4)
end
/-! ### Lists side by side, each in memory of its own -/
/-- Block g is a row of n slices of ints; slice j holds the list L j; no two share a block; all lie behind g. -/
def Buckets (w : World) (g : Nat) (ts e : TypeId) (n : Nat) (L : Nat → List Int) : Prop :=
 ∃ V : Nat → Value, w.rowIs g ts n V ∧ (∀ j, j < n → w.ownsRow (g + 1) e 1 (V j) (L j).length (ints (L j))) ∧ ∀ i j, i < n → j < n → i ≠ j → (V i).ownBlock = none ∨ (V i).ownBlock ≠ (V j).ownBlock
theorem Buckets.below {w w' : World} {g : Nat} {ts e : TypeId} {n : Nat} {L : Nat → List Int} (h : Buckets w g ts e n L) (hb : Below w.heap.size w w') : Buckets w' g ts e n L := by
 obtain ⟨V, h1, h2, h3⟩ := h
 exact ⟨V, h1.of_block (hb.block g h1.lt), fun j hj => owns_below (h2 j hj) hb, h3⟩
theorem Buckets.congr {w : World} {g : Nat} {ts e : TypeId} {n : Nat} {L L' : Nat → List Int} (h : Buckets w g ts e n L) (he : ∀ j, j < n → L j = L' j) : Buckets w g ts e n L' := by
 obtain ⟨V, h1, h2, h3⟩ := h
 exact ⟨V, h1, fun j hj => by rw [← he j hj]; exact h2 j hj, h3⟩
theorem Buckets.start (w : World) (ts e : TypeId) (n : Nat) : Buckets (w.alloc (.cells (madeCells #[.slice none 0 0] n) ts)) w.heap.size ts e n (fun _ => []) :=
 ⟨fun _ => .slice none 0 0, World.rowIs_made w _ n ts, fun _ _ => ⟨rfl, .inl ⟨rfl, rfl⟩⟩, fun _ _ _ _ _ => .inl rfl⟩
/-- One list grows. -/
theorem Buckets.put {w w1 : World} {g : Nat} {ts e : TypeId} {n : Nat} {L : Nat → List Int} {V : Nat → Value} (h1 : w.rowIs g ts n V) (h2 : ∀ j, j < n → w.ownsRow (g + 1) e 1 (V j) (L j).length (ints (L j)))
  (h3 : ∀ i j, i < n → j < n → i ≠ j → (V i).ownBlock = none ∨ (V i).ownBlock ≠ (V j).ownBlock) {s : Nat} (hs : s < n) {v : Value} {x : Int} (ho : w1.ownsRow (g + 1) e 1 v ((L s).length + 1) (ints (L s) ++ [.int .i64 x]))
  (hg : w.grownBy w1 (V s).ownBlock) (hv : v.ownBlock = (V s).ownBlock ∨ ∃ k, v.ownBlock = some k ∧ w.heap.size ≤ k) :
  Buckets (w1.setCell ⟨g, s, none⟩ v) g ts e n (fun j => if j = s then L s ++ [x] else L j) := by
 have hgb : ∀ j, j < n → ∀ k, (V j).ownBlock = some k → g + 1 ≤ k ∧ k < w.heap.size := fun j hj k hk => (h2 j hj).lt k hk
 have hrow : w1.rowIs g ts n V := h1.of_block (hg.block g h1.lt (fun e' => by have := (hgb s hs g e'.symm).1; omega))
 refine ⟨fun j => if j = s then v else V j, hrow.set s v, fun j hj => ?_, fun i j hi hj hij => ?_⟩
 ·by_cases hjs : j = s
  ·subst hjs
   simp only [if_pos]
   have hv1 : v.ownBlock = none ∨ v.ownBlock ≠ some g := by
    right; intro e'; have := own_ge ho g e'; omega
   have := ho.kept (grown_setCell w1 g j v) hv1
   rwa [List.length_append, List.length_singleton, ints_append]
  ·simp only [if_neg hjs]
   have hk1 := (h2 j hj).kept hg (h3 j s hj hs hjs)
   refine hk1.kept (grown_setCell w1 g s v) (.inr fun e' => ?_)
   have := (hgb j hj g e').1
   omega
 ·by_cases his : i = s
  ·subst his
   have hjs : ¬ j = i := fun e' => hij e'.symm
   simp only [if_pos, if_neg hjs]
   rcases hv with hv | ⟨k, hv, hk⟩
   ·rw [hv]; exact h3 i j hi hj hij
   ·right; rw [hv]; intro e'; have := (hgb j hj k e'.symm).2; omega
  ·by_cases hjs : j = s
   ·subst hjs
    simp only [if_pos, if_neg his]
    rcases hv with hv | ⟨k, hv, hk⟩
    ·rw [hv]; exact h3 i j hi hj hij
    ·right; rw [hv]; intro e'; have := (hgb i hi k e').2; omega
   ·simp only [if_neg his, if_neg hjs]
    exact h3 i j hi hj hij
/-- A slice of n slices of ints: slice j holds the list L j. -/
def RowRow (w : World) (A : Option Addr) (n : Nat) (L : Nat → List Int) : Prop :=
 0 < n → ∃ b off, A = some ⟨b, off, none⟩ ∧ b < w.heap.size ∧ ∀ j, j < n → ∃ B c, w.cell? ⟨b, off + j, none⟩ = some (.slice B (L j).length c) ∧ RowI w B (L j).length (atI (L j))
theorem RowRow.below {w w' : World} {A : Option Addr} {n : Nat} {L : Nat → List Int} (h : RowRow w A n L) (hb : Below w.heap.size w w') : RowRow w' A n L := fun hn => by
 obtain ⟨b, off, e, hlt, hc⟩ := h hn
 refine ⟨b, off, e, Nat.lt_of_lt_of_le hlt hb.size, fun j hj => ?_⟩
 obtain ⟨B, c, h1, h2⟩ := hc j hj
 exact ⟨B, c, (hb.cell (p := ⟨b, _, none⟩) hlt).trans h1, h2.below hb⟩
theorem Buckets.row {w : World} {g : Nat} {ts e : TypeId} {n : Nat} {L : Nat → List Int} (h : Buckets w g ts e n L) : RowRow w (some ⟨g, 0, none⟩) n L := fun _ => by
 obtain ⟨V, h1, h2, h3⟩ := h
 refine ⟨g, 0, rfl, h1.lt, fun j hj => ?_⟩
 obtain ⟨B, c, hv, hr⟩ := own_rowI (h2 j hj)
 exact ⟨B, c, by rw [Nat.zero_add, h1.cell hj, hv], hr⟩
end Go.Proofs.YtpghciiifnjimaaGreatDoor
namespace Go.Proofs.YtpghciiifnjimaaGreatDoor
set_option maxRecDepth 4000
set_option linter.unusedSimpArgs false
set_option linter.unusedVariables false
open Go.RowKit Go.Deep
/-- n elements of sz cells each; cell j of element k is C k j. -/
def RowS (w : World) (A : Option Addr) (n sz : Nat) (C : Nat → Nat → Value) : Prop :=
 0 < n → ∃ b off, A = some ⟨b, off, none⟩ ∧ b < w.heap.size ∧ ∀ k j, k < n → j < sz → w.cell? ⟨b, off + (k * sz + j), none⟩ = some (C k j)
theorem RowS.below {w w' : World} {A : Option Addr} {n sz : Nat} {C : Nat → Nat → Value} (h : RowS w A n sz C) (hb : Below w.heap.size w w') : RowS w' A n sz C := fun hn => by
 obtain ⟨b, off, e, hlt, hc⟩ := h hn
 exact ⟨b, off, e, Nat.lt_of_lt_of_le hlt hb.size, fun k j hk hj => (hb.cell (p := ⟨b, _, none⟩) hlt).trans (hc k j hk hj)⟩
theorem RowS.congr {w : World} {A : Option Addr} {n sz : Nat} {C D : Nat → Nat → Value} (h : RowS w A n sz C) (e : ∀ k j, k < n → j < sz → C k j = D k j) : RowS w A n sz D := fun hn => by
 obtain ⟨b, off, e', hlt, hc⟩ := h hn
 exact ⟨b, off, e', hlt, fun k j hk hj => by rw [hc k j hk hj, e k j hk hj]⟩
/-- The element at k, in the walk's own addresses. -/
theorem RowS.at {w : World} {A : Option Addr} {n sz : Nat} {C : Nat → Nat → Value} (h : RowS w A n sz C) {k : Nat} (hk : k < n) : ∃ b off, A = some ⟨b, off, none⟩ ∧ b < w.heap.size ∧ ∀ j, j < sz → w.cell? ⟨b, off + k * sz + j, none⟩ = some (C k j) := by
 obtain ⟨b, off, e, hlt, hc⟩ := h (by omega)
 exact ⟨b, off, e, hlt, fun j hj => by rw [Nat.add_assoc]; exact hc k j hk hj⟩
def strOf : Value → ByteArray | .string s => s | _ => ByteArray.empty
def addrOf : Value → Option Addr | .slice A _ _ => A | _ => none
def lenOf : Value → Nat | .slice _ n _ => n | _ => 0
def capOf : Value → Nat | .slice _ _ c => c | _ => 0
def boolOf : Value → Bool | .bool b => b | _ => false
section
variable {H : Type} {enc : TypeId × Value → H} {P : Program} {w : World} {base : Nat} {spare : Nat → Bool} {held : Bool} {t : TypeId} {v : Value}
end
end Go.Proofs.YtpghciiifnjimaaGreatDoor
namespace Go.Proofs.YtpghciiifnjimaaGreatDoor
set_option maxRecDepth 4000
set_option linter.unusedSimpArgs false
set_option linter.unusedVariables false
open Go.RowKit
/-- An account. -/
structure LAcc where
 id : Int
 op : Int
 cl : Int
 ex : Int
 ow : ByteArray
 pr : ByteArray
 nu : ByteArray
def accC (a : LAcc) : Nat → Value
 | 0 => .int .i64 a.id | 1 => .int .i64 a.op | 2 => .int .i64 a.cl | 3 => .int .i64 a.ex | 4 => .string a.ow | 5 => .string a.pr | 6 => .string a.nu | _ => undef
def accOf (C : Nat → Value) : LAcc := ⟨intOf (C 0), intOf (C 1), intOf (C 2), intOf (C 3), strOf (C 4), strOf (C 5), strOf (C 6)⟩
/-- A leg of an entry. -/
structure LLeg where
 ac : Int
 am : Int
 cu : ByteArray
def legC (a : LLeg) : Nat → Value
 | 0 => .int .i64 a.ac | 1 => .int .i64 a.am | 2 => .string a.cu | _ => undef
def legOf (C : Nat → Value) : LLeg := ⟨intOf (C 0), intOf (C 1), strOf (C 2)⟩
/-- An entry of the journal. -/
structure LEnt where
 id : Int
 bk : Int
 va : Int
 ki : Int
 au : Int
 pe : Int
 key : ByteArray
 tx : ByteArray
 lA : Option Addr
 ln : Nat
 lc : Nat
 ch : Int
 legs : Nat → LLeg
def entC (e : LEnt) : Nat → Value
 | 0 => .int .i64 e.id | 1 => .int .i64 e.bk | 2 => .int .i64 e.va | 3 => .int .i64 e.ki | 4 => .int .i64 e.au | 5 => .int .i64 e.pe | 6 => .string e.key | 7 => .string e.tx | 8 => .slice e.lA e.ln e.lc | 9 => .int .u64 e.ch | _ => undef
/-- A posting. -/
structure LPos where
 en : Int
 dy : Int
 am : Int
 tx : ByteArray
def posC (p : LPos) : Nat → Value
 | 0 => .int .i64 p.en | 1 => .int .i64 p.dy | 2 => .int .i64 p.am | 3 => .string p.tx | _ => undef
def RowAcc (w : World) (A : Option Addr) (n : Nat) (a : Nat → LAcc) : Prop := RowS w A n 7 (fun k => accC (a k))
def RowLeg (w : World) (A : Option Addr) (n : Nat) (a : Nat → LLeg) : Prop := RowS w A n 3 (fun k => legC (a k))
def RowEnt (w : World) (A : Option Addr) (n : Nat) (a : Nat → LEnt) : Prop := RowS w A n 10 (fun k => entC (a k)) ∧ ∀ k, k < n → RowLeg w (a k).lA (a k).ln (a k).legs
def RowPos (w : World) (A : Option Addr) (n : Nat) (a : Nat → LPos) : Prop := RowS w A n 4 (fun k => posC (a k))
theorem RowAcc.below {w w' : World} {A : Option Addr} {n : Nat} {a : Nat → LAcc} (h : RowAcc w A n a) (hb : Below w.heap.size w w') : RowAcc w' A n a := RowS.below h hb
theorem RowLeg.below {w w' : World} {A : Option Addr} {n : Nat} {a : Nat → LLeg} (h : RowLeg w A n a) (hb : Below w.heap.size w w') : RowLeg w' A n a := RowS.below h hb
theorem RowPos.below {w w' : World} {A : Option Addr} {n : Nat} {a : Nat → LPos} (h : RowPos w A n a) (hb : Below w.heap.size w w') : RowPos w' A n a := RowS.below h hb
theorem RowEnt.below {w w' : World} {A : Option Addr} {n : Nat} {a : Nat → LEnt} (h : RowEnt w A n a) (hb : Below w.heap.size w w') : RowEnt w' A n a := ⟨RowS.below h.1 hb, fun k hk => (h.2 k hk).below hb⟩
theorem RowAcc.at {w : World} {A : Option Addr} {n k : Nat} {a : Nat → LAcc} (h : RowAcc w A n a) (hk : k < n) : ∃ b off, A = some ⟨b, off, none⟩ ∧ b < w.heap.size ∧
  w.cell? ⟨b, off + k * 7, none⟩ = some (.int .i64 (a k).id) ∧ w.cell? ⟨b, off + k * 7 + 1, none⟩ = some (.int .i64 (a k).op) ∧ w.cell? ⟨b, off + k * 7 + 2, none⟩ = some (.int .i64 (a k).cl) ∧ w.cell? ⟨b, off + k * 7 + 3, none⟩ = some (.int .i64 (a k).ex) ∧
  w.cell? ⟨b, off + k * 7 + 4, none⟩ = some (.string (a k).ow) ∧ w.cell? ⟨b, off + k * 7 + 5, none⟩ = some (.string (a k).pr) ∧ w.cell? ⟨b, off + k * 7 + 6, none⟩ = some (.string (a k).nu) := by
 obtain ⟨b, off, e, hlt, hc⟩ := RowS.at h hk
 exact ⟨b, off, e, hlt, hc 0 (by omega), hc 1 (by omega), hc 2 (by omega), hc 3 (by omega), hc 4 (by omega), hc 5 (by omega), hc 6 (by omega)⟩
theorem RowLeg.at {w : World} {A : Option Addr} {n k : Nat} {a : Nat → LLeg} (h : RowLeg w A n a) (hk : k < n) : ∃ b off, A = some ⟨b, off, none⟩ ∧ b < w.heap.size ∧
  w.cell? ⟨b, off + k * 3, none⟩ = some (.int .i64 (a k).ac) ∧ w.cell? ⟨b, off + k * 3 + 1, none⟩ = some (.int .i64 (a k).am) ∧ w.cell? ⟨b, off + k * 3 + 2, none⟩ = some (.string (a k).cu) := by
 obtain ⟨b, off, e, hlt, hc⟩ := RowS.at h hk
 exact ⟨b, off, e, hlt, hc 0 (by omega), hc 1 (by omega), hc 2 (by omega)⟩
theorem RowPos.at {w : World} {A : Option Addr} {n k : Nat} {a : Nat → LPos} (h : RowPos w A n a) (hk : k < n) : ∃ b off, A = some ⟨b, off, none⟩ ∧ b < w.heap.size ∧
  w.cell? ⟨b, off + k * 4, none⟩ = some (.int .i64 (a k).en) ∧ w.cell? ⟨b, off + k * 4 + 1, none⟩ = some (.int .i64 (a k).dy) ∧ w.cell? ⟨b, off + k * 4 + 2, none⟩ = some (.int .i64 (a k).am) ∧ w.cell? ⟨b, off + k * 4 + 3, none⟩ = some (.string (a k).tx) := by
 obtain ⟨b, off, e, hlt, hc⟩ := RowS.at h hk
 exact ⟨b, off, e, hlt, hc 0 (by omega), hc 1 (by omega), hc 2 (by omega), hc 3 (by omega)⟩
theorem RowEnt.at {w : World} {A : Option Addr} {n k : Nat} {a : Nat → LEnt} (h : RowEnt w A n a) (hk : k < n) : ∃ b off, A = some ⟨b, off, none⟩ ∧ b < w.heap.size ∧
  w.cell? ⟨b, off + k * 10, none⟩ = some (.int .i64 (a k).id) ∧ w.cell? ⟨b, off + k * 10 + 1, none⟩ = some (.int .i64 (a k).bk) ∧ w.cell? ⟨b, off + k * 10 + 2, none⟩ = some (.int .i64 (a k).va) ∧ w.cell? ⟨b, off + k * 10 + 3, none⟩ = some (.int .i64 (a k).ki) ∧
  w.cell? ⟨b, off + k * 10 + 4, none⟩ = some (.int .i64 (a k).au) ∧ w.cell? ⟨b, off + k * 10 + 5, none⟩ = some (.int .i64 (a k).pe) ∧ w.cell? ⟨b, off + k * 10 + 6, none⟩ = some (.string (a k).key) ∧ w.cell? ⟨b, off + k * 10 + 7, none⟩ = some (.string (a k).tx) ∧
  w.cell? ⟨b, off + k * 10 + 8, none⟩ = some (.slice (a k).lA (a k).ln (a k).lc) ∧ w.cell? ⟨b, off + k * 10 + 9, none⟩ = some (.int .u64 (a k).ch) := by
 obtain ⟨b, off, e, hlt, hc⟩ := RowS.at h.1 hk
 exact ⟨b, off, e, hlt, hc 0 (by omega), hc 1 (by omega), hc 2 (by omega), hc 3 (by omega), hc 4 (by omega), hc 5 (by omega), hc 6 (by omega), hc 7 (by omega), hc 8 (by omega), hc 9 (by omega)⟩
/-- Minus the sum of an account's legs among the first i, as ints are summed. -/
def mvs (legs : Nat → LLeg) (id : Int) : Nat → Int
 | 0 => 0
 | i + 1 => if (legs i).ac = id then wrap64 (mvs legs id i - (legs i).am) else mvs legs id i
/-- There is a leg of the account among the first i. -/
def mvb (legs : Nat → LLeg) (id : Int) : Nat → Bool
 | 0 => false
 | i + 1 => mvb legs id i || (legs i).ac == id
theorem wrap64_bd (x : Int) : -9223372036854775808 ≤ wrap64 x ∧ wrap64 x ≤ 9223372036854775807 := by unfold wrap64; omega
theorem wrap64_id {x : Int} (h : IIn x) : wrap64 x = x := by unfold IIn at h; unfold wrap64; omega
/-- What an entry moves, and whether it touches the account. -/
def mvE (e : LEnt) (id : Int) : Int := mvs e.legs id e.ln
def tchE (e : LEnt) (id : Int) : Bool := mvb e.legs id e.ln
/-- The sum of what the chosen ones of the first k entries move. -/
def sumE (E : Nat → LEnt) (id : Int) (p : LEnt → Bool) : Nat → Int
 | 0 => 0
 | k + 1 => if p (E k) then wrap64 (sumE E id p k + mvE (E k) id) else sumE E id p k
theorem sumE_bd (E : Nat → LEnt) (id : Int) (p : LEnt → Bool) : ∀ i, -9223372036854775808 ≤ sumE E id p i ∧ sumE E id p i ≤ 9223372036854775807
 | 0 => by unfold sumE; omega
 | i + 1 => by
  unfold sumE
  split
  ·exact wrap64_bd _
  ·exact sumE_bd E id p i
/-- The account with an Id, if there is one. -/
def fndA (a : Nat → LAcc) (id : Int) : Nat → Option Nat
 | 0 => none
 | n + 1 => match fndA a id n with
  | some k => some k
  | none => if (a n).id = id then some n else none
theorem fndA_some {a : Nat → LAcc} {id : Int} : ∀ {n k : Nat}, fndA a id n = some k → k < n ∧ (a k).id = id ∧ ∀ j, j < k → (a j).id ≠ id
 | 0, k, h => by cases h
 | n + 1, k, h => by
  unfold fndA at h
  cases hf : fndA a id n with
  | some k' =>
   rw [hf] at h
   simp only [Option.some.injEq] at h
   subst h
   obtain ⟨h1, h2, h3⟩ := fndA_some hf
   exact ⟨by omega, h2, h3⟩
  | none =>
   rw [hf] at h
   simp only at h
   split at h
   ·rename_i he
    simp only [Option.some.injEq] at h
    subst h
    refine ⟨by omega, he, fun j hj => ?_⟩
    exact fndA_none hf j hj
   ·cases h
where
 fndA_none {a : Nat → LAcc} {id : Int} : ∀ {n : Nat}, fndA a id n = none → ∀ j, j < n → (a j).id ≠ id
 | 0, _, j, hj => by omega
 | n + 1, h, j, hj => by
  unfold fndA at h
  cases hf : fndA a id n with
  | some k' => rw [hf] at h; cases h
  | none =>
   rw [hf] at h
   simp only at h
   split at h
   ·cases h
   ·rename_i he
    rcases Nat.lt_succ_iff_lt_or_eq.1 hj with h1 | h1
    ·exact fndA_none hf j h1
    ·subst h1; exact he
theorem fndA_first {a : Nat → LAcc} {id : Int} {n k : Nat} (hk : k < n) (he : (a k).id = id) (hl : ∀ j, j < k → (a j).id ≠ id) : fndA a id n = some k := by
 cases hf : fndA a id n with
 | none => exact absurd he (fndA_some.fndA_none hf k hk)
 | some k' =>
  obtain ⟨h1, h2, h3⟩ := fndA_some hf
  rcases Nat.lt_trichotomy k k' with c | c | c
  ·exact absurd he (h3 k c)
  ·rw [c]
  ·exact absurd h2 (hl k' c)
theorem fndA_no {a : Nat → LAcc} {id : Int} {n : Nat} (hl : ∀ j, j < n → (a j).id ≠ id) : fndA a id n = none := by
 cases hf : fndA a id n with
 | none => rfl
 | some k' => obtain ⟨h1, h2, _⟩ := fndA_some hf; exact absurd h2 (hl k' h1)
end Go.Proofs.YtpghciiifnjimaaGreatDoor
namespace Go.Proofs.YtpghciiifnjimaaGreatDoor
set_option maxRecDepth 4000
set_option linter.unusedSimpArgs false
set_option linter.unusedVariables false
open Go.RowKit
theorem flatC_len {α : Type} {sz : Nat} {f : α → List Value} (hsz : ∀ a, (f a).length = sz) : ∀ l : List α, (l.flatMap f).length = l.length * sz
 | [] => by simp
 | a :: l => by rw [List.flatMap_cons, List.length_append, hsz, flatC_len hsz l, List.length_cons, Nat.add_mul]; omega
theorem flatC_at {α : Type} {sz : Nat} {f : α → List Value} (hsz : ∀ a, (f a).length = sz) : ∀ (l : List α) (k j : Nat) (hk : k < l.length), j < sz → (l.flatMap f)[k * sz + j]? = (f l[k])[j]?
 | a :: l, 0, j, _, hj => by rw [List.flatMap_cons, List.getElem?_append_left (by rw [hsz]; omega)]; simp
 | a :: l, k + 1, j, hk, hj => by
  have hk' : k < l.length := by simpa using hk
  have ih := flatC_at hsz l k j hk' hj
  rw [List.flatMap_cons, List.getElem?_append_right (by rw [hsz, Nat.add_mul]; omega), hsz, show (k + 1) * sz + j - sz = k * sz + j by rw [Nat.add_mul]; omega, ih]
  simp
/-- An owned row of records is a row of cells. -/
theorem own_rowS {α : Type} {w : World} {base : Nat} {e : TypeId} {v : Value} {l : List α} {sz : Nat} {f : α → List Value} (hsz : ∀ a, (f a).length = sz) (C : Nat → Nat → Value)
  (hC : ∀ k (hk : k < l.length) j, j < sz → (f l[k])[j]? = some (C k j)) (h : w.ownsRow base e sz v l.length (l.flatMap f)) : ∃ A c, v = .slice A l.length c ∧ RowS w A l.length sz C := by
 obtain ⟨_, h2⟩ := h
 rcases h2 with ⟨rfl, h0⟩ | ⟨g, cap, cur, rfl, hg, hh, h3, h4, h5, h6⟩
 ·exact ⟨none, 0, by rw [h0], fun hn => by omega⟩
 ·refine ⟨some ⟨g, 0, none⟩, cap, rfl, fun _ => ⟨g, 0, rfl, heap_lt hh, fun k j hk hj => ?_⟩⟩
  have f1 := (flatC_at hsz l k j hk hj).trans (hC k hk j hj)
  rw [← h6, List.getElem?_take] at f1
  split at f1
  ·exact (cell_of_cells hh _).trans (by simpa using f1)
  ·cases f1
theorem news_cells {w : World} {g : Nat} {cs : Array Value} {e : TypeId} (h : w.heap[g]? = some (.cells cs e (0, 0))) (j : Nat) (u : Value) (hu : cs.toList[j]? = some u) : w.cell? ((⟨g, 0, none⟩ : Addr).add j) = some u := by
 have h2 : w.cell? ⟨g, j, none⟩ = some u := by rw [cell_of_cells h j]; simpa using hu
 have e : ((⟨g, 0, none⟩ : Addr).add j) = ⟨g, j, none⟩ := by simp [Addr.add]; intro hj; exact hj.symm
 rw [e]; exact h2
theorem ones_all {l : List Value} (h : l.all (·.oneCell') = true) : ∀ u ∈ l, u.oneCell' = true := List.all_eq_true.1 h
/-! ### Entries -/
def entL (e : LEnt) : List Value := [.int .i64 e.id, .int .i64 e.bk, .int .i64 e.va, .int .i64 e.ki, .int .i64 e.au, .int .i64 e.pe, .string e.key, .string e.tx, .slice e.lA e.ln e.lc, .int .u64 e.ch]
theorem entL_len (e : LEnt) : (entL e).length = 10 := rfl
theorem entL_at (e : LEnt) (j : Nat) (h : j < 10) : (entL e)[j]? = some (entC e j) := by
 match j with
 | 0 | 1 | 2 | 3 | 4 | 5 | 6 | 7 | 8 | 9 => rfl
 | j + 10 => omega
/-! ### Postings -/
def posL (p : LPos) : List Value := [.int .i64 p.en, .int .i64 p.dy, .int .i64 p.am, .string p.tx]
theorem posL_len (p : LPos) : (posL p).length = 4 := rfl
def zPos : LPos := ⟨0, 0, 0, ByteArray.empty⟩
def atP (l : List LPos) (k : Nat) : LPos := l.getD k zPos
theorem atP_at {l : List LPos} {k : Nat} (h : k < l.length) : atP l k = l[k] := by simp [atP, List.getD, h]
theorem posL_at (e : LPos) (j : Nat) (h : j < 4) : (posL e)[j]? = some (posC e j) := by
 match j with
 | 0 | 1 | 2 | 3 => rfl
 | j + 4 => omega
theorem own_rowPos {w : World} {base : Nat} {e : TypeId} {v : Value} {l : List LPos} (h : w.ownsRow base e 4 v l.length (l.flatMap posL)) :
  ∃ A c, v = .slice A l.length c ∧ RowPos w A l.length (atP l) :=
 own_rowS posL_len (fun k => posC (atP l k)) (fun k hk j hj => by rw [posL_at _ _ hj, atP_at hk]) h
end Go.Proofs.YtpghciiifnjimaaGreatDoor
namespace Go.Proofs.YtpghciiifnjimaaGreatDoor
set_option maxRecDepth 4000
set_option linter.unusedSimpArgs false
set_option linter.unusedVariables false
open Go.RowKit Go.Deep Go.WideShapes
/-- The kinds of fields. -/
inductive FK where
 | i | s | b | u | sl (e : TypeId)
def fkB (P : Program) (k : FK) (t : TypeId) : Bool := match k, P.underlying t with
 | .i, some (.int .i64) => true
 | .u, some (.int .u64) => true
 | .s, some .string => true
 | .b, some .bool => true
 | .sl e, some (.slice e') => e == e'
 | _, _ => false
section
variable {H : Type} {enc : TypeId × Value → H} {P : Program} {w : World} {base : Nat} {spare : Nat → Bool} {held : Bool}
end
end Go.Proofs.YtpghciiifnjimaaGreatDoor
namespace Go.Proofs.YtpghciiifnjimaaGreatDoor
set_option maxRecDepth 4000
set_option linter.unusedSimpArgs false
set_option linter.unusedVariables false
open Go.RowKit Go.Deep Go.WideShapes
/-- Field j of the struct t is one cell at offset o, of the kind k. -/
def fieldAtB (P : Program) (t : TypeId) (j o : Nat) (k : FK) : Bool := match P.underlying t with
 | some (.struct fs) => match fs[j]? with
  | some f => f.offset == o && P.cellsOf f.type == 1 && fkB P k f.type
  | none => false
 | _ => false
theorem fieldAtB_of {P : Program} {t : TypeId} {fs : Array Field} {j o : Nat} {k : FK} (he : P.underlying t = some (.struct fs)) (h : fieldAtB P t j o k = true) : ∃ f, fs[j]? = some f ∧ f.offset = o ∧ P.cellsOf f.type = 1 ∧ fkB P k f.type = true := by
 unfold fieldAtB at h
 rw [he] at h
 simp only at h
 cases hf : fs[j]? with
 | none => rw [hf] at h; cases h
 | some f =>
  rw [hf] at h
  simp only [Bool.and_eq_true, beq_iff_eq] at h
  exact ⟨f, rfl, h.1.1, h.1.2, h.2⟩
def structB (P : Program) (t : TypeId) : Bool := match P.underlying t with | some (.struct _) => true | _ => false
theorem structB_of {P : Program} {t : TypeId} (h : structB P t = true) : ∃ fs, P.underlying t = some (.struct fs) := by
 unfold structB at h
 split at h
 ·exact ⟨_, by assumption⟩
 ·cases h
section
variable {H : Type} {enc : TypeId × Value → H} {P : Program} {w : World} {base : Nat} {spare : Nat → Bool} {held : Bool}
theorem agg_open {r : Reach} {b0 : Nat} {t : TypeId} {v : Value} {d : DataW H} {p : List MemPlace} (hs : structB P t = true) (hv : Value.okWide P w r b0 t v) (h : DataW.Trod enc P w base spare held t v d p) :
  ∃ C : Array Value, v = .agg C ∧ C.size = P.cellsOf t ∧ ∀ (j o : Nat) (k : FK), fieldAtB P t j o k = true → o < C.size → ∃ ty, fkB P k ty = true ∧ ∃ fu y, DataW.trod enc P w base spare held fu ty [C.getD o undef] = some y := by
 obtain ⟨fs, he⟩ := structB_of hs
 obtain ⟨C, rfl, hsz⟩ := okWide_struct he hv
 obtain ⟨fuel, hf⟩ := h
 obtain ⟨xs, n, _, _, hlen, hxl, hi⟩ := DataW.trod_struct he hf
 refine ⟨C, rfl, hsz, fun j o k hk ho => ?_⟩
 obtain ⟨f, hfj, rfl, h1, hkk⟩ := fieldAtB_of he hk
 have hj : j < fs.size := (Array.getElem?_eq_some_iff.1 hfj).1
 have g := hi j f hfj
 rw [h1] at g
 have hone : ((Value.agg C).cells.toList.drop f.offset).take 1 = [C.getD f.offset undef] := by
  show (C.toList.drop f.offset).take 1 = _
  rw [List.drop_eq_getElem_cons (by simpa using ho)]
  simp [Array.getD, ho]
 rw [hone] at g
 exact ⟨f.type, hkk, n, _, g.trans (List.getElem?_eq_getElem (by omega))⟩
end
section
variable {H : Type} {enc : TypeId × Value → H} {P : Program} {w : World} {base : Nat} {spare : Nat → Bool} {held : Bool}
end
/-- A cell of an argument is one cell. -/
theorem cellOk_one {P : Program} {w : World} {r : Reach} {base : Nat} {t : TypeId} {v : Value} (h : Cell.okWide P w r base t v) : v.oneCell' = true := by
 cases v with
 | agg cs => exfalso; revert h; unfold Cell.okWide; split <;> simp_all [Cell.ok]
 | tuple cs => exfalso; revert h; unfold Cell.okWide; split <;> simp_all [Cell.ok]
 | _ => rfl
theorem agg_one {P : Program} {w : World} {r : Reach} {b0 : Nat} {t : TypeId} {C : Array Value} (hs : structB P t = true) (hv : Value.okWide P w r b0 t (.agg C)) : C.all (·.oneCell') = true := by
 obtain ⟨fs, he⟩ := structB_of hs
 simp only [Value.okWide, he] at hv
 obtain ⟨cs, h1, _, ts, _, _, h2⟩ := hv
 injection h1 with h1
 subst h1
 rw [Array.all_eq_true]
 intro i hi
 obtain ⟨u, _, hu⟩ := h2 i _ (Array.getElem?_eq_getElem hi)
 exact cellOk_one hu
end Go.Proofs.YtpghciiifnjimaaGreatDoor
