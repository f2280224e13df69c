/- Texts laid together: Reg. -/
import Derived.Test.YtdjlaiilngechaaGreatDoorXNum
import Derived.Deep.RegionHeld
import Derived.Deep.Draws
namespace Go.Proofs.YtdjlaiilngechaaGreatDoor
theorem putS : (∀ (l : List Value) (i : Nat) (a : Value), l.toArray.setIfInBounds i a = (l.set i a).toArray) ∧ (∀ (x : Value) (xs : List Value) (a : Value), (x :: xs).set 0 a = a :: xs) ∧ ∀ (x : Value) (xs : List Value) (n : Nat) (a : Value), (x :: xs).set (n + 1) a = x :: xs.set n a := ⟨fun _ _ _ => List.setIfInBounds_toArray .., fun _ _ _ => rfl, fun _ _ _ _ => rfl⟩
def preB (k n : Nat) : Array Bool := (List.replicate k true ++ List.replicate n false).toArray
set_option maxRecDepth 4000
set_option linter.unusedSimpArgs false
set_option linter.unusedVariables false
open Go.RowKit
/-- The marks (true: taken first; false: run) fit the region's edges. -/
def seqOk (md : Region.Mode) (ops : Array Oper) : List Bool → Nat → Array Bool → Bool
 | [], _, listed => (Region.ready md ops listed).isEmpty
 | true :: r, i, listed => Region.free md ops listed i && (Region.ready md ops listed).contains i && seqOk md ops r (i + 1) (listed.setIfInBounds i true)
 | false :: r, i, listed => (Region.ready md ops listed == [i]) && seqOk md ops r (i + 1) (listed.setIfInBounds i true)

/-- The walk in the order of the text. -/
def wpSeq (P : Program) (opsA : Array Oper) (Q : Exit → Act → World → Prop) (S : World → Prop) : List Bool → List Oper → Act → World → Prop
 | true :: m, o :: r, a, w => ∃ v, YieldsIf P opsA S o v a ∧ wpSeq P opsA Q S m r (a.put o.dst v) w
 | false :: m, o :: r, a, w => ∀ K : Act → World → Prop, Shut (∀ a w, S w → (S w → wpSeq P opsA Q S m r a w) → K a w) → if Region.wanted o (yielded opsA a.tmps) = true then Oper.wp P o a w K Q else K (a.put o.dst undef) w
 | _, _, a, w => Q .normal a w

section
variable {P : Program} {ops : Array Oper} {Q : Exit → Act → World → Prop} {md : Region.Mode} {S : World → Prop}
theorem drop_cons {l : List Oper} {i : Nat} {o : Oper} {r : List Oper} (h : l.drop i = o :: r) : l[i]? = some o ∧ l.drop (i + 1) = r := by
 constructor
 ·have := congrArg (·[0]?) h
  simpa using this
 ·rw [← List.drop_drop, h]; rfl
theorem seq_sound (hsel : Region.noSelect ops = true) (hQ : ∀ c a d v w, Q (.panic c) (Act.put a d v) w → Q (.panic c) a w) :
  ∀ (marks : List Bool) (i : Nat) (listed : Array Bool) (rest : List Oper) (a : Act) (w : World), ops.toList.drop i = rest → marks.length = rest.length →
   seqOk md ops marks i listed = true → S w → wpSeq P ops Q S marks rest a w → wpAnyH P md ops Q S marks.length listed a w := by
 intro marks
 induction marks with
 | nil =>
  intro i listed rest a w hd hl hc hS h
  cases rest with
  | nil => exact ⟨by simpa [seqOk] using hc, h⟩
  | cons o r => cases hl
 | cons b m ih =>
  intro i listed rest a w hd hl hc hS h
  cases rest with
  | nil => cases hl
  | cons o r =>
   obtain ⟨ho, hd'⟩ := drop_cons hd
   have ho' : ops[i]? = some o := by simpa using ho
   have hl' : m.length = r.length := by simpa using hl
   cases b with
   | true =>
    simp only [seqOk, Bool.and_eq_true] at hc
    obtain ⟨v, hy, hr⟩ := h
    exact wpAnyH_take ho' hsel hc.1.1 hc.1.2 (fun c a w => hQ c a _ v w) hy hS (ih (i + 1) _ r _ w hd' hl' hc.2 hS hr)
   | false =>
    simp only [seqOk, Bool.and_eq_true, beq_iff_eq] at hc
    refine wpAnyH_ready (rs := [i]) hc.1 (by simp) (AllReadyH.cons ho' (fun K hK => h K ?_) AllReadyH.nil)
    exact fun a w hS' hr => hK.out a w hS' (fun hS'' => ih (i + 1) _ r a w hd' hl' hc.2 hS'' (hr hS''))
theorem wp_region_seq {id : Nat} {a : Act} {w : World} (S : World → Prop) (marks : List Bool) (hm : P.follows .mixedOrders = true) (hsel : Region.noSelect ops = true) (hlen : marks.length = ops.size)
  (hc : seqOk .any ops marks 0 (Array.replicate ops.size false) = true) (hQ : ∀ c a d v w, Q (.panic c) (Act.put a d v) w → Q (.panic c) a w)
  (hS : S w.drew) (h : S w.drew → wpSeq P ops Q S marks ops.toList a w.drew) : (Code.region id ops true).wp P Q a w :=
 wp_region_held_drew hm hS fun _ => by
  have hh := seq_sound hsel hQ marks 0 _ _ a _ rfl (by simpa using hlen) hc hS (h hS)
  rw [hlen] at hh
  exact hh
theorem seq_take {m : List Bool} {o : Oper} {r : List Oper} {a : Act} {w : World} (v : Value) (hw : Region.wanted o (yielded ops a.tmps) = true) (hv : ∀ w, S w → (execOp a.eval o).run P w = .ok (.value v) w)
  (h : wpSeq P ops Q S m r (a.put o.dst v) w) : wpSeq P ops Q S (true :: m) (o :: r) a w := ⟨v, .inl ⟨hw, hv⟩, h⟩
theorem seq_skip {m : List Bool} {o : Oper} {r : List Oper} {a : Act} {w : World} (hw : Region.wanted o (yielded ops a.tmps) = false)
  (h : wpSeq P ops Q S m r (a.put o.dst undef) w) : wpSeq P ops Q S (true :: m) (o :: r) a w := ⟨undef, .inr ⟨hw, rfl⟩, h⟩
theorem seq_run {m : List Bool} {o : Oper} {r : List Oper} {a : Act} {w : World} (hw : Region.wanted o (yielded ops a.tmps) = true)
  (h : ∀ K : Act → World → Prop, Shut (∀ a w, S w → (S w → wpSeq P ops Q S m r a w) → K a w) → Oper.wp P o a w K Q) : wpSeq P ops Q S (false :: m) (o :: r) a w := by
 intro K hK
 rw [if_pos hw]
 exact h K hK
theorem seq_end {a : Act} {w : World} (h : Q .normal a w) : wpSeq P ops Q S [] [] a w := h
end
section
variable {P : Program} {ops : Array Oper} {Q : Exit → Act → World → Prop} {md : Region.Mode} {S : World → Prop}
/-! The same where several operations may come up: the walk forks over them. 'listed' and the fuel stand as literals. -/
theorem ord_start {id : Nat} {a : Act} {w : World} (S : World → Prop) (n : Nat) (listed : Array Bool) (hm : P.follows .mixedOrders = true) (hn : ops.size = n) (hl : Array.replicate ops.size false = listed)
  (hS : S w.drew) (h : S w.drew → wpAnyH P .any ops Q S n listed a w.drew) : (Code.region id ops true).wp P Q a w :=
 wp_region_held_drew hm hS fun hs => by
  rw [hl, hn]
  exact h hs
theorem ord_take {i fuel : Nat} {listed : Array Bool} (listed' : Array Bool) {o : Oper} {r : List Oper} {a : Act} {w : World} (v : Value) (hd : ops.toList.drop i = o :: r) (hsel : Region.noSelect ops = true) (hf : Region.free md ops listed i = true)
  (hr : (Region.ready md ops listed).contains i = true) (hl : listed.setIfInBounds i true = listed') (hQ : ∀ c a w, Q (.panic c) (Act.put a o.dst v) w → Q (.panic c) a w) (hS : S w)
  (hw : Region.wanted o (yielded ops a.tmps) = true) (hv : ∀ w, S w → (execOp a.eval o).run P w = .ok (.value v) w)
  (h : wpAnyH P md ops Q S fuel listed' (a.put o.dst v) w) : wpAnyH P md ops Q S (fuel + 1) listed a w := by
 subst hl
 exact wpAnyH_take (by simpa using (drop_cons hd).1) hsel hf hr hQ (.inl ⟨hw, hv⟩) hS h
theorem ord_skip {i fuel : Nat} {listed : Array Bool} (listed' : Array Bool) {o : Oper} {r : List Oper} {a : Act} {w : World} (hd : ops.toList.drop i = o :: r) (hsel : Region.noSelect ops = true) (hf : Region.free md ops listed i = true)
  (hr : (Region.ready md ops listed).contains i = true) (hl : listed.setIfInBounds i true = listed') (hQ : ∀ c a w, Q (.panic c) (Act.put a o.dst undef) w → Q (.panic c) a w) (hS : S w)
  (hw : Region.wanted o (yielded ops a.tmps) = false)
  (h : wpAnyH P md ops Q S fuel listed' (a.put o.dst undef) w) : wpAnyH P md ops Q S (fuel + 1) listed a w := by
 subst hl
 exact wpAnyH_take (by simpa using (drop_cons hd).1) hsel hf hr hQ (.inr ⟨hw, rfl⟩) hS h
theorem ord_run {i fuel : Nat} {listed : Array Bool} (listed' : Array Bool) {o : Oper} {r : List Oper} {rest : List Nat} {a : Act} {w : World} (hd : ops.toList.drop i = o :: r) (hl : listed.setIfInBounds i true = listed')
  (hw : Region.wanted o (yielded ops a.tmps) = true) (h : ∀ K : Act → World → Prop, Shut (∀ a w, S w → (S w → wpAnyH P md ops Q S fuel listed' a w) → K a w) → Oper.wp P o a w K Q)
  (hs : AllReadyH P md ops Q S fuel listed a w rest) : AllReadyH P md ops Q S fuel listed a w (i :: rest) := by
 subst hl
 refine AllReadyH.cons (by simpa using (drop_cons hd).1) (fun K hK => ?_) hs
 rw [if_pos hw]
 exact h K hK
end
/-- Below block N, but for the blocks in X, the cells are as they were in W. -/
def SB (N : Nat) (X : List Nat) (W w : World) : Prop := ∀ b o, b < N → b ∉ X → w.cell? ⟨b, o, none⟩ = W.cell? ⟨b, o, none⟩
theorem SB.refl {N : Nat} {X : List Nat} {W : World} : SB N X W W := fun _ _ _ _ => rfl
theorem SB.drew {N : Nat} {X : List Nat} {W w : World} (h : SB N X W w) : SB N X W w.drew := h
theorem SB.drewN {N : Nat} {X : List Nat} {W w : World} (h : SB N X W w) (n : Nat) : SB N X W (w.drewN n) := h
theorem SB.alloc {N : Nat} {X : List Nat} {W w : World} (h : SB N X W w) (hN : N ≤ w.heap.size) (o : Obj) : SB N X W (w.alloc o) := fun b i hb hx => (World.cell?_alloc_lt w o ⟨b, i, none⟩ (by show b < _; omega)).trans (h b i hb hx)
theorem SB.setCell {N : Nat} {X : List Nat} {W w : World} (h : SB N X W w) {p : Addr} (hp : p.block ∈ X ∨ N ≤ p.block) (v : Value) : SB N X W (w.setCell p v) := fun b i hb hx =>
 (World.cell?_setCell_far w p ⟨b, i, none⟩ v (by
  rintro e
  have e' : p.block = b := e
  rcases hp with hp | hp
  ·exact hx (e' ▸ hp)
  ·omega)).trans (h b i hb hx)
theorem SB.below {N B : Nat} {X : List Nat} {W w w' : World} (h : SB N X W w) (hb : Below B w w') (hB : N ≤ B) : SB N X W w' := fun b i hb' hx => (hb.cell (p := ⟨b, i, none⟩) (Nat.lt_of_lt_of_le hb' hB)).trans (h b i hb' hx)
theorem SB.undrew {N : Nat} {X : List Nat} {W w : World} (h : SB N X W w) : SB N X W.drew w := h
theorem SB.realloc {N : Nat} {X : List Nat} {W w : World} {o o' : Obj} (h : SB N X W w) (hs : w.heap.size = W.heap.size) (hx : w.heap.size ∈ X) : SB N X (W.alloc o') (w.alloc o) := fun b i hb hX => by
 have hne : b ≠ w.heap.size := fun e => hX (e ▸ hx)
 rcases Nat.lt_or_ge b w.heap.size with h1 | h1
 ·rw [World.cell?_alloc_lt w o ⟨b, i, none⟩ h1, World.cell?_alloc_lt W o' ⟨b, i, none⟩ (by show b < _; omega)]
  exact h b i hb hX
 ·have e1 : (w.alloc o).heap[b]? = none := Array.getElem?_eq_none (by simp; omega)
  have e2 : (W.alloc o').heap[b]? = none := Array.getElem?_eq_none (by simp; omega)
  exact World.cell?_of_block (w := W.alloc o') (a := ⟨b, i, none⟩) (e1.trans e2.symm)
theorem SB.congr {N : Nat} {X : List Nat} {W w : World} {o : Obj} (h : SB N X W w) (hs : w.heap.size = W.heap.size) : SB N X (W.alloc o) (w.alloc o) := fun b i hb hX => by
 rcases Nat.lt_or_ge b w.heap.size with h1 | h1
 ·rw [World.cell?_alloc_lt w o ⟨b, i, none⟩ h1, World.cell?_alloc_lt W o ⟨b, i, none⟩ (by show b < _; omega)]
  exact h b i hb hX
 ·rcases Nat.lt_or_ge w.heap.size b with h2 | h2
  ·have e1 : (w.alloc o).heap[b]? = none := Array.getElem?_eq_none (by simp; omega)
   have e2 : (W.alloc o).heap[b]? = none := Array.getElem?_eq_none (by simp; omega)
   exact World.cell?_of_block (w := W.alloc o) (a := ⟨b, i, none⟩) (e1.trans e2.symm)
  ·obtain rfl : b = w.heap.size := by omega
   have e1 : (w.alloc o).heap[w.heap.size]? = some o := by show (w.heap.push o)[w.heap.size]? = _; simp
   have e2 : (W.alloc o).heap[w.heap.size]? = some o := by show (W.heap.push o)[w.heap.size]? = _; rw [hs]; simp
   exact World.cell?_of_block (w := W.alloc o) (a := ⟨w.heap.size, i, none⟩) (e1.trans e2.symm)
theorem oT {P : Program} {md : Region.Mode} {ops : Array Oper} {Q : Exit → Act → World → Prop} {S : World → Prop} {i fuel : Nat} {listed : Array Bool} (listed' : Array Bool) {o : Oper} {r : List Oper} {a : Act} {w : World} (v : Value) (hd : ops.toList.drop i = o :: r) (hS : S w)
  (hv : ∀ w, S w → (execOp a.eval o).run P w = .ok (.value v) w) (h : wpAnyH P md ops Q S fuel listed' (a.put o.dst v) w)
  (hsel : Region.noSelect ops = true := by kernel_rfl) (hf : Region.free md ops listed i = true := by kernel_rfl) (hr : (Region.ready md ops listed).contains i = true := by kernel_rfl) (hl : listed.setIfInBounds i true = listed' := by kernel_rfl)
  (hQ : ∀ c a w, Q (.panic c) (Act.put a o.dst v) w → Q (.panic c) a w := by exact fun _ _ _ h => h) (hw : Region.wanted o (yielded ops a.tmps) = true := by rfl) : wpAnyH P md ops Q S (fuel + 1) listed a w :=
 ord_take listed' v hd hsel hf hr hl hQ hS hw hv h
theorem sbT {N : Nat} {X : List Nat} {W w : World} (h : SB N X W w := by (repeat (first | (with_reducible first | exact SB.refl | exact hHeld | refine SB.drew ?_ | refine SB.drewN ?_ _) | ((with_reducible refine SB.alloc ?_ ?_ _); rotate_left; (first | omega | (simp <;> omega))) | ((with_reducible refine SB.setCell ?_ ?_ _); rotate_left; (focus (first | (simp; done) | (right; first | omega | (simp <;> omega))))) | ((with_reducible first | refine SB.below ?_ hbS ?_ | refine SB.below ?_ hbS1 ?_ | refine SB.below ?_ hbS2 ?_ | refine SB.below ?_ hbS3 ?_ | refine SB.below ?_ hbS4 ?_); rotate_left; (first | omega | (simp <;> omega))) | (with_reducible refine SB.undrew ?_) | ((with_reducible refine SB.congr ?_ ?_); rotate_left; (focus (simp; done))) | ((with_reducible refine SB.realloc ?_ ?_ ?_); rotate_left; (focus (simp; done)); (focus (simp; done)))))) : SB N X W w := h
theorem oS {P : Program} {md : Region.Mode} {ops : Array Oper} {Q : Exit → Act → World → Prop} {N : Nat} {X : List Nat} {W : World} {i fuel : Nat} {listed : Array Bool} (listed' : Array Bool) {o : Oper} {r : List Oper} {a : Act} {w : World} {v : Value} (hd : ops.toList.drop i = o :: r) (hS : SB N X W w)
  (h : wpAnyH P md ops Q (SB N X W) fuel listed' (a.put o.dst v) w) (hv : ∀ w, SB N X W w → (execOp a.eval o).run P w = .ok (.value v) w := by (intro wx hSx; unfold SB at hSx; go_simp; (try with_reducible rfl)))
  (hsel : Region.noSelect ops = true := by kernel_rfl) (hf : Region.free md ops listed i = true := by kernel_rfl) (hr : (Region.ready md ops listed).contains i = true := by kernel_rfl) (hl : listed.setIfInBounds i true = listed' := by kernel_rfl)
  (hQ : ∀ c a w, Q (.panic c) (Act.put a o.dst v) w → Q (.panic c) a w := by exact fun _ _ _ h => h) (hw : Region.wanted o (yielded ops a.tmps) = true := by rfl) : wpAnyH P md ops Q (SB N X W) (fuel + 1) listed a w :=
 ord_take listed' v hd hsel hf hr hl hQ hS hw hv h
end Go.Proofs.YtdjlaiilngechaaGreatDoor
