/- Texts laid together: Num Bits Reg. -/
import Derived.WalkKit
import Derived.Laws.Bits64b
import Derived.Laws.BitsAllLaws
import Derived.Lib.Mul64
import Derived.Deep.RegionHeld
import Derived.Deep.Draws
namespace Go.Proofs.YtpghciiifnjimaaGreatDoor
theorem putS : (∀ (l : List Value) (i : Nat) (a : Value), l.toArray.setIfInBounds i a = (l.set i a).toArray) ∧ (∀ (x : Value) (xs : List Value) (a : Value), (x :: xs).set 0 a = a :: xs) ∧ ∀ (x : Value) (xs : List Value) (n : Nat) (a : Value), (x :: xs).set (n + 1) a = x :: xs.set n a := ⟨fun _ _ _ => List.setIfInBounds_toArray .., fun _ _ _ => rfl, fun _ _ _ _ => rfl⟩
def preB (k n : Nat) : Array Bool := (List.replicate k true ++ List.replicate n false).toArray
set_option maxRecDepth 4000
set_option linter.unusedSimpArgs false
set_option linter.unusedVariables false
open Go.RowKit
theorem hide {p : Prop} (h : p) : Hid p := h
/-- The upper half of a number, rounded down. -/
def hiW (x : Int) : Int := x / 18446744073709551616
/-- The lower half of a number. -/
def loW (x : Int) : Int := x % 18446744073709551616
/-- A number of 128 bits. -/
def WIn (x : Int) : Prop := -170141183460469231731687303715884105728 ≤ x ∧ x < 170141183460469231731687303715884105728
/-- A magnitude of 128 bits. -/
def MIn (x : Int) : Prop := 0 ≤ x ∧ x < 340282366920938463463374607431768211456
/-- An int. -/
def IIn (x : Int) : Prop := -9223372036854775808 ≤ x ∧ x ≤ 9223372036854775807

instance (x : Int) : Decidable (WIn x) := by unfold WIn; exact inferInstance
instance (x : Int) : Decidable (MIn x) := by unfold MIn; exact inferInstance

theorem i64w (n : Int) : IntKind.i64.wrap n = wrap64 n := by rw [IntKind.wrap_i64]; unfold wrap64; rfl
end Go.Proofs.YtpghciiifnjimaaGreatDoor
namespace Go.Proofs.YtpghciiifnjimaaGreatDoor
set_option maxRecDepth 4000
set_option linter.unusedSimpArgs false
set_option linter.unusedVariables false
open Go.RowKit
/-- The complement of a uint64. -/
def notU (l : Int) : Int := 18446744073709551615 - l
theorem xor_maxU (l : Int) (h : 0 ≤ l) (h' : l < 18446744073709551616) : bits .xor .u64 IntKind.u64.max l = notU l := by
 have e : BitVec.ofInt 64 IntKind.u64.max = BitVec.allOnes 64 := by decide
 show IntKind.u64.wrap ((BitVec.ofInt 64 IntKind.u64.max ^^^ BitVec.ofInt 64 l).toNat : Int) = _
 rw [e, BitVec.allOnes_xor, BitVec.toNat_not, BitVec.toNat_ofInt, IntKind.wrap_u64]
 unfold notU
 omega
theorem wrapU (n : Int) : IntKind.u64.wrap n = n % 18446744073709551616 := IntKind.wrap_u64 n

end Go.Proofs.YtpghciiifnjimaaGreatDoor
namespace Go.Proofs.YtpghciiifnjimaaGreatDoor
set_option maxRecDepth 4000
set_option linter.unusedSimpArgs false
set_option linter.unusedVariables false
open Go.RowKit
section
variable {P : Program} {ops : Array Oper} {Q : Exit → Act → World → Prop} {md : Region.Mode} {S : World → Prop}
theorem drop_cons {l : List Oper} {i : Nat} {o : Oper} {r : List Oper} (h : l.drop i = o :: r) : l[i]? = some o ∧ l.drop (i + 1) = r := by
 constructor
 ·have := congrArg (·[0]?) h
  simpa using this
 ·rw [← List.drop_drop, h]; rfl
end
section
variable {P : Program} {ops : Array Oper} {Q : Exit → Act → World → Prop} {md : Region.Mode} {S : World → Prop}
/-! The same where several operations may come up: the walk forks over them. 'listed' and the fuel stand as literals. -/
theorem ord_start {id : Nat} {a : Act} {w : World} (S : World → Prop) (n : Nat) (listed : Array Bool) (hm : P.follows .mixedOrders = true) (hn : ops.size = n) (hl : Array.replicate ops.size false = listed)
  (hS : S w.drew) (h : S w.drew → wpAnyH P .any ops Q S n listed a w.drew) : (Code.region id ops true).wp P Q a w :=
 wp_region_held_drew hm hS fun hs => by
  rw [hl, hn]
  exact h hs
theorem ord_take {i fuel : Nat} {listed : Array Bool} (listed' : Array Bool) {o : Oper} {r : List Oper} {a : Act} {w : World} (v : Value) (hd : ops.toList.drop i = o :: r) (hsel : Region.noSelect ops = true) (hf : Region.free md ops listed i = true)
  (hr : (Region.ready md ops listed).contains i = true) (hl : listed.setIfInBounds i true = listed') (hQ : ∀ c a w, Q (.panic c) (Act.put a o.dst v) w → Q (.panic c) a w) (hS : S w)
  (hw : Region.wanted o (yielded ops a.tmps) = true) (hv : ∀ w, S w → (execOp a.eval o).run P w = .ok (.value v) w)
  (h : wpAnyH P md ops Q S fuel listed' (a.put o.dst v) w) : wpAnyH P md ops Q S (fuel + 1) listed a w := by
 subst hl
 exact wpAnyH_take (by simpa using (drop_cons hd).1) hsel hf hr hQ (.inl ⟨hw, hv⟩) hS h
theorem ord_skip {i fuel : Nat} {listed : Array Bool} (listed' : Array Bool) {o : Oper} {r : List Oper} {a : Act} {w : World} (hd : ops.toList.drop i = o :: r) (hsel : Region.noSelect ops = true) (hf : Region.free md ops listed i = true)
  (hr : (Region.ready md ops listed).contains i = true) (hl : listed.setIfInBounds i true = listed') (hQ : ∀ c a w, Q (.panic c) (Act.put a o.dst undef) w → Q (.panic c) a w) (hS : S w)
  (hw : Region.wanted o (yielded ops a.tmps) = false)
  (h : wpAnyH P md ops Q S fuel listed' (a.put o.dst undef) w) : wpAnyH P md ops Q S (fuel + 1) listed a w := by
 subst hl
 exact wpAnyH_take (by simpa using (drop_cons hd).1) hsel hf hr hQ (.inr ⟨hw, rfl⟩) hS h
theorem ord_run {i fuel : Nat} {listed : Array Bool} (listed' : Array Bool) {o : Oper} {r : List Oper} {rest : List Nat} {a : Act} {w : World} (hd : ops.toList.drop i = o :: r) (hl : listed.setIfInBounds i true = listed')
  (hw : Region.wanted o (yielded ops a.tmps) = true) (h : ∀ K : Act → World → Prop, Shut (∀ a w, S w → (S w → wpAnyH P md ops Q S fuel listed' a w) → K a w) → Oper.wp P o a w K Q)
  (hs : AllReadyH P md ops Q S fuel listed a w rest) : AllReadyH P md ops Q S fuel listed a w (i :: rest) := by
 subst hl
 refine AllReadyH.cons (by simpa using (drop_cons hd).1) (fun K hK => ?_) hs
 rw [if_pos hw]
 exact h K hK
end
/-- Below block N, but for the blocks in X, the cells are as they were in W. -/
def SB (N : Nat) (X : List Nat) (W w : World) : Prop := ∀ b o, b < N → b ∉ X → w.cell? ⟨b, o, none⟩ = W.cell? ⟨b, o, none⟩
theorem SB.refl {N : Nat} {X : List Nat} {W : World} : SB N X W W := fun _ _ _ _ => rfl
theorem SB.drew {N : Nat} {X : List Nat} {W w : World} (h : SB N X W w) : SB N X W w.drew := h
theorem SB.drewN {N : Nat} {X : List Nat} {W w : World} (h : SB N X W w) (n : Nat) : SB N X W (w.drewN n) := h
theorem SB.alloc {N : Nat} {X : List Nat} {W w : World} (h : SB N X W w) (hN : N ≤ w.heap.size) (o : Obj) : SB N X W (w.alloc o) := fun b i hb hx => (World.cell?_alloc_lt w o ⟨b, i, none⟩ (by show b < _; omega)).trans (h b i hb hx)
theorem SB.setCell {N : Nat} {X : List Nat} {W w : World} (h : SB N X W w) {p : Addr} (hp : p.block ∈ X ∨ N ≤ p.block) (v : Value) : SB N X W (w.setCell p v) := fun b i hb hx =>
 (World.cell?_setCell_far w p ⟨b, i, none⟩ v (by
  rintro e
  have e' : p.block = b := e
  rcases hp with hp | hp
  ·exact hx (e' ▸ hp)
  ·omega)).trans (h b i hb hx)
theorem SB.below {N B : Nat} {X : List Nat} {W w w' : World} (h : SB N X W w) (hb : Below B w w') (hB : N ≤ B) : SB N X W w' := fun b i hb' hx => (hb.cell (p := ⟨b, i, none⟩) (Nat.lt_of_lt_of_le hb' hB)).trans (h b i hb' hx)
theorem SB.undrew {N : Nat} {X : List Nat} {W w : World} (h : SB N X W w) : SB N X W.drew w := h
theorem SB.realloc {N : Nat} {X : List Nat} {W w : World} {o o' : Obj} (h : SB N X W w) (hs : w.heap.size = W.heap.size) (hx : w.heap.size ∈ X) : SB N X (W.alloc o') (w.alloc o) := fun b i hb hX => by
 have hne : b ≠ w.heap.size := fun e => hX (e ▸ hx)
 rcases Nat.lt_or_ge b w.heap.size with h1 | h1
 ·rw [World.cell?_alloc_lt w o ⟨b, i, none⟩ h1, World.cell?_alloc_lt W o' ⟨b, i, none⟩ (by show b < _; omega)]
  exact h b i hb hX
 ·have e1 : (w.alloc o).heap[b]? = none := Array.getElem?_eq_none (by simp; omega)
  have e2 : (W.alloc o').heap[b]? = none := Array.getElem?_eq_none (by simp; omega)
  exact World.cell?_of_block (w := W.alloc o') (a := ⟨b, i, none⟩) (e1.trans e2.symm)
theorem SB.congr {N : Nat} {X : List Nat} {W w : World} {o : Obj} (h : SB N X W w) (hs : w.heap.size = W.heap.size) : SB N X (W.alloc o) (w.alloc o) := fun b i hb hX => by
 rcases Nat.lt_or_ge b w.heap.size with h1 | h1
 ·rw [World.cell?_alloc_lt w o ⟨b, i, none⟩ h1, World.cell?_alloc_lt W o ⟨b, i, none⟩ (by show b < _; omega)]
  exact h b i hb hX
 ·rcases Nat.lt_or_ge w.heap.size b with h2 | h2
  ·have e1 : (w.alloc o).heap[b]? = none := Array.getElem?_eq_none (by simp; omega)
   have e2 : (W.alloc o).heap[b]? = none := Array.getElem?_eq_none (by simp; omega)
   exact World.cell?_of_block (w := W.alloc o) (a := ⟨b, i, none⟩) (e1.trans e2.symm)
  ·obtain rfl : b = w.heap.size := by omega
   have e1 : (w.alloc o).heap[w.heap.size]? = some o := by show (w.heap.push o)[w.heap.size]? = _; simp
   have e2 : (W.alloc o).heap[w.heap.size]? = some o := by show (W.heap.push o)[w.heap.size]? = _; rw [hs]; simp
   exact World.cell?_of_block (w := W.alloc o) (a := ⟨w.heap.size, i, none⟩) (e1.trans e2.symm)
theorem oT {P : Program} {md : Region.Mode} {ops : Array Oper} {Q : Exit → Act → World → Prop} {S : World → Prop} {i fuel : Nat} {listed : Array Bool} (listed' : Array Bool) {o : Oper} {r : List Oper} {a : Act} {w : World} (v : Value) (hd : ops.toList.drop i = o :: r) (hS : S w)
  (hv : ∀ w, S w → (execOp a.eval o).run P w = .ok (.value v) w) (h : wpAnyH P md ops Q S fuel listed' (a.put o.dst v) w)
  (hsel : Region.noSelect ops = true := by kernel_rfl) (hf : Region.free md ops listed i = true := by kernel_rfl) (hr : (Region.ready md ops listed).contains i = true := by kernel_rfl) (hl : listed.setIfInBounds i true = listed' := by kernel_rfl)
  (hQ : ∀ c a w, Q (.panic c) (Act.put a o.dst v) w → Q (.panic c) a w := by exact fun _ _ _ h => h) (hw : Region.wanted o (yielded ops a.tmps) = true := by rfl) : wpAnyH P md ops Q S (fuel + 1) listed a w :=
 ord_take listed' v hd hsel hf hr hl hQ hS hw hv h
theorem sbT {N : Nat} {X : List Nat} {W w : World} (h : SB N X W w := by (repeat (first | (with_reducible first | exact SB.refl | exact hHeld | refine SB.drew ?_ | refine SB.drewN ?_ _) | ((with_reducible refine SB.alloc ?_ ?_ _); rotate_left; (first | omega | (simp <;> omega))) | ((with_reducible refine SB.setCell ?_ ?_ _); rotate_left; (focus (first | (simp; done) | (right; first | omega | (simp <;> omega))))) | ((with_reducible first | refine SB.below ?_ hbS ?_ | refine SB.below ?_ hbS1 ?_ | refine SB.below ?_ hbS2 ?_ | refine SB.below ?_ hbS3 ?_ | refine SB.below ?_ hbS4 ?_); rotate_left; (first | omega | (simp <;> omega))) | (with_reducible refine SB.undrew ?_) | ((with_reducible refine SB.congr ?_ ?_); rotate_left; (focus (simp; done))) | ((with_reducible refine SB.realloc ?_ ?_ ?_); rotate_left; (focus (simp; done)); (focus (simp; done)))))) : SB N X W w := h
theorem oS {P : Program} {md : Region.Mode} {ops : Array Oper} {Q : Exit → Act → World → Prop} {N : Nat} {X : List Nat} {W : World} {i fuel : Nat} {listed : Array Bool} (listed' : Array Bool) {o : Oper} {r : List Oper} {a : Act} {w : World} {v : Value} (hd : ops.toList.drop i = o :: r) (hS : SB N X W w)
  (h : wpAnyH P md ops Q (SB N X W) fuel listed' (a.put o.dst v) w) (hv : ∀ w, SB N X W w → (execOp a.eval o).run P w = .ok (.value v) w := by (intro wx hSx; unfold SB at hSx; go_simp; (try with_reducible rfl)))
  (hsel : Region.noSelect ops = true := by kernel_rfl) (hf : Region.free md ops listed i = true := by kernel_rfl) (hr : (Region.ready md ops listed).contains i = true := by kernel_rfl) (hl : listed.setIfInBounds i true = listed' := by kernel_rfl)
  (hQ : ∀ c a w, Q (.panic c) (Act.put a o.dst v) w → Q (.panic c) a w := by exact fun _ _ _ h => h) (hw : Region.wanted o (yielded ops a.tmps) = true := by rfl) : wpAnyH P md ops Q (SB N X W) (fuel + 1) listed a w :=
 ord_take listed' v hd hsel hf hr hl hQ hS hw hv h
end Go.Proofs.YtpghciiifnjimaaGreatDoor
