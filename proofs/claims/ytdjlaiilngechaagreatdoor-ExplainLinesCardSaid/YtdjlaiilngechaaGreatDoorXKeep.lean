/- Texts laid together: Keep TierM SlM GrM SlL. -/
import Derived.Test.YtdjlaiilngechaaGreatDoorXNum
import Derived.Deep.Draws
import Derived.OwnWalk
namespace Go.Proofs.YtdjlaiilngechaaGreatDoor
set_option maxRecDepth 4000
set_option linter.unusedSimpArgs false
set_option linter.unusedVariables false
open Go.RowKit
theorem heap_new (w : World) (o : Obj) (n : Nat) (h : n = w.heap.size) : (w.alloc o).heap[n]? = some o := by
 subst h
 show (w.heap.push o)[w.heap.size]? = _
 simp
theorem cell_at {w : World} {g : Nat} {c : Array Value} {t : TypeId} (h : w.heap[g]? = some (.cells c t (0, 0))) (o : Nat) : w.cell? ⟨g, o, none⟩ = c[o]? := cell_of_row w g o c t (0, 0) h
theorem free_at {w : World} {g : Nat} {c : Array Value} {t : TypeId} (h : w.heap[g]? = some (.cells c t (0, 0))) (o : Nat) : w.frozen? ⟨g, o, none⟩ = false := by
 simp [World.frozen?, h]
theorem below_drewN {B : Nat} {a w : World} (h : Below B a w) (n : Nat) : Below B a (w.drewN n) := ⟨h.os, h.tape, h.output, h.size, h.block⟩
theorem undrew {a w : World} (h : Below a.drew.heap.size a.drew w) : Below a.heap.size a w := ⟨h.os, h.tape, h.output, h.size, h.block⟩

theorem keep2 {w w1 : World} {c1 c2 : Array Value} {t1 t2 : TypeId}
  (hb : Below ((w.alloc (.cells c1 t1)).alloc (.cells c2 t2)).heap.size ((w.alloc (.cells c1 t1)).alloc (.cells c2 t2)) w1) :
  (∀ o, w1.cell? ⟨w.heap.size, o, none⟩ = c1[o]?) ∧ (∀ o, w1.frozen? ⟨w.heap.size, o, none⟩ = false) ∧ w.heap.size < w1.heap.size ∧ (∀ o, w1.cell? ⟨w.heap.size + 1, o, none⟩ = c2[o]?) ∧ (∀ o, w1.frozen? ⟨w.heap.size + 1, o, none⟩ = false) ∧ w.heap.size + 1 < w1.heap.size ∧ w.heap.size ≤ w1.heap.size ∧ (∀ b o, b < w.heap.size → w1.cell? ⟨b, o, none⟩ = w.cell? ⟨b, o, none⟩) ∧ (∀ b o, b < w.heap.size → w1.frozen? ⟨b, o, none⟩ = w.frozen? ⟨b, o, none⟩) ∧ Below w.heap.size w w1 := by
 have hz : w.heap.size + 2 ≤ w1.heap.size := by have := hb.size; simp at this; omega
 have hB : Below w.heap.size w w1 := ((((Below.refl _ _).alloc (Nat.le_refl _) _)).alloc (by simp <;> omega) _).trans (hb.mono (by simp <;> omega))
 have e1 : w1.heap[w.heap.size]? = some (.cells c1 t1 (0, 0)) := (hb.block _ (by simp <;> omega)).trans ((Below.heap_alloc _ _ _ (by simp <;> omega)).trans (heap_new _ _ _ (by simp <;> omega)))
 have e2 : w1.heap[w.heap.size + 1]? = some (.cells c2 t2 (0, 0)) := (hb.block _ (by simp <;> omega)).trans (heap_new _ _ _ (by simp <;> omega))
 exact ⟨cell_at e1, free_at e1, (by omega), cell_at e2, free_at e2, (by omega), by omega, fun b o h => hB.cell (p := ⟨b, o, none⟩) h, fun b o h => hB.frozen (p := ⟨b, o, none⟩) h, hB⟩
theorem keep3 {w w1 : World} {c1 c2 c3 : Array Value} {t1 t2 t3 : TypeId}
  (hb : Below (((w.alloc (.cells c1 t1)).alloc (.cells c2 t2)).alloc (.cells c3 t3)).heap.size (((w.alloc (.cells c1 t1)).alloc (.cells c2 t2)).alloc (.cells c3 t3)) w1) :
  (∀ o, w1.cell? ⟨w.heap.size, o, none⟩ = c1[o]?) ∧ (∀ o, w1.frozen? ⟨w.heap.size, o, none⟩ = false) ∧ w.heap.size < w1.heap.size ∧ (∀ o, w1.cell? ⟨w.heap.size + 1, o, none⟩ = c2[o]?) ∧ (∀ o, w1.frozen? ⟨w.heap.size + 1, o, none⟩ = false) ∧ w.heap.size + 1 < w1.heap.size ∧ (∀ o, w1.cell? ⟨w.heap.size + 2, o, none⟩ = c3[o]?) ∧ (∀ o, w1.frozen? ⟨w.heap.size + 2, o, none⟩ = false) ∧ w.heap.size + 2 < w1.heap.size ∧ w.heap.size ≤ w1.heap.size ∧ (∀ b o, b < w.heap.size → w1.cell? ⟨b, o, none⟩ = w.cell? ⟨b, o, none⟩) ∧ (∀ b o, b < w.heap.size → w1.frozen? ⟨b, o, none⟩ = w.frozen? ⟨b, o, none⟩) ∧ Below w.heap.size w w1 := by
 have hz : w.heap.size + 3 ≤ w1.heap.size := by have := hb.size; simp at this; omega
 have hB : Below w.heap.size w w1 := (((((Below.refl _ _).alloc (Nat.le_refl _) _)).alloc (by simp <;> omega) _).alloc (by simp <;> omega) _).trans (hb.mono (by simp <;> omega))
 have e1 : w1.heap[w.heap.size]? = some (.cells c1 t1 (0, 0)) := (hb.block _ (by simp <;> omega)).trans ((Below.heap_alloc _ _ _ (by simp <;> omega)).trans ((Below.heap_alloc _ _ _ (by simp <;> omega)).trans (heap_new _ _ _ (by simp <;> omega))))
 have e2 : w1.heap[w.heap.size + 1]? = some (.cells c2 t2 (0, 0)) := (hb.block _ (by simp <;> omega)).trans ((Below.heap_alloc _ _ _ (by simp <;> omega)).trans (heap_new _ _ _ (by simp <;> omega)))
 have e3 : w1.heap[w.heap.size + 2]? = some (.cells c3 t3 (0, 0)) := (hb.block _ (by simp <;> omega)).trans (heap_new _ _ _ (by simp <;> omega))
 exact ⟨cell_at e1, free_at e1, (by omega), cell_at e2, free_at e2, (by omega), cell_at e3, free_at e3, (by omega), by omega, fun b o h => hB.cell (p := ⟨b, o, none⟩) h, fun b o h => hB.frozen (p := ⟨b, o, none⟩) h, hB⟩
end Go.Proofs.YtdjlaiilngechaaGreatDoor
namespace Go.Proofs.YtdjlaiilngechaaGreatDoor
set_option maxRecDepth 4000
set_option linter.unusedSimpArgs false
set_option linter.unusedVariables false
open Go.RowKit
/-- A slice of structs of two ints: n elements, the fields f k and g k. -/
def Row2 (w : World) (A : Option Addr) (n : Nat) (f g : Nat → Int) : Prop :=
 0 < n → ∃ b off, A = some ⟨b, off, none⟩ ∧ b < w.heap.size ∧ ∀ k, k < n → w.cell? ⟨b, off + k * 2, none⟩ = some (.int .i64 (f k)) ∧ w.cell? ⟨b, off + k * 2 + 1, none⟩ = some (.int .i64 (g k))
theorem Row2.below {w w' : World} {A : Option Addr} {n : Nat} {f g : Nat → Int} (h : Row2 w A n f g) (hb : Below w.heap.size w w') : Row2 w' A n f g := fun hn => by
 obtain ⟨b, off, e, hlt, hc⟩ := h hn
 exact ⟨b, off, e, Nat.lt_of_lt_of_le hlt hb.size, fun k hk => ⟨(hb.cell (p := ⟨b, _, none⟩) hlt).trans (hc k hk).1, (hb.cell (p := ⟨b, _, none⟩) hlt).trans (hc k hk).2⟩⟩
/-- Both fields are ints. -/
def IB (n : Nat) (f g : Nat → Int) : Prop := ∀ k, k < n → IIn (f k) ∧ IIn (g k)

def inB (x y : Int) : Prop := 0 ≤ x ∧ x ≤ 1000000000000 ∧ 0 ≤ y ∧ y ≤ 1000000
instance (x y : Int) : Decidable (inB x y) := by unfold inB; exact inferInstance
def allB (n : Nat) (f g : Nat → Int) : Prop := ∀ k, k < n → inB (f k) (g k)
instance (n : Nat) (f g : Nat → Int) : Decidable (allB n f g) := by unfold allB; exact inferInstance
def ascB (n : Nat) (f : Nat → Int) : Prop := ∀ k, k < n - 1 → f k < f (k + 1)
instance (n : Nat) (f : Nat → Int) : Decidable (ascB n f) := by unfold ascB; exact inferInstance
/-- What Check answers. -/
def chk (n : Nat) (f g : Nat → Int) : Int := if 6 < n then 5 else if ¬ allB n f g then 1 else if ¬ ascB n f then 10 else if 0 < n ∧ f 0 ≠ 0 then 1 else 0
theorem chk_5 {n : Nat} {f g : Nat → Int} (h : 6 < n) : chk n f g = 5 := if_pos h
theorem chk_1 {n k : Nat} {f g : Nat → Int} (h : n ≤ 6) (hk : k < n) (hn : ¬ inB (f k) (g k)) : chk n f g = 1 := by
 unfold chk; rw [if_neg (by omega), if_pos (fun ha => hn (ha k hk))]
theorem chk_10 {n k : Nat} {f g : Nat → Int} (h : n ≤ 6) (ha : allB n f g) (hk : 1 ≤ k) (hk' : k < n) (hn : ¬ f (k - 1) < f k) : chk n f g = 10 := by
 unfold chk
 rw [if_neg (by omega), if_neg (not_not_intro ha), if_pos (fun hs => hn (by have := hs (k - 1) (by omega); rwa [show k - 1 + 1 = k from by omega] at this))]
theorem chk_01 {n : Nat} {f g : Nat → Int} (h : n ≤ 6) (ha : allB n f g) (hs : ascB n f) (hn : 0 < n) (h0 : f 0 ≠ 0) : chk n f g = 1 := by
 unfold chk; rw [if_neg (by omega), if_neg (not_not_intro ha), if_neg (not_not_intro hs), if_pos ⟨hn, h0⟩]
theorem chk_0 {n : Nat} {f g : Nat → Int} (h : n ≤ 6) (ha : allB n f g) (hs : ascB n f) (h0 : 0 < n → f 0 = 0) : chk n f g = 0 := by
 unfold chk; rw [if_neg (by omega), if_neg (not_not_intro ha), if_neg (not_not_intro hs), if_neg (fun hh => hh.2 (h0 hh.1))]
theorem chk_ok {n : Nat} {f g : Nat → Int} (h : chk n f g = 0) : n ≤ 6 ∧ allB n f g ∧ ascB n f ∧ (0 < n → f 0 = 0) := by
 unfold chk at h
 split at h
 ·omega
 ·split at h
  ·omega
  ·split at h
   ·omega
   ·split at h
    ·omega
    ·rename_i h1 h2 h3 h4
     refine ⟨by omega, Classical.not_not.1 h2, Classical.not_not.1 h3, fun hn => Classical.byContradiction fun hh => h4 ⟨hn, hh⟩⟩
theorem allB_succ {k : Nat} {f g : Nat → Int} (h : allB k f g) (hk : inB (f k) (g k)) : allB (k + 1) f g := fun j hj => by
 rcases Nat.lt_or_ge j k with h1 | h1
 ·exact h j h1
 ·obtain rfl : j = k := by omega
  exact hk
theorem ascB_succ {k : Nat} {f : Nat → Int} (hk1 : 1 ≤ k) (h : ascB k f) (hk : f (k - 1) < f k) : ascB (k + 1) f := fun j hj => by
 rcases Nat.lt_or_ge j (k - 1) with h1 | h1
 ·exact h j (by omega)
 ·obtain rfl : j = k - 1 := by omega
  rwa [show k - 1 + 1 = k from by omega]

/-- The size of a balance: its absolute value, the least int's is the greatest int. -/
def tsz (b : Int) : Int := if b < -9223372036854775807 then 9223372036854775807 else if b < 0 then -b else b
theorem tsz_bd {b : Int} (_h1 : -9223372036854775808 ≤ b) (h2 : b ≤ 9223372036854775807) : 0 ≤ tsz b ∧ tsz b ≤ 9223372036854775807 := by unfold tsz; split; omega; split <;> omega
end Go.Proofs.YtdjlaiilngechaaGreatDoor
namespace Go.Proofs.YtdjlaiilngechaaGreatDoor
set_option maxRecDepth 4000
set_option linter.unusedSimpArgs false
set_option linter.unusedVariables false
open Go.RowKit
/-- The part of a balance of size sz in tier i, if there is one. -/
def sl1 (n : Nat) (f g : Nat → Int) (sz : Int) (i : Nat) : Option (Int × Int) :=
 if f i < (if i + 1 < n ∧ f (i + 1) < sz then f (i + 1) else sz) then some ((if i + 1 < n ∧ f (i + 1) < sz then f (i + 1) else sz) - f i, g i) else none
/-- The parts in the first k tiers. -/
def sls (n : Nat) (f g : Nat → Int) (sz : Int) (k : Nat) : List (Int × Int) := (List.range k).filterMap (sl1 n f g sz)
theorem sls_zero (n : Nat) (f g : Nat → Int) (sz : Int) : sls n f g sz 0 = [] := rfl
theorem sls_some {n : Nat} {f g : Nat → Int} {sz : Int} {k : Nat} {p : Int × Int} (h : sl1 n f g sz k = some p) : sls n f g sz (k + 1) = sls n f g sz k ++ [p] := by
 unfold sls; rw [List.range_succ, List.filterMap_append]; simp [h]
theorem sls_none {n : Nat} {f g : Nat → Int} {sz : Int} {k : Nat} (h : sl1 n f g sz k = none) : sls n f g sz (k + 1) = sls n f g sz k := by
 unfold sls; rw [List.range_succ, List.filterMap_append]; simp [h]
theorem sls_le (n : Nat) (f g : Nat → Int) (sz : Int) (k : Nat) : (sls n f g sz k).length ≤ k := by
 unfold sls; exact Nat.le_trans (List.length_filterMap_le _ _) (by simp)

/-- The cells of a list of pairs of ints. -/
def flat (l : List (Int × Int)) : List Value := l.flatMap fun p => [.int .i64 p.1, .int .i64 p.2]
theorem flat_append (l m : List (Int × Int)) : flat (l ++ m) = flat l ++ flat m := by simp [flat]
theorem flat_one (p : Int × Int) : flat [p] = [.int .i64 p.1, .int .i64 p.2] := rfl
theorem flat_len (l : List (Int × Int)) : (flat l).length = l.length * 2 := by
 induction l with
 | nil => rfl
 | cons p l ih => simp [flat] at *; omega
theorem flat_at : ∀ (l : List (Int × Int)) (k : Nat), k < l.length → (flat l)[k * 2]? = some (.int .i64 (l.getD k (0, 0)).1) ∧ (flat l)[k * 2 + 1]? = some (.int .i64 (l.getD k (0, 0)).2)
 | p :: l, 0, _ => by simp [flat]
 | p :: l, k + 1, h => by
  have ih := flat_at l k (by simpa using h)
  have e : flat (p :: l) = .int .i64 p.1 :: .int .i64 p.2 :: flat l := by simp [flat]
  rw [e, show (k + 1) * 2 = k * 2 + 1 + 1 from by omega]
  simpa using ih
theorem flat_one_cell (l : List (Int × Int)) : ∀ u ∈ flat l, u.oneCell' = true := by
 intro u hu
 simp [flat] at hu
 obtain ⟨a, b, _, rfl | rfl⟩ := hu <;> rfl
def fsts (l : List (Int × Int)) (k : Nat) : Int := (l.getD k (0, 0)).1
def snds (l : List (Int × Int)) (k : Nat) : Int := (l.getD k (0, 0)).2
theorem own_row2 {w : World} {base : Nat} {e : TypeId} {v : Value} {l : List (Int × Int)} (h : w.ownsRow base e 2 v l.length (flat l)) :
  ∃ A c, v = .slice A l.length c ∧ Row2 w A l.length (fsts l) (snds l) := by
 obtain ⟨_, h2⟩ := h
 rcases h2 with ⟨rfl, h0⟩ | ⟨g, cap, cur, rfl, hg, hh, h3, h4, h5, h6⟩
 ·exact ⟨none, 0, by rw [h0], fun hn => by omega⟩
 ·refine ⟨some ⟨g, 0, none⟩, cap, rfl, fun _ => ⟨g, 0, rfl, ?_, fun k hk => ?_⟩⟩
  ·rcases Nat.lt_or_ge g w.heap.size with h | h
   ·exact h
   ·rw [Array.getElem?_eq_none h] at hh; cases hh
  ·obtain ⟨f1, f2⟩ := flat_at l k hk
   rw [← h6, List.getElem?_take] at f1 f2
   rw [if_pos (by omega)] at f1 f2
   exact ⟨(cell_at hh _).trans (by simpa [fsts] using f1), (cell_at hh _).trans (by simpa [snds] using f2)⟩
theorem news2 {w : World} {g : Nat} {a b : Value} (h0 : w.cell? ⟨g, 0, none⟩ = some a) (h1 : w.cell? ⟨g, 1, none⟩ = some b) (j : Nat) (u : Value) (h : [a, b][j]? = some u) : w.cell? ((⟨g, 0, none⟩ : Addr).add j) = some u := by
 match j with
 | 0 => simp at h; subst h; simpa [Addr.add] using h0
 | 1 => simp at h; subst h; simpa [Addr.add] using h1
 | j + 2 => simp at h
theorem one2 {k l : IntKind} {a b : Int} : ∀ u ∈ [Value.int k a, Value.int l b], u.oneCell' = true := by
 intro u hu; simp at hu; rcases hu with rfl | rfl <;> rfl
theorem own_block_ge {w : World} {base : Nat} {e : TypeId} {size n : Nat} {v : Value} {xs : List Value} (h : w.ownsRow base e size v n xs) (k : Nat) (hk : v.ownBlock = some k) : base ≤ k := by
 rcases h.2 with ⟨rfl, _⟩ | ⟨g, cap, cur, rfl, hg, _⟩
 ·simp [Value.ownBlock] at hk
 ·simp [Value.ownBlock] at hk; omega
theorem below_of_grown {B : Nat} {W w' : World} {row : Option Nat} (hg : W.grownBy w' row) (hB : B ≤ W.heap.size) (hr : ∀ k, row = some k → B ≤ k) : Below B W w' := (Below.refl B W).grown hg hB hr
theorem own_below {w w' : World} {base : Nat} {e : TypeId} {size n : Nat} {v : Value} {xs : List Value} (h : w.ownsRow base e size v n xs) (hb : Below w.heap.size w w') : w'.ownsRow base e size v n xs := by
 refine ⟨h.1, ?_⟩
 rcases h.2 with h2 | ⟨g, cap, cur, hv, hg, hh, r⟩
 ·exact .inl h2
 ·have hlt : g < w.heap.size := by
   rcases Nat.lt_or_ge g w.heap.size with h | h
   ·exact h
   ·rw [Array.getElem?_eq_none h] at hh; cases hh
  exact .inr ⟨g, cap, cur, hv, hg, (hb.block g hlt).trans hh, r⟩
theorem own_new (w : World) (e : TypeId) (size : Nat) : (w.alloc (.cells #[] e)).ownsRow w.heap.size e size (.slice (some ⟨w.heap.size, 0, none⟩) 0 0) 0 [] :=
 ⟨by simp, .inr ⟨w.heap.size, 0, #[], rfl, Nat.le_refl _, heap_new w _ _ rfl, Nat.le_refl _, by simp [maxLen], by simp, by simp⟩⟩
/-- What a function that hands back such a slice leaves: the slice's cells read as the list; all old memory is as it was. -/
def SlRet (l : List (Int × Int)) (w : World) (e : Ending) (w' : World) : Prop :=
 ∃ A c, e = .returned (.slice A l.length c) ∧ Row2 w' A l.length (fsts l) (snds l) ∧ Below w.heap.size w w'
/-- What Slices answers. -/
def slices (n : Nat) (f g : Nat → Int) (marginal : Bool) (b : Int) (rate : Int) : List (Int × Int) :=
 if n = 0 ∨ chk n f g ≠ 0 ∨ tsz b = 0 then [] else if marginal = false then [(tsz b, rate)] else sls n f g (tsz b) n
/-- The rate of the first k tiers that begin at or below sz. -/
def rateTo (f g : Nat → Int) (sz : Int) : Nat → Int
 | 0 => 0
 | k + 1 => if f k ≤ sz then g k else rateTo f g sz k
/-- What Rate answers. -/
def rate (n : Nat) (f g : Nat → Int) (b : Int) : Int := if chk n f g ≠ 0 then 0 else rateTo f g (tsz b) n
end Go.Proofs.YtdjlaiilngechaaGreatDoor
namespace Go.Proofs.YtdjlaiilngechaaGreatDoor
set_option maxRecDepth 4000
set_option linter.unusedSimpArgs false
set_option linter.unusedVariables false
open Go.RowKit
def inS (x y : Int) : Prop := 0 ≤ x ∧ 0 ≤ y ∧ y ≤ 1000000
instance (x y : Int) : Decidable (inS x y) := by unfold inS; exact inferInstance
def allS (n : Nat) (f g : Nat → Int) : Prop := ∀ k, k < n → inS (f k) (g k)
instance (n : Nat) (f g : Nat → Int) : Decidable (allS n f g) := by unfold allS; exact inferInstance
def wtOk (t : Int) : Prop := 0 ≤ t ∧ t ≤ 6412320000
instance (t : Int) : Decidable (wtOk t) := by unfold wtOk; exact inferInstance
/-- The sum over the first k slices. -/
def gsum (f g : Nat → Int) (t : Int) : Nat → Int
 | 0 => 0
 | k + 1 => gsum f g t k + f k * g k * t
def grE (n : Nat) (f g : Nat → Int) (t : Int) : Int := if 6 < n then 5 else if allS n f g ∧ wtOk t then 0 else 1
def grR (n : Nat) (f g : Nat → Int) (t : Int) : Int := if n ≤ 6 ∧ allS n f g ∧ wtOk t then gsum f g t n else 0
theorem gr_5 {n : Nat} {f g : Nat → Int} {t : Int} (h : 6 < n) : grE n f g t = 5 ∧ grR n f g t = 0 := ⟨if_pos h, if_neg (by omega)⟩
theorem gr_1 {n : Nat} {f g : Nat → Int} {t : Int} (hn : n ≤ 6) (h : ¬ (allS n f g ∧ wtOk t)) : grE n f g t = 1 ∧ grR n f g t = 0 := by
 unfold grE grR; rw [if_neg (by omega), if_neg h, if_neg (fun hh => h hh.2)]; exact ⟨rfl, rfl⟩
theorem gr_0 {n : Nat} {f g : Nat → Int} {t : Int} (hn : n ≤ 6) (h : allS n f g ∧ wtOk t) : grE n f g t = 0 ∧ grR n f g t = gsum f g t n := by
 unfold grE grR; rw [if_neg (by omega), if_pos h, if_pos ⟨hn, h⟩]; exact ⟨rfl, rfl⟩
theorem allS_succ {k : Nat} {f g : Nat → Int} (h : allS k f g) (hk : inS (f k) (g k)) : allS (k + 1) f g := fun j hj => by
 rcases Nat.lt_or_ge j k with h1 | h1
 ·exact h j h1
 ·obtain rfl : j = k := by omega
  exact hk
theorem gterm_bd {x y t : Int} (hi : IIn x) (h : inS x y) (ht : wtOk t) : 0 ≤ x * y * t ∧ x * y * t ≤ 59143212979364616002742240000000000 := by
 obtain ⟨h1, h2, h3⟩ := h
 obtain ⟨t1, t2⟩ := ht
 have hx := hi.2
 have p0 : 0 ≤ x * y := Int.mul_nonneg h1 h2
 have p1 := Int.mul_le_mul hx h3 h2 (by decide)
 have q1 := Int.mul_le_mul p1 t2 t1 (by decide)
 exact ⟨Int.mul_nonneg p0 t1, Int.le_trans q1 (by decide)⟩
theorem gsum_bd {f g : Nat → Int} {t : Int} : ∀ (k : Nat), k ≤ 6 → (∀ j, j < k → IIn (f j)) → allS k f g → wtOk t → 0 ≤ gsum f g t k ∧ gsum f g t k ≤ 59143212979364616002742240000000000 * k
 | 0, _, _, _, _ => by simp [gsum]
 | k + 1, hk, hi, ha, ht => by
  have ih := gsum_bd k (by omega) (fun j hj => hi j (by omega)) (fun j hj => ha j (by omega)) ht
  have hb := gterm_bd (hi k (by omega)) (ha k (by omega)) ht
  unfold gsum
  refine ⟨by omega, ?_⟩
  rw [show ((k + 1 : Nat) : Int) = (k : Int) + 1 from rfl, Int.mul_add, Int.mul_one]
  omega
theorem gsum_win {f g : Nat → Int} {t : Int} {k : Nat} (hk : k ≤ 6) (hi : ∀ j, j < k → IIn (f j)) (ha : allS k f g) (ht : wtOk t) : WIn (gsum f g t k) := by
 have h := gsum_bd k hk hi ha ht
 unfold WIn
 have : 59143212979364616002742240000000000 * (k : Int) ≤ 59143212979364616002742240000000000 * 6 := Int.mul_le_mul_of_nonneg_left (by omega) (by decide)
 omega
theorem gterm_win {x y t : Int} (hi : IIn x) (h : inS x y) (ht : wtOk t) : WIn (x * y * t) := by
 have := gterm_bd hi h ht
 unfold WIn; omega
theorem gmul_win {x y : Int} (hi : IIn x) (h : inS x y) : WIn (x * y) := by
 obtain ⟨h1, h2, h3⟩ := h
 have p0 : 0 ≤ x * y := Int.mul_nonneg h1 h2
 have p1 := Int.mul_le_mul hi.2 h3 h2 (by decide)
 unfold WIn; omega
end Go.Proofs.YtdjlaiilngechaaGreatDoor
namespace Go.Proofs.YtdjlaiilngechaaGreatDoor
set_option maxRecDepth 4000
set_option linter.unusedSimpArgs false
set_option linter.unusedVariables false
open Go.RowKit
/-- Where tier k begins, cut at the balance's size. -/
def top (n : Nat) (f : Nat → Int) (z : Int) (k : Nat) : Int := if k < n ∧ f k < z then f k else z
theorem sl1_top {n : Nat} {f g : Nat → Int} {z : Int} {k : Nat} (ha : ascB n f) (hk : k < n) :
  (f k < z ∧ sl1 n f g z k = some (top n f z (k + 1) - top n f z k, g k) ∧ 1 ≤ top n f z (k + 1) - top n f z k) ∨ (¬ f k < z ∧ sl1 n f g z k = none ∧ top n f z (k + 1) - top n f z k = 0) := by
 have hasc : k + 1 < n → f k < f (k + 1) := fun h => ha k (by omega)
 by_cases hz : f k < z
 ·left
  refine ⟨hz, ?_⟩
  unfold sl1 top
  rw [if_pos (show k < n ∧ f k < z from ⟨hk, hz⟩)]
  by_cases h1 : k + 1 < n ∧ f (k + 1) < z
  ·rw [if_pos h1]
   have := hasc h1.1
   exact ⟨if_pos this, by omega⟩
  ·rw [if_neg h1]
   exact ⟨if_pos hz, by omega⟩
 ·right
  refine ⟨hz, ?_⟩
  unfold sl1 top
  rw [if_neg (show ¬ (k < n ∧ f k < z) from fun h => hz h.2)]
  by_cases h1 : k + 1 < n ∧ f (k + 1) < z
  ·have := hasc h1.1
   omega
  ·rw [if_neg h1, if_neg hz]
   exact ⟨rfl, by omega⟩
theorem top_zero {n : Nat} {f : Nat → Int} {z : Int} (hn : 0 < n) (h0 : f 0 = 0) (hz : 0 ≤ z) : top n f z 0 = 0 := by
 unfold top; split <;> omega
theorem top_end (n : Nat) (f : Nat → Int) (z : Int) : top n f z n = z := by unfold top; rw [if_neg (by omega)]
theorem fsts_lt {l : List (Int × Int)} {p : Int × Int} {k : Nat} (h : k < l.length) : fsts (l ++ [p]) k = fsts l k ∧ snds (l ++ [p]) k = snds l k := by
 unfold fsts snds
 simp only [List.getD_eq_getElem?_getD, List.getElem?_append_left h, and_self]
theorem fsts_end {l : List (Int × Int)} {p : Int × Int} : fsts (l ++ [p]) l.length = p.1 ∧ snds (l ++ [p]) l.length = p.2 := by
 unfold fsts snds
 simp [List.getD_eq_getElem?_getD]
/-- Every part of a list is one that the interest is defined for, and at least 1. -/
def good (l : List (Int × Int)) : Prop := ∀ k, k < l.length → 1 ≤ fsts l k ∧ 0 ≤ snds l k ∧ snds l k ≤ 1000000
theorem good_nil : good [] := fun k hk => by simp at hk
theorem good_append {l : List (Int × Int)} {p : Int × Int} (h : good l) (hp : 1 ≤ p.1 ∧ 0 ≤ p.2 ∧ p.2 ≤ 1000000) : good (l ++ [p]) := fun k hk => by
 rcases Nat.lt_or_ge k l.length with h1 | h1
 ·rw [(fsts_lt h1).1, (fsts_lt h1).2]; exact h k h1
 ·obtain rfl : k = l.length := by simp at hk; omega
  rw [fsts_end.1, fsts_end.2]; exact hp
theorem good_sls {n : Nat} {f g : Nat → Int} {z : Int} (ha : ascB n f) (hg : allB n f g) : ∀ {k : Nat}, k ≤ n → good (sls n f g z k)
 | 0, _ => good_nil
 | k + 1, hk => by
  have ih := good_sls (g := g) (z := z) ha hg (k := k) (by omega)
  rcases sl1_top (g := g) (z := z) ha (show k < n by omega) with ⟨_, h, hd⟩ | ⟨_, h, hd⟩
  ·rw [sls_some h]; exact good_append ih ⟨hd, (hg k (by omega)).2.2⟩
  ·rw [sls_none h]; exact ih
/-- The sum of the first k amounts. -/
def psum (f : Nat → Int) : Nat → Int
 | 0 => 0
 | k + 1 => psum f k + f k
theorem psum_congr {f f' : Nat → Int} : ∀ {n : Nat}, (∀ k, k < n → f k = f' k) → psum f n = psum f' n
 | 0, _ => rfl
 | n + 1, h => by unfold psum; rw [psum_congr (fun k hk => h k (by omega)), h n (by omega)]
theorem psum_append {l : List (Int × Int)} {p : Int × Int} : psum (fsts (l ++ [p])) (l ++ [p]).length = psum (fsts l) l.length + p.1 := by
 rw [List.length_append, show [p].length = 1 from rfl]
 show psum _ l.length + _ = _
 rw [psum_congr (fun k hk => (fsts_lt (p := p) hk).1), fsts_end.1]
theorem psum_sls {n : Nat} {f g : Nat → Int} {z : Int} (ha : ascB n f) : ∀ {k : Nat}, k ≤ n → psum (fsts (sls n f g z k)) (sls n f g z k).length = top n f z k - top n f z 0
 | 0, _ => by simp [sls_zero, psum]
 | k + 1, hk => by
  have ih := psum_sls (g := g) (z := z) ha (k := k) (by omega)
  rcases sl1_top (g := g) (z := z) ha (show k < n by omega) with ⟨_, h, _⟩ | ⟨_, h, hd⟩
  ·rw [sls_some h, psum_append, ih]; show _ + (_ - _) = _; omega
  ·rw [sls_none h, ih]; omega
theorem psum_le {l : List (Int × Int)} (h : good l) : ∀ {j k : Nat}, j + k ≤ l.length → psum (fsts l) j ≤ psum (fsts l) (j + k)
 | j, 0, _ => Int.le_refl _
 | j, k + 1, hk => by
  have ih := psum_le h (j := j) (k := k) (by omega)
  have h1 := (h (j + k) (by omega)).1
  show psum (fsts l) j ≤ psum (fsts l) (j + k) + fsts l (j + k)
  omega
/-- The parts of a balance: at most six, good, and their sum is the balance's size. -/
theorem slices_good {n : Nat} {f g : Nat → Int} {m : Bool} {b : Int} (hn : 0 < n) (hc : chk n f g = 0) (hz : 0 ≤ tsz b) (hr : 0 ≤ rate n f g b ∧ rate n f g b ≤ 1000000) :
  (slices n f g m b (rate n f g b)).length ≤ 6 ∧ good (slices n f g m b (rate n f g b)) ∧ psum (fsts (slices n f g m b (rate n f g b))) (slices n f g m b (rate n f g b)).length = tsz b := by
 obtain ⟨h6, hg, ha, h0⟩ := chk_ok hc
 unfold slices
 by_cases h : n = 0 ∨ chk n f g ≠ 0 ∨ tsz b = 0
 ·rw [if_pos h]
  have hb : tsz b = 0 := by omega
  exact ⟨by simp, good_nil, by rw [hb]; rfl⟩
 ·rw [if_neg h]
  cases m
  ·rw [if_pos rfl]
   refine ⟨by simp, good_append good_nil ⟨by show 1 ≤ tsz b; omega, hr⟩, ?_⟩
   show 0 + tsz b = tsz b
   omega
  ·rw [if_neg (by decide)]
   refine ⟨Nat.le_trans (sls_le n f g _ n) h6, good_sls ha hg (Nat.le_refl _), ?_⟩
   rw [psum_sls ha (Nat.le_refl _), top_zero hn (h0 hn) hz, top_end]; omega
theorem rateTo_bd {f g : Nat → Int} {z : Int} : ∀ {k : Nat}, (∀ j, j < k → 0 ≤ g j ∧ g j ≤ 1000000) → 0 ≤ rateTo f g z k ∧ rateTo f g z k ≤ 1000000
 | 0, _ => by simp [rateTo]
 | k + 1, h => by
  unfold rateTo
  split
  ·exact h k (by omega)
  ·exact rateTo_bd (fun j hj => h j (by omega))
theorem rate_bd {n : Nat} {f g : Nat → Int} {b : Int} (hc : chk n f g = 0) : 0 ≤ rate n f g b ∧ rate n f g b ≤ 1000000 := by
 obtain ⟨_, hg, _, _⟩ := chk_ok hc
 unfold rate
 rw [if_neg (by omega)]
 exact rateTo_bd (fun j hj => (hg j hj).2.2)
/-- What the interest of a list of parts needs. -/
def goodSl (l : List (Int × Int)) : Prop := l.length ≤ 6 ∧ good l ∧ IB l.length (fsts l) (snds l)
theorem good_IB {l : List (Int × Int)} (h : good l) {z : Int} (hz : z ≤ 9223372036854775807) (hp : psum (fsts l) l.length = z) : IB l.length (fsts l) (snds l) := fun k hk => by
 obtain ⟨h1, h2, h3⟩ := h k hk
 have a := psum_le h (j := 0) (k := k) (by omega)
 have b := psum_le h (j := k + 1) (k := l.length - (k + 1)) (by omega)
 rw [show k + 1 + (l.length - (k + 1)) = l.length from by omega, hp] at b
 rw [Nat.zero_add] at a
 have c : psum (fsts l) (k + 1) = psum (fsts l) k + fsts l k := rfl
 have d : psum (fsts l) 0 = 0 := rfl
 exact ⟨⟨by omega, by omega⟩, ⟨by omega, by omega⟩⟩
theorem slices_ok {n : Nat} {f g : Nat → Int} {m : Bool} {b : Int} (hc : chk n f g = 0) (b1 : -9223372036854775808 ≤ b) (b2 : b ≤ 9223372036854775807) : goodSl (slices n f g m b (rate n f g b)) := by
 obtain ⟨z1, z2⟩ := tsz_bd b1 b2
 rcases Nat.eq_zero_or_pos n with h0 | h0
 ·unfold slices
  rw [if_pos (.inl h0)]
  exact ⟨by simp, good_nil, fun k hk => by simp at hk⟩
 ·obtain ⟨h1, h2, h3⟩ := slices_good (m := m) h0 hc z1 (rate_bd hc)
  exact ⟨h1, h2, good_IB h2 z2 h3⟩
theorem Row2.congr {w : World} {A : Option Addr} {n : Nat} {f g f' g' : Nat → Int} (h : Row2 w A n f g) (e : ∀ k, k < n → f k = f' k ∧ g k = g' k) : Row2 w A n f' g' := fun hn => by
 obtain ⟨b, off, hA, hb, hc⟩ := h hn
 exact ⟨b, off, hA, hb, fun k hk => by rw [← (e k hk).1, ← (e k hk).2]; exact hc k hk⟩
end Go.Proofs.YtdjlaiilngechaaGreatDoor
