/- Texts laid together: Keep. -/
import Derived.Test.YtfolccncegejjaaQNum
import Derived.Deep.Draws
namespace Go.Proofs.Ytfolccncegejjaa
set_option maxRecDepth 4000
set_option linter.unusedSimpArgs false
set_option linter.unusedVariables false
open Go.RowKit
theorem heap_new (w : World) (o : Obj) (n : Nat) (h : n = w.heap.size) : (w.alloc o).heap[n]? = some o := by
  subst h
  show (w.heap.push o)[w.heap.size]? = _
  simp
theorem cell_at {w : World} {g : Nat} {c : Array Value} {t : TypeId} (h : w.heap[g]? = some (.cells c t (0, 0))) (o : Nat) : w.cell? ⟨g, o, none⟩ = c[o]? := cell_of_row w g o c t (0, 0) h
theorem free_at {w : World} {g : Nat} {c : Array Value} {t : TypeId} (h : w.heap[g]? = some (.cells c t (0, 0))) (o : Nat) : w.frozen? ⟨g, o, none⟩ = false := by
  simp [World.frozen?, h]
theorem below_drewN {B : Nat} {a w : World} (h : Below B a w) (n : Nat) : Below B a (w.drewN n) := ⟨h.os, h.tape, h.output, h.size, h.block⟩
theorem undrew {a w : World} (h : Below a.drew.heap.size a.drew w) : Below a.heap.size a w := ⟨h.os, h.tape, h.output, h.size, h.block⟩

theorem keep2 {w w1 : World} {c1 c2 : Array Value} {t1 t2 : TypeId}
    (hb : Below ((w.alloc (.cells c1 t1)).alloc (.cells c2 t2)).heap.size ((w.alloc (.cells c1 t1)).alloc (.cells c2 t2)) w1) :
    (∀ o, w1.cell? ⟨w.heap.size, o, none⟩ = c1[o]?) ∧ (∀ o, w1.frozen? ⟨w.heap.size, o, none⟩ = false) ∧ w.heap.size < w1.heap.size ∧ (∀ o, w1.cell? ⟨w.heap.size + 1, o, none⟩ = c2[o]?) ∧ (∀ o, w1.frozen? ⟨w.heap.size + 1, o, none⟩ = false) ∧ w.heap.size + 1 < w1.heap.size ∧ w.heap.size ≤ w1.heap.size ∧ (∀ b o, b < w.heap.size → w1.cell? ⟨b, o, none⟩ = w.cell? ⟨b, o, none⟩) ∧ (∀ b o, b < w.heap.size → w1.frozen? ⟨b, o, none⟩ = w.frozen? ⟨b, o, none⟩) ∧ Below w.heap.size w w1 := by
  have hz : w.heap.size + 2 ≤ w1.heap.size := by have := hb.size; simp at this; omega
  have hB : Below w.heap.size w w1 := ((((Below.refl _ _).alloc (Nat.le_refl _) _)).alloc (by simp <;> omega) _).trans (hb.mono (by simp <;> omega))
  have e1 : w1.heap[w.heap.size]? = some (.cells c1 t1 (0, 0)) := (hb.block _ (by simp <;> omega)).trans ((Below.heap_alloc _ _ _ (by simp <;> omega)).trans (heap_new _ _ _ (by simp <;> omega)))
  have e2 : w1.heap[w.heap.size + 1]? = some (.cells c2 t2 (0, 0)) := (hb.block _ (by simp <;> omega)).trans (heap_new _ _ _ (by simp <;> omega))
  exact ⟨cell_at e1, free_at e1, (by omega), cell_at e2, free_at e2, (by omega), by omega, fun b o h => hB.cell (p := ⟨b, o, none⟩) h, fun b o h => hB.frozen (p := ⟨b, o, none⟩) h, hB⟩
theorem keep3 {w w1 : World} {c1 c2 c3 : Array Value} {t1 t2 t3 : TypeId}
    (hb : Below (((w.alloc (.cells c1 t1)).alloc (.cells c2 t2)).alloc (.cells c3 t3)).heap.size (((w.alloc (.cells c1 t1)).alloc (.cells c2 t2)).alloc (.cells c3 t3)) w1) :
    (∀ o, w1.cell? ⟨w.heap.size, o, none⟩ = c1[o]?) ∧ (∀ o, w1.frozen? ⟨w.heap.size, o, none⟩ = false) ∧ w.heap.size < w1.heap.size ∧ (∀ o, w1.cell? ⟨w.heap.size + 1, o, none⟩ = c2[o]?) ∧ (∀ o, w1.frozen? ⟨w.heap.size + 1, o, none⟩ = false) ∧ w.heap.size + 1 < w1.heap.size ∧ (∀ o, w1.cell? ⟨w.heap.size + 2, o, none⟩ = c3[o]?) ∧ (∀ o, w1.frozen? ⟨w.heap.size + 2, o, none⟩ = false) ∧ w.heap.size + 2 < w1.heap.size ∧ w.heap.size ≤ w1.heap.size ∧ (∀ b o, b < w.heap.size → w1.cell? ⟨b, o, none⟩ = w.cell? ⟨b, o, none⟩) ∧ (∀ b o, b < w.heap.size → w1.frozen? ⟨b, o, none⟩ = w.frozen? ⟨b, o, none⟩) ∧ Below w.heap.size w w1 := by
  have hz : w.heap.size + 3 ≤ w1.heap.size := by have := hb.size; simp at this; omega
  have hB : Below w.heap.size w w1 := (((((Below.refl _ _).alloc (Nat.le_refl _) _)).alloc (by simp <;> omega) _).alloc (by simp <;> omega) _).trans (hb.mono (by simp <;> omega))
  have e1 : w1.heap[w.heap.size]? = some (.cells c1 t1 (0, 0)) := (hb.block _ (by simp <;> omega)).trans ((Below.heap_alloc _ _ _ (by simp <;> omega)).trans ((Below.heap_alloc _ _ _ (by simp <;> omega)).trans (heap_new _ _ _ (by simp <;> omega))))
  have e2 : w1.heap[w.heap.size + 1]? = some (.cells c2 t2 (0, 0)) := (hb.block _ (by simp <;> omega)).trans ((Below.heap_alloc _ _ _ (by simp <;> omega)).trans (heap_new _ _ _ (by simp <;> omega)))
  have e3 : w1.heap[w.heap.size + 2]? = some (.cells c3 t3 (0, 0)) := (hb.block _ (by simp <;> omega)).trans (heap_new _ _ _ (by simp <;> omega))
  exact ⟨cell_at e1, free_at e1, (by omega), cell_at e2, free_at e2, (by omega), cell_at e3, free_at e3, (by omega), by omega, fun b o h => hB.cell (p := ⟨b, o, none⟩) h, fun b o h => hB.frozen (p := ⟨b, o, none⟩) h, hB⟩
end Go.Proofs.Ytfolccncegejjaa
