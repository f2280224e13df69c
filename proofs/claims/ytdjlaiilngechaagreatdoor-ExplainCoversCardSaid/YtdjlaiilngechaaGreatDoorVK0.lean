/- Short forms: facts whose side goals are shown where they are used. -/
import Derived.Below
import Derived.Deep.Draws
import Derived.RowKit
namespace Go.Proofs.YtdjlaiilngechaaGreatDoor
open Go.RowKit
theorem below_dN {B : Nat} {a w : World} (h : Below B a w) (n : Nat) : Below B a (w.drewN n) := ⟨h.os, h.tape, h.output, h.size, h.block⟩
theorem belT {B : Nat} {w w' : World} (h : Below B w w' := by (repeat (first | (with_reducible first | exact Below.refl _ _ | assumption | refine Below.drew ?_ | refine below_dN ?_ _) | ((with_reducible first | refine Below.alloc ?_ ?_ _ | refine Below.setCell ?_ ?_ _); rotate_left; (first | omega | (simp <;> omega)))))) : Below B w w' := h
theorem qB {B Bm : Nat} {w wm wn : World} (hb : Below Bm wm wn) (h0 : B ≤ Bm := by first | omega | (simp <;> omega)) (h : Below B w wm := by (repeat (first | (with_reducible first | exact Below.refl _ _ | assumption | refine Below.drew ?_ | refine below_dN ?_ _) | ((with_reducible first | refine Below.alloc ?_ ?_ _ | refine Below.setCell ?_ ?_ _); rotate_left; (first | omega | (simp <;> omega)))))) : Below B w wn := Below.trans h (hb.mono h0)
theorem cel {B : Nat} {w w' : World} (hb : Below B w w') (b o : Nat) (h : b < B := by first | omega | (simp <;> omega)) : w'.cell? ⟨b, o, none⟩ = w.cell? ⟨b, o, none⟩ := hb.cell (p := ⟨b, o, none⟩) h
theorem fro {B : Nat} {w w' : World} (hb : Below B w w') (b o : Nat) (h : b < B := by first | omega | (simp <;> omega)) : w'.frozen? ⟨b, o, none⟩ = w.frozen? ⟨b, o, none⟩ := hb.frozen (p := ⟨b, o, none⟩) h
theorem belO {B : Nat} {w w' : World} (hb : Below B w w') : ∀ b o, b < B → w'.cell? ⟨b, o, none⟩ = w.cell? ⟨b, o, none⟩ := fun b o h => hb.cell (p := ⟨b, o, none⟩) h
end Go.Proofs.YtdjlaiilngechaaGreatDoor
