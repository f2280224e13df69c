/- Texts laid together: ExR ExK. -/
import Derived.Test.YtdjlaiilngechaaGreatDoorXNum
import Derived.Test.YtdjlaiilngechaaGreatDoorXTrM
import Derived.RangeFuncNested
import Derived.RangeFuncBound
import Derived.RangeFuncCalls
import Derived.RangeFuncLeaves
import Derived.WalkKit
import Derived.OwnWalkIn
import Derived.TacticsInMore
import Derived.LoopNIn
import Derived.LoopIn
namespace Go.Proofs.YtdjlaiilngechaaGreatDoor
set_option maxRecDepth 4000
set_option linter.unusedSimpArgs false
set_option linter.unusedVariables false
open Go.RowKit Go
/-- What an iterator may do beside its caller: make memory, walk, and write variables that are not the caller's. -/
def AbidesMine {β : Type} (B : Nat) (Mine : World → Nat → Prop) (J : β → World → Prop) : Prop :=
 ∀ s W W' row, J s W → W.grownBy W' row → (∀ r, row = some r → B ≤ r ∧ ∃ o : Obj, W.heap[r]? = some o ∧ (o.isWalk = true ∨ (o.isCells = true ∧ ¬ Mine W r))) → J s W'
/-- What holds through it. -/
def StayFrom {β : Type} (B : Nat) (Mine : World → Nat → Prop) (I : β → World → Prop) : Prop :=
 ∀ s W W' row, I s W → W.grownBy W' row → (∀ r, row = some r → B ≤ r ∧ ∃ o : Obj, W.heap[r]? = some o ∧ (o.isCells = true → ¬ Mine W r)) → I s W'
theorem StayFrom.own {β : Type} {B : Nat} {Mine : World → Nat → Prop} {I : β → World → Prop} (h : StayFrom B Mine I) : OwnFrom B I := fun s W W' row hs hg hr =>
 h s W W' row hs hg fun r e => by
  obtain ⟨h1, o, h2, h3⟩ := hr r e
  exact ⟨h1, o, h2, fun h => by rw [h3] at h; cases h⟩
theorem StayFrom.and {β : Type} {B : Nat} {Mine : World → Nat → Prop} {I I' : β → World → Prop} (h : StayFrom B Mine I) (h' : StayFrom B Mine I') : StayFrom B Mine (fun s W => I s W ∧ I' s W) := fun s W W' row hs hg hr => ⟨h s W W' row hs.1 hg hr, h' s W W' row hs.2 hg hr⟩
/-- An iterator that goes on while the body does: what came reads in the world behind it as S says. -/
def SeqTold {α : Type} (F : Fence) (n : Nat) (P : Program) (gf : Nat) (lb : Array Value) (encs : α → Array Value) (Kp : World → World → Prop) (Mine : World → Nat → Prop) (S : List α → World → Prop) (N : Nat) (w : World) : Prop :=
 ∀ (l : Nat) (J : List α → World → Prop) (W : World), Below w.heap.size w W → AbidesMine W.heap.size Mine J → Kp w W →
  (∀ pre x W1, J pre W1 → pre.length < N → YieldAt F (n - 1) P l (encs x) W1 fun e W' => e = .returned (.bool true) ∧ J (pre ++ [x]) W' ∧ Kp W1 W') → J [] W →
  CallsIn F n P gf (#[.func (.yield l) #[] #[]] ++ lb) W fun e W' => (∃ v, e = .returned v) ∧ ∃ xs, S xs W' ∧ J xs W'
/-- How a round ends. -/
def ToldPost {α : Type} (B : Nat) (Kp : World → World → Prop) (I : List α → World → Prop) (xs : List α) (W : World) : Exit → Act → World → Prop
 | .normal, _, W' => KeepsFrom B W W' ∧ Kp W W' ∧ I xs W'
 | _, _, _ => False
theorem wpIn_range_told {α : Type} {F : Fence} {n : Nat} {P : Program} {g : Operand} {ps : Array Tmp} {assign body : Code} {Q : Exit → Act → World → Prop} {a : Act} {w : World}
  (hro : F.round = none) (h1 : 1 ≤ n) {gf : Nat} {lb : Array Value} (hg : a.eval g = .func (.func gf) #[] lb) (hFg : F.fn gf) (eg : ∀ args w, (callFunc gf args).run P w = .ok (.enter gf args) w)
  {encs : α → Array Value} {Kp : World → World → Prop} {Mine : World → Nat → Prop} {S : List α → World → Prop} {N : Nat} (hseq : SeqTold F (n - 1) P gf lb encs Kp Mine S N w)
  (hKr : ∀ A : World, Kp A A) (hKt : ∀ {A B C : World}, Kp A B → Kp B C → Kp A C) (hKa : ∀ (W : World) (o : Obj), w.heap.size ≤ W.heap.size → Kp W (W.alloc o))
  (hKb : ∀ (W : World) (l : Nat) (o o' : Obj), w.heap.size ≤ l → W.heap[l]? = some o → o.isCells = false → o.isWalk = false → Kp W (W.putObj l o')) (hps : ∀ x, (encs x).size = ps.size)
  (I : List α → World → Prop) (hIS : StayFrom w.heap.size Mine I) (hS : OwnFrom w.heap.size S) (h0 : I [] w)
  (Ax : α → Act → World → Prop) (hAx : ∀ x a', OwnFrom w.heap.size (fun (_ : Unit) W => Ax x a' W))
  (hassign : ∀ (l : Nat) (pre : List α) (x : α) (W : World) (K : Act → World → Prop), I pre W → (∀ a' W', KeepsFrom w.heap.size W W' → Kp W W' → I pre W' → Ax x a' W' → K a' W') →
   assign.wpIn (F.inRound l) (n - 1 - 1) P (Exit.then K (fun _ _ _ => False)) { tmps := (ps.zip (encs x)).foldl (fun t (p, v) => t.setIfInBounds p v) a.tmps, defers := [] } W)
  (hbody : ∀ (l : Nat) (pre : List α) (x : α) (a' : Act) (W : World), I pre W → Ax x a' W → pre.length < N → body.wpIn (F.inRound l) (n - 1 - 1) P (ToldPost w.heap.size Kp I (pre ++ [x]) W) a' W)
  (hdone : ∀ (D : Nat) (xs : List α) (W : World), w.heap.size ≤ D → S xs W → I xs W → W.heap[D]? = some (.deferred (some [])) → Q .normal { a with defers := { target := .collected D, args := #[] } :: a.defers } W) :
  (Code.rangeFunc g ps assign body).wpIn F n P Q a w := by
 have hI : OwnFrom w.heap.size I := hIS.own
 refine wpIn_rangeFunc fun fn hfn => ?_
 rw [hro]
 obtain ⟨rec, hrec⟩ : ∃ rec : LoopState → Option Code → Loop, rec = fun st pe => { state := st, pending := pe, fn, tmps := a.tmps, params := ps, assign, body, defers := w.heap.size } := ⟨_, rfl⟩
 obtain ⟨V, hV⟩ : ∃ V, w.alloc (.deferred (some [])) = V := ⟨_, rfl⟩
 have hVs : V.heap.size = w.heap.size + 1 := by rw [← hV]; simp
 obtain ⟨W1, hW1⟩ : ∃ W1, V.alloc (.loop (rec .ready none)) = W1 := ⟨_, rfl⟩
 have hL : W1.heap[w.heap.size + 1]? = some (.loop (rec .ready none)) := by
  rw [← hW1, ← hVs]; exact World.alloc_heap_new V _
 have hD : W1.heap[w.heap.size]? = some (.deferred (some [])) := by
  rw [← hW1, Below.heap_alloc _ _ _ (by rw [hVs]; omega), ← hV]; exact World.alloc_heap_new w _
 have hI1 : I [] W1 := by rw [← hW1, ← hV]; exact hI.alloc _ (hI.alloc _ h0)
 have hB : Below w.heap.size w W1 := by
  rw [← hW1, ← hV]; exact ((Below.refl _ w).alloc (Nat.le_refl _) _).alloc (by simp) _
 have hK1 : Kp w W1 := by
  rw [← hW1, ← hV]; exact hKt (hKa w _ (Nat.le_refl _)) (hKa _ _ (by simp))
 have he : (Instr.enterLoop fn a.tmps ps assign body none).run P w = .ok (w.heap.size + 1, [{ target := .collected w.heap.size, args := #[] }]) W1 := by
  rw [run_enterLoop_outer, ← hW1, ← hV, hrec]
 refine ⟨w.heap.size + 1, [{ target := .collected w.heap.size, args := #[] }], W1, { target := .fn (.func gf) lb, args := #[.func (.yield (w.heap.size + 1)) #[] #[]] }, W1, gf, #[.func (.yield (w.heap.size + 1)) #[] #[]] ++ lb, W1, he, ?_, ?_, ?_, fun _ => h1, ?_⟩
 ·simp only [resolve, hg]
  simp [go_sem]
 ·intro f' hf'
  simp [Target.leads] at hf'
  subst hf'
  exact hFg
 ·simp [invoke, go_sem, eg]
 ·have keeps : ∀ {A C : World} {row : Option Nat} {l : Nat} {o : Obj}, A.grownBy C row → A.heap[l]? = some o → o.isWalk = false → o.isCells = false → (∀ r, row = some r → W1.heap.size ≤ r ∧ ∃ o : Obj, A.heap[r]? = some o ∧ (o.isWalk = true ∨ (o.isCells = true ∧ ¬ Mine A r))) → C.heap[l]? = some o :=
   fun {A C row l o} hg hl h1 h2 hr => by
    refine (hg.block l (Array.getElem?_eq_some_iff.1 hl).1 fun e => ?_).trans hl
    obtain ⟨_, o2, e2, h3⟩ := hr l e.symm
    rw [hl] at e2
    injection e2 with e2
    subst e2
    rcases h3 with h3 | ⟨h3, _⟩
    ·rw [h1] at h3; cases h3
    ·rw [h2] at h3; cases h3
  have hWs : w.heap.size ≤ W1.heap.size := hB.size
  refine (hseq (w.heap.size + 1) (fun pre W => I pre W ∧ W.heap[w.heap.size + 1]? = some (.loop (rec .ready none)) ∧ W.heap[w.heap.size]? = some (.deferred (some []))) W1 hB
   (fun s A C row hs hg' hr => ⟨hIS s A C row hs.1 hg' (fun r e => by
    obtain ⟨h1, o, h2, h3⟩ := hr r e
    refine ⟨Nat.le_trans hWs h1, o, h2, fun hc => ?_⟩
    rcases h3 with h3 | ⟨_, h3⟩
    ·exact absurd hc (by rw [Obj.not_cells_of_walk h3]; decide)
    ·exact h3), keeps hg' hs.2.1 rfl rfl hr, keeps hg' hs.2.2 rfl rfl hr⟩) hK1 ?_ ⟨hI1, hL, hD⟩).mono ?_
  ·rintro pre x W ⟨hi, hl, hd⟩ hlen
   have hy := run_yield (P := P) (args := encs x) hl (by rw [hrec]; exact hps x)
   rw [hrec] at hy
   refine ⟨fn, _, assign, body, hy, roundIn_of_wpIn hfn (hassign _ pre x W _ hi fun a' Wa hka hkpa hia hax => ?_)⟩
   have hl1 := hka.same _ _ (by omega) hl rfl
   have hd1 := hka.same _ _ (Nat.le_refl _) hd rfl
   have hlt : w.heap.size + 1 < Wa.heap.size := (Array.getElem?_eq_some_iff.1 hl1).1
   obtain ⟨Wb, hWb⟩ : ∃ Wb, Wa.putObj (w.heap.size + 1) (.loop { rec .ready none with state := .busy }) = Wb := ⟨_, rfl⟩
   have hrun := run_beginRound (P := P) hl1 (by rw [hrec])
   rw [hWb] at hrun
   have hl2 : Wb.heap[w.heap.size + 1]? = some (.loop { rec .ready none with state := .busy }) := by rw [← hWb]; exact World.putObj_heap_same hlt
   have hd2 : Wb.heap[w.heap.size]? = some (.deferred (some [])) := by rw [← hWb]; exact (World.putObj_heap_other (by omega)).trans hd1
   have hk2 : Kp Wa Wb := by rw [← hWb]; exact hKb _ _ _ _ (by omega) hl1 rfl rfl
   have hi2 : I pre Wb := by rw [← hWb]; exact hI.putObj _ hia (by omega) hl1 rfl
   have hx2 : Ax x a' Wb := by rw [← hWb]; exact (hAx x a').putObj (s := ()) _ hax (by omega) hl1 rfl
   refine ⟨Wb, hrun, wpIn_mono (hbody _ pre x a' Wb hi2 hx2 hlen) ?_⟩
   rintro e a3 W3 hp
   cases e with
   | normal =>
     obtain ⟨hk3, hkp3, hi3⟩ := hp
     have hl3 := hk3.same _ _ (by omega) hl2 rfl
     have hd3 := hk3.same _ _ (Nat.le_refl _) hd2 rfl
     have hr3 := run_endRound (P := P) none hl3
     have hlt3 : w.heap.size + 1 < W3.heap.size := (Array.getElem?_eq_some_iff.1 hl3).1
     have e3 : ({ ({ rec .ready none with state := .busy } : Loop) with state := (if (none : Option Code).isNone then .ready else .done), pending := none } : Loop) = rec .ready none := by rw [hrec]; rfl
     rw [e3] at hr3
     exact ⟨_, _, hr3, rfl, ⟨hI.putObj _ hi3 (by omega) hl3 rfl, World.putObj_heap_same hlt3, (World.putObj_heap_other (by omega)).trans hd3⟩, hKt hkpa (hKt (hKt hk2 hkp3) (hKb _ _ _ _ (by omega) hl3 rfl rfl))⟩
   | ret => exact hp.elim
   | exit id => exact hp.elim
   | goto t => exact hp.elim
   | panic ch => exact hp.elim
   | outgrown => exact hp.elim
  ·rintro e W2 ⟨⟨v, rfl⟩, xs, hSx, hi, hl, hk⟩
   have hr2 := run_endLoop (P := P) hl (by rw [hrec]; simp)
   have ep : (rec .ready none).pending = none := by rw [hrec]
   rw [ep] at hr2
   exact ⟨none, _, hr2, hdone _ xs _ (Nat.le_refl _) (hS.putObj _ hSx (by omega) hl rfl) (hI.putObj _ hi (by omega) hl rfl) ((World.putObj_heap_other (by omega)).trans hk)⟩
end Go.Proofs.YtdjlaiilngechaaGreatDoor
namespace Go.Proofs.YtdjlaiilngechaaGreatDoor
set_option maxRecDepth 4000
set_option linter.unusedSimpArgs false
set_option linter.unusedVariables false
open Go.RowKit Go
/-! ### Whole rows in the fenced walk -/
theorem wpListIn_load_row {F : Fence} {n : Nat} {P : Program} {ops : Array Oper} {rest : List Oper} {o : Oper} {a : Act} {w : World} {Q : Exit → Act → World → Prop} (hgd : o.guard = none) (ty : TypeId) (x : Operand) (ho : o.op = .load ty x)
  (g : Nat) (hx : a.eval x = .pointer (some ⟨g, 0, none⟩)) (t : TypeId) (cs : Array Value) (fr : Nat × Nat) (d : TypeDesc) (hg : w.heap[g]? = some (.cells cs t fr))
  (hu : P.underlying ty = some d) (hd : (match d with | .struct _ | .array _ _ => true | _ => false) = true) (hi : (P.info? ty).map (·.size) = some cs.size)
  (h : wpListIn F n P ops Q rest (a.put o.dst (.agg cs)) w) : wpListIn F n P ops Q (o :: rest) a w := by
 refine wpListIn_plain hgd fun K hK => ?_
 unfold Oper.wpIn
 refine ⟨?_, ?_⟩
 ·simp [Oper.about, ho]
 ·rw [Oper.semAt_plain F _ _ (by rw [ho]; intro c hc; cases hc)]
  unfold execOp
  simp only [ho, hx, Instr.loadAt, Instr.sureAddr, Sem.run_bind, Sem.run_pure, Result.andThen_ok, run_loadVar_row w g t ty cs fr d hg hu hd hi]
  exact hK _ _ h
/-! ### What changes -/
/-- The array that the variable nb holds. -/
def obW (nb : Nat) (W : World) : Option Nat := (W.cell? ⟨nb, 0, none⟩).bind Value.ownBlock
def MineL (nb : Nat) (W : World) (r : Nat) : Prop := r = nb ∨ obW nb W = some r
structure KpL (nb : Nat) (A B : World) : Prop where
 bel : Below nb A B
 same : ∀ b cs t fz, b ≠ nb → obW nb A ≠ some b → A.heap[b]? = some (.cells cs t fz) → B.heap[b]? = some (.cells cs t fz)
 own : ∀ b, obW nb B = some b → obW nb A = some b ∨ A.heap.size ≤ b
 lt : (∀ b, obW nb A = some b → b < A.heap.size) → ∀ b, obW nb B = some b → b < B.heap.size
theorem KpL.refl (nb : Nat) (A : World) : KpL nb A A := ⟨Below.refl _ _, fun _ _ _ _ _ _ h => h, fun _ h => .inl h, fun h => h⟩
theorem KpL.trans {nb : Nat} {A B C : World} (h : KpL nb A B) (k : KpL nb B C) : KpL nb A C := by
 refine ⟨h.bel.trans k.bel, fun b cs t fz hb ho hh => ?_, fun b hb => ?_, fun hl => k.lt (h.lt hl)⟩
 ·refine k.same b cs t fz hb (fun e => ?_) (h.same b cs t fz hb ho hh)
  rcases h.own b e with e | e
  ·exact ho e
  ·exact absurd (heap_lt hh) (by omega)
 ·rcases k.own b hb with e | e
  ·exact h.own b e
  ·exact .inr (Nat.le_trans h.bel.size e)
theorem obW_of {nb : Nat} {A B : World} (h : B.heap[nb]? = A.heap[nb]?) : obW nb B = obW nb A := by
 unfold obW
 rw [World.cell?_of_block (a := ⟨nb, 0, none⟩) h]
/-- A step that leaves the variable and all that lay there as it was, but for one block that is not the caller's. -/
theorem KpL.alloc {nb : Nat} (W : World) (o : Obj) (h : nb < W.heap.size) : KpL nb W (W.alloc o) := by
 have e := obW_of (nb := nb) (A := W) (B := W.alloc o) (Below.heap_alloc _ _ _ h)
 refine ⟨(Below.refl _ W).alloc (Nat.le_of_lt h) _, fun b cs t fz _ _ hh => ?_, fun b hb => .inl (e ▸ hb), fun hl b hb => ?_⟩
 ·rw [Below.heap_alloc _ _ _ (heap_lt hh)]; exact hh
 ·have := hl b (e ▸ hb)
  simp
  omega
theorem kpL_put {nb : Nat} (W : World) (l : Nat) (o o' : Obj) (hl : nb < l) (h : W.heap[l]? = some o) (h1 : o.isCells = false) : KpL nb W (W.putObj l o') := by
 have e := obW_of (nb := nb) (A := W) (B := W.putObj l o') (World.putObj_heap_other (by omega))
 have hs : (W.putObj l o').heap.size = W.heap.size := by simp [World.putObj]
 refine ⟨⟨rfl, rfl, rfl, by omega, fun k hk => World.putObj_heap_other (by omega)⟩, fun b cs t fz _ _ hh => ?_, fun b hb => .inl (e ▸ hb), fun hl b hb => by rw [hs]; exact hl b (e ▸ hb)⟩
 rw [World.putObj_heap_other]
 ·exact hh
 ·intro e
  subst e
  rw [h] at hh
  injection hh with hh
  subst hh
  cases h1
/-- All but one block as it was. -/
theorem gb_refl (W : World) (g : Nat) : W.grownBy W (some g) := ⟨rfl, rfl, rfl, Nat.le_refl _, fun _ _ _ => rfl⟩
theorem gb_below {W A B : World} {g : Nat} (h : W.grownBy A (some g)) (hb : Below A.heap.size A B) : W.grownBy B (some g) :=
 ⟨hb.os.trans h.os, hb.tape.trans h.tape, hb.output.trans h.output, Nat.le_trans h.size hb.size, fun k hk hn => (hb.block k (Nat.lt_of_lt_of_le hk h.size)).trans (h.block k hk hn)⟩
theorem gb_set {W A : World} {g j : Nat} {v : Value} (h : W.grownBy A (some g)) : W.grownBy (A.setCell ⟨g, j, none⟩ v) (some g) := by
 refine ⟨h.os, h.tape, h.output, by simpa using h.size, fun k hk hn => ?_⟩
 rw [Below.heap_setCell _ _ _ _ (show k ≠ (⟨g, j, none⟩ : Addr).block from fun e => hn (by rw [e]))]
 exact h.block k hk hn
theorem gb_alloc {W A : World} {g : Nat} (o : Obj) (h : W.grownBy A (some g)) : W.grownBy (A.alloc o) (some g) :=
 ⟨h.os, h.tape, h.output, by simp; have := h.size; omega, fun k hk hn => (Below.heap_alloc _ _ _ (Nat.lt_of_lt_of_le hk h.size)).trans (h.block k hk hn)⟩
theorem gb_drew {W A : World} {g : Nat} (h : W.grownBy A (some g)) : W.grownBy A.drew (some g) := ⟨h.os, h.tape, h.output, h.size, h.block⟩
theorem mine_stay {β : Type} {B nb g : Nat} {J : β → World → Prop} (hJ : AbidesMine B (MineL nb) J) {s : β} {W W' : World} {cs : Array Value} {t : TypeId} {fz : Nat × Nat} (h : J s W) (hB : B ≤ g) (hn : nb ≠ g) (ho : obW nb W ≠ some g) (hg : W.heap[g]? = some (.cells cs t fz)) (hgr : W.grownBy W' (some g)) : J s W' :=
 hJ s W W' (some g) h hgr fun r e => by
  cases e
  exact ⟨hB, _, hg, .inr ⟨rfl, fun hm => hm.elim (fun e => hn e.symm) ho⟩⟩
end Go.Proofs.YtdjlaiilngechaaGreatDoor
