/- Texts laid together: Eya. -/
import Derived.Test.YtdjlaiilngechaaGreatDoorXEyq
import Derived.Test.YtdjlaiilngechaaGreatDoorXAcM
import Derived.Test.YtdjlaiilngechaaGreatDoorXStA
import Derived.Test.YtdjlaiilngechaaGreatDoorXK0
namespace Go.Proofs.YtdjlaiilngechaaGreatDoor
set_option maxRecDepth 4000
set_option linter.unusedSimpArgs false
set_option linter.unusedVariables false
open Go.RowKit
def PaidRet (n d : Int) (w : World) (e : Ending) (w' : World) : Prop := ∃ b, e = .returned (.agg (exEn d b)) ∧ w'.heap[b]? = some (.cells (exLg n) 120 (0, 0)) ∧ w.heap.size ≤ b ∧ Below w.heap.size w w'
set_option maxHeartbeats 2000000 in
theorem paid_any (n d : Int) (h1 : -9223372036854775807 ≤ n) (h2 : n ≤ 9223372036854775807) (w : World) : Calls Tryz.prog 61 #[.int .i64 n, .int .i64 d] w (PaidRet n d w) := by
 have h3 : IntKind.i64.wrap (-n) = -n := by rw [IntKind.wrap_i64]; omega
 go_enter Tryz.func61, Tryz.ntmps61
 go_wp2_with fail
 refine bodyPost_ret (by simp [results, Tryz.results61, go_sem, *] <;> rfl) rfl ?_
 exact ⟨w.heap.size + 1, rfl, blk_new (by simp), by omega, by (repeat (first | (with_reducible first | exact Below.refl _ _ | assumption | refine Below.drew ?_) | ((with_reducible first | refine Below.alloc ?_ ?_ _ | refine Below.setCell ?_ ?_ _); rotate_left; (first | omega | (simp <;> omega)))))⟩
theorem SB.setRow {N g : Nat} {X : List Nat} {W w : World} {cs : Array Value} (h : SB N X W w) (hg : g ∈ X ∨ N ≤ g) : SB N X W (w.setRow g cs) := fun b i hb hx =>
 (World.cell?_of_block (a := ⟨b, i, none⟩) (setRow_other w g b cs (fun e => by subst e; rcases hg with hg | hg; exact hx hg; omega))).trans (h b i hb hx)
theorem tk_row {P : Program} {op : Oper} {a : Act} {w : World} (ty : TypeId) (x : Operand) (ho : op.op = .load ty x) (b o : Nat) (hx : a.eval x = .pointer (some ⟨b, o, none⟩)) (C : Array Value) (d : TypeDesc) (hc : w.rangeAt b o C.toList) (hu : P.underlying ty = some d) (hd : d.isRow = true) (hi : (P.info? ty).map (·.size) = some C.size) : (execOp a.eval op).run P w = .ok (.value (.agg C)) w := by
 have h := run_loadAt_mid w b o ty C.toList d hc hu hd (by simpa using hi)
 rw [Array.toArray_toList] at h
 unfold execOp
 simp only [ho, hx, Sem.run_bind, h, Sem.run_pure, Result.andThen_ok]
theorem wp_store_rowE {P : Program} {o : Oper} {a : Act} {w : World} {K : Act → World → Prop} {Q : Exit → Act → World → Prop} (ty : TypeId) (x y : Operand) (ho : o.op = .store ty x y)
  (g : Nat) (cells : Array Value) (hx : a.eval x = .pointer (some ⟨g, 0, none⟩)) (hy : a.eval y = .agg cells)
  (t : TypeId) (old : Array Value) (hg : w.heap[g]? = some (.cells old t (0, 0))) (hi : (P.info? ty).map (·.size) = some cells.size)
  (hold : old.size = cells.size) (h1 : cells.all (·.oneCell') = true) (R : Array Value → Prop) (hR : R cells)
  (h : ∀ C : Array Value, R C → C.size = cells.size → C.all (·.oneCell') = true → K (a.put o.dst undef) (w.setRow g C)) : o.wp P a w K Q :=
 wp_store_row ty x y ho g cells hx hy t old hg hi hold h1 (h cells hR rfl h1)
def exR (ab jb pb : Nat) (C : Array Value) : Prop := Bks C (some ⟨ab, 0, none⟩) 1 1 (some ⟨jb, 0, none⟩) 2 2 ∧ C[17]? = some (.slice (some ⟨pb, 0, none⟩) 1 1)
theorem rg_rowX {N : Nat} {X : List Nat} {W wx : World} {b : Nat} {C : Array Value} {t : TypeId} (hS : SB N X W wx) (hb : b < N) (hX : b ∉ X) (h : W.heap[b]? = some (.cells C t (0, 0))) : wx.rangeAt b 0 C.toList := fun j v hv => by
 rw [hS b (0 + j) hb hX, Nat.zero_add, cell_of_cells h]
 simpa using hv
def exCC (v4 v5 v6 : Value) : Array Value := #[.slice none 0 0, .slice none 0 0, .slice none 0 0, .int .i64 0, .int .i64 0, .int .i64 0, .int .i64 0, .int .i64 0, .int .i64 0, .int .i64 0, .int .i64 0, .int .i64 0, .int .i64 0, .int .i64 0, .int .i64 0, .int .i64 0, .int .i64 0, v4, v5, v6, .slice none 0 0, .slice none 0 0]
def exZ : Array Value := exCC (.slice none 0 0) (.slice none 0 0) (.slice none 0 0)
theorem ex_zero : ∃ (i : TypeInfo) (Z : Array Value), Tryz.prog.info? 33 = some i ∧ i.zero = some (.agg Z) ∧ Z.size = 22 := by
 obtain ⟨i, h1, h2⟩ := info_agg (show (Tryz.prog.info? 33).bind (·.zero) = some (.agg exZ) by kernel_rfl)
 exact ⟨i, exZ, h1, h2, rfl⟩
def BksRet (later : Int) (w : World) (e : Ending) (w' : World) : Prop := ∃ C tb pb ab jb b1 b2, e = .returned (.agg C) ∧ BkOK (exB C later tb pb ab jb b1 b2) ∧ BkIn w' (exB C later tb pb ab jb b1 b2) ∧ Below w.heap.size w w'
set_option maxRecDepth 8000 in
set_option maxHeartbeats 8000000 in
theorem books_any (later : Int) (w : World) : Calls Tryz.prog 33 #[.int .i64 later] w (BksRet later w) := by
 obtain ⟨i0, Z, hi0, hi1, hi2⟩ := ex_zero
 obtain ⟨i1, Y, hj0, hj1, hj2⟩ := pz_zero
 have HZ := hide hi2
 have HY := hide hj2
 have HI := hide (And.intro hi0 hi1)
 have HJ := hide (And.intro hj0 hj1)
 clear hi0 hi1 hi2 hj0 hj1 hj2
 go_enter Tryz.func33, Tryz.ntmps33
 go_wp2_with (first
  | (with_reducible refine wpList_alloc_row rfl 33 rfl (some 2) rfl i0 HI.out.1 Z HI.out.2 w.heap.size rfl ?_)
  | (with_reducible refine wpList_alloc_row rfl 78 rfl (some 4) rfl i1 HJ.out.1 Y HJ.out.2 (w.heap.size + 1 + 1 + 1) (by simp) ?_)
  | ((with_reducible refine wpList_store_newrow2 rfl 78 (.tmp 4) (.tmp 10) rfl rfl (w.heap.size + 1 + 1 + 1) #[.string tBasic, .string tEur, .string tWeek, .int .i64 0, .int .i64 1, .int .i64 0, .int .i64 0, .slice (some ⟨w.heap.size + 1, 0, none⟩) 1 1, .bool false, .int .i64 2, .int .i64 6, .bool false, .slice (some ⟨w.heap.size + 1, 0, none⟩) 1 1, .bool false, .int .i64 2, .int .i64 6, .bool false, .slice none 0 0, .slice none 0 0] ?xa ?xb 78 Y ?xc ?xd ?xe ?xf ?xg); (case xa => rfl); (case xb => rfl); (case xc => exact blk_new (by simp)); (case xd => exact pz_size rfl); (case xe => rw [HY.out]; rfl); (case xf => simp [Value.oneCell']); intro w3 hb hs3 hx3 hk3))
 have X3 := hide hx3
 have X0 := hide (show w3.heap[w.heap.size]? = some (.cells Z 33 (0, 0)) from (hb.block _ (by omega)).trans (by repeat (first | exact blk_new rfl | refine blk_under ?_)))
 have X1 := hide (show w3.heap[w.heap.size + 1]? = some (.cells #[.int .i64 0, .int .i64 15000] 133 (0, 0)) from (hb.block _ (by omega)).trans (by repeat (first | exact blk_new (by simp) | refine blk_under ?_)))
 have hs : w3.heap.size = w.heap.size + 4 := by rw [hs3]; simp
 have B3 : Below w.heap.size w w3 := Below.trans belT (hb.mono (by omega))
 have z0 : w.heap.size < w3.heap.size := by omega
 have z1 : w.heap.size + 1 < w3.heap.size := by omega
 have z3 : w.heap.size + 1 + 1 + 1 < w3.heap.size := by omega
 clear hb hs3 hx3 hk3
 refine ord_start (SB (w3.heap.size) [w.heap.size] _) 10 (preB 0 10) (by kernel_rfl) (by kernel_rfl) (by kernel_rfl) SB.refl.drew (fun hHeld => ?_)
 refine oT (i := 0) (preB 1 9) (.agg #[.string tBasic, .string tEur, .string tWeek, .int .i64 0, .int .i64 1, .int .i64 0, .int .i64 0, .slice (some ⟨w.heap.size + 1, 0, none⟩) 1 1, .bool false, .int .i64 2, .int .i64 6, .bool false, .slice (some ⟨w.heap.size + 1, 0, none⟩) 1 1, .bool false, .int .i64 2, .int .i64 6, .bool false, .slice none 0 0, .slice none 0 0]) rfl hHeld (fun wx hSx => tk_row 78 (.tmp 4) rfl (w.heap.size + 1 + 1 + 1) 0 rfl _ _ (rg_rowX hSx z3 (by simp; omega) X3.out) Tryz.underlying78 rfl (pz_size rfl)) ?_
 (try simp only [Act.put, putS])
 refine oS (i := 2) #[true, false, true, false, false, false, false, false, false, false] rfl hHeld ?_
 (try simp only [Act.put, putS])
 refine oS (i := 5) #[true, false, true, false, false, true, false, false, false, false] rfl hHeld ?_
 (try simp only [Act.put, putS])
 refine wpAnyH_ready (rs := [1, 3, 4]) (by kernel_rfl) (by simp) ?_
 refine ord_run (i := 1) #[true, true, true, false, false, true, false, false, false, false] rfl (by kernel_rfl) (by rfl) (fun K hK => ?_) ?_
 ·go_simp
  refine hK.out _ _ ?_ (fun hHeld => ?_)
  ·exact sbT
  clear hK K
  (try simp only [Act.put, putS])
  refine wpAnyH_ready (rs := [3, 4]) (by kernel_rfl) (by simp) ?_
  refine ord_run (i := 3) #[true, true, true, true, false, true, false, false, false, false] rfl (by kernel_rfl) (by rfl) (fun K hK => ?_) ?_
  ·go_simp
   refine hK.out _ _ ?_ (fun hHeld => ?_)
   ·exact sbT
   clear hK K
   (try simp only [Act.put, putS])
   refine wpAnyH_ready (rs := [4]) (by kernel_rfl) (by simp) ?_
   refine ord_run (i := 4) (preB 6 4) rfl (by kernel_rfl) (by rfl) (fun K hK => ?_) AllReadyH.nil
   go_simp
   go_wp2_with (go_at_call 61; refine (paid_any 100000 0 (by decide) (by decide) _).mono ?_; rintro e w4 ⟨bA, rfl, hLA, hgA, hb⟩; (try simp only [World.size_drew, World.size_alloc] at hgA); have hlA := heap_lt hLA; have q4B : Below w.heap.size w w4 := qB hb; have q4z := hb.size; (try simp at q4z); have q4t : w.heap.size ≤ w4.heap.size := (by omega); have q4o := belO q4B; have hbS := hb; have hbS4 := hb; clear hb)
   refine hK.out _ _ ?_ (fun hHeld => ?_)
   ·exact sbT
   clear hK K
   (try simp only [Act.put, putS])
   refine wpAnyH_ready (rs := [6]) (by kernel_rfl) (by simp) ?_
   refine ord_run (i := 6) (preB 7 3) rfl (by kernel_rfl) (by rfl) (fun K hK => ?_) AllReadyH.nil
   go_simp
   go_wp2_with (go_at_call 61; refine (paid_any 50000 later (by decide) (by decide) _).mono ?_; rintro e w5 ⟨bB, rfl, hLB, hgB, hb⟩; (try simp only [World.size_drew, World.size_alloc] at hgB); have hlB := heap_lt hLB; have q5B : Below w.heap.size w w5 := qB hb; have q5z := hb.size; (try simp at q5z); have q5t : w.heap.size ≤ w5.heap.size := (by omega); have q5o := belO q5B; have hbS := hb; have hbS5 := hb; clear hb)
   refine hK.out _ _ ?_ (fun hHeld => ?_)
   ·exact sbT
   clear hK K
   (try simp only [Act.put, putS])
   refine wpAnyH_ready (rs := [7]) (by kernel_rfl) (by simp) ?_
   refine ord_run (i := 7) (preB 8 2) rfl (by kernel_rfl) (by rfl) (fun K hK => ?_) AllReadyH.nil
   go_simp
   refine hK.out _ _ ?_ (fun hHeld => ?_)
   ·exact sbT
   clear hK K
   (try simp only [Act.put, putS])
   refine oS (i := 8) (preB 9 1) rfl hHeld ?_
   (try simp only [Act.put, putS])
   refine wpAnyH_ready (rs := [9]) (by kernel_rfl) (by simp) ?_
   refine ord_run (i := 9) (preB 10 0) rfl (by kernel_rfl) (by rfl) (fun K hK => ?_) AllReadyH.nil
   (refine wp_store_rowE 33 (.tmp 2) (.tmp 19) rfl w.heap.size _ rfl rfl 33 Z (by repeat (first | with_reducible exact X0.out | with_reducible refine blk_under ?_ | with_reducible refine blk_drew ?_ | with_reducible refine blk_below hbS5 (by first | omega | (simp <;> omega)) ?_ | with_reducible refine blk_below hbS4 (by first | omega | (simp <;> omega)) ?_)) (by kernel_rfl) (by rw [HZ.out]; rfl) (by simp [Value.oneCell']) (exR _ _ _) ⟨⟨rfl, rfl, rfl⟩, rfl⟩ (fun C hC hCs hC1 => ?_); refine hK.out _ _ ?_ (fun hHeld => ?_); exact SB.setRow hHeld (.inl (by simp)); clear hK K)
   (try simp only [Act.put, putS])
   refine wpAnyH_done (by kernel_rfl) ?_ _
   obtain ⟨hC1', hC2'⟩ := hC
   have HC := hide (And.intro hC1' (And.intro hC2' (And.intro hCs hC1)))
   clear hC1' hC2' hCs hC1
   go_wp2_with fail
   refine bodyPost_ret (v := .agg C) (Go.results_cell_row (by rfl) _ _ w.heap.size 33 C (0, 0) _ rfl (Go.setRow_heap _ _ Z _ _ _ (by repeat (first | with_reducible exact X0.out | with_reducible refine blk_under ?_ | with_reducible refine blk_drew ?_ | with_reducible refine blk_below hbS5 (by first | omega | (simp <;> omega)) ?_ | with_reducible refine blk_below hbS4 (by first | omega | (simp <;> omega)) ?_))) Tryz.underlying33 rfl (by rw [HC.out.1.size]; kernel_rfl)) rfl ?_
   refine ⟨C, w.heap.size + 1, _, _, _, bA, bB, rfl, ex_ok HC.out.1 HC.out.2.1 HC.out.2.2.2, ex_in (t1 := 133) (t2 := 78) (t3 := 101) (t4 := 82) (t5 := 120) (t6 := 120) (blk_setRow (by omega) (by repeat (first | with_reducible exact X1.out | with_reducible exact hLA | with_reducible exact hLB | with_reducible exact blk_new (by first | omega | (simp <;> omega)) | with_reducible refine blk_under ?_ | with_reducible refine blk_drew ?_ | with_reducible refine blk_below hbS5 (by first | omega | (simp <;> omega)) ?_ | with_reducible refine blk_below hbS4 (by first | omega | (simp <;> omega)) ?_))) (blk_setRow (by omega) (by repeat (first | with_reducible exact X1.out | with_reducible exact hLA | with_reducible exact hLB | with_reducible exact blk_new (by first | omega | (simp <;> omega)) | with_reducible refine blk_under ?_ | with_reducible refine blk_drew ?_ | with_reducible refine blk_below hbS5 (by first | omega | (simp <;> omega)) ?_ | with_reducible refine blk_below hbS4 (by first | omega | (simp <;> omega)) ?_))) (blk_setRow (by omega) (by repeat (first | with_reducible exact X1.out | with_reducible exact hLA | with_reducible exact hLB | with_reducible exact blk_new (by first | omega | (simp <;> omega)) | with_reducible refine blk_under ?_ | with_reducible refine blk_drew ?_ | with_reducible refine blk_below hbS5 (by first | omega | (simp <;> omega)) ?_ | with_reducible refine blk_below hbS4 (by first | omega | (simp <;> omega)) ?_))) (blk_setRow (by omega) (by repeat (first | with_reducible exact X1.out | with_reducible exact hLA | with_reducible exact hLB | with_reducible exact blk_new (by first | omega | (simp <;> omega)) | with_reducible refine blk_under ?_ | with_reducible refine blk_drew ?_ | with_reducible refine blk_below hbS5 (by first | omega | (simp <;> omega)) ?_ | with_reducible refine blk_below hbS4 (by first | omega | (simp <;> omega)) ?_))) (blk_setRow (by omega) (by repeat (first | with_reducible exact X1.out | with_reducible exact hLA | with_reducible exact hLB | with_reducible exact blk_new (by first | omega | (simp <;> omega)) | with_reducible refine blk_under ?_ | with_reducible refine blk_drew ?_ | with_reducible refine blk_below hbS5 (by first | omega | (simp <;> omega)) ?_ | with_reducible refine blk_below hbS4 (by first | omega | (simp <;> omega)) ?_))) (blk_setRow (by omega) (by repeat (first | with_reducible exact X1.out | with_reducible exact hLA | with_reducible exact hLB | with_reducible exact blk_new (by first | omega | (simp <;> omega)) | with_reducible refine blk_under ?_ | with_reducible refine blk_drew ?_ | with_reducible refine blk_below hbS5 (by first | omega | (simp <;> omega)) ?_ | with_reducible refine blk_below hbS4 (by first | omega | (simp <;> omega)) ?_))), below_setRow ?_ (Nat.le_refl _) _⟩
   (repeat (first | (with_reducible first | exact Below.refl _ _ | assumption | refine Below.drew ?_) | ((with_reducible first | refine Below.alloc ?_ ?_ _ | refine Below.setCell ?_ ?_ _); rotate_left; (first | omega | (simp <;> omega)))))
  refine ord_run (i := 4) #[true, true, true, false, true, true, false, false, false, false] rfl (by kernel_rfl) (by rfl) (fun K hK => ?_) ?_
  ·go_simp
   go_wp2_with (go_at_call 61; refine (paid_any 100000 0 (by decide) (by decide) _).mono ?_; rintro e w4 ⟨bA, rfl, hLA, hgA, hb⟩; (try simp only [World.size_drew, World.size_alloc] at hgA); have hlA := heap_lt hLA; have q4B : Below w.heap.size w w4 := qB hb; have q4z := hb.size; (try simp at q4z); have q4t : w.heap.size ≤ w4.heap.size := (by omega); have q4o := belO q4B; have hbS := hb; have hbS4 := hb; clear hb)
   refine hK.out _ _ ?_ (fun hHeld => ?_)
   ·exact sbT
   clear hK K
   (try simp only [Act.put, putS])
   refine wpAnyH_ready (rs := [3, 6]) (by kernel_rfl) (by simp) ?_
   refine ord_run (i := 3) (preB 6 4) rfl (by kernel_rfl) (by rfl) (fun K hK => ?_) ?_
   ·go_simp
    refine hK.out _ _ ?_ (fun hHeld => ?_)
    ·exact sbT
    clear hK K
    (try simp only [Act.put, putS])
    refine wpAnyH_ready (rs := [6]) (by kernel_rfl) (by simp) ?_
    refine ord_run (i := 6) (preB 7 3) rfl (by kernel_rfl) (by rfl) (fun K hK => ?_) AllReadyH.nil
    go_simp
    go_wp2_with (go_at_call 61; refine (paid_any 50000 later (by decide) (by decide) _).mono ?_; rintro e w5 ⟨bB, rfl, hLB, hgB, hb⟩; (try simp only [World.size_drew, World.size_alloc] at hgB); have hlB := heap_lt hLB; have q5B : Below w.heap.size w w5 := qB hb; have q5z := hb.size; (try simp at q5z); have q5t : w.heap.size ≤ w5.heap.size := (by omega); have q5o := belO q5B; have hbS := hb; have hbS5 := hb; clear hb)
    refine hK.out _ _ ?_ (fun hHeld => ?_)
    ·exact sbT
    clear hK K
    (try simp only [Act.put, putS])
    refine wpAnyH_ready (rs := [7]) (by kernel_rfl) (by simp) ?_
    refine ord_run (i := 7) (preB 8 2) rfl (by kernel_rfl) (by rfl) (fun K hK => ?_) AllReadyH.nil
    go_simp
    refine hK.out _ _ ?_ (fun hHeld => ?_)
    ·exact sbT
    clear hK K
    (try simp only [Act.put, putS])
    refine oS (i := 8) (preB 9 1) rfl hHeld ?_
    (try simp only [Act.put, putS])
    refine wpAnyH_ready (rs := [9]) (by kernel_rfl) (by simp) ?_
    refine ord_run (i := 9) (preB 10 0) rfl (by kernel_rfl) (by rfl) (fun K hK => ?_) AllReadyH.nil
    (refine wp_store_rowE 33 (.tmp 2) (.tmp 19) rfl w.heap.size _ rfl rfl 33 Z (by repeat (first | with_reducible exact X0.out | with_reducible refine blk_under ?_ | with_reducible refine blk_drew ?_ | with_reducible refine blk_below hbS5 (by first | omega | (simp <;> omega)) ?_ | with_reducible refine blk_below hbS4 (by first | omega | (simp <;> omega)) ?_)) (by kernel_rfl) (by rw [HZ.out]; rfl) (by simp [Value.oneCell']) (exR _ _ _) ⟨⟨rfl, rfl, rfl⟩, rfl⟩ (fun C hC hCs hC1 => ?_); refine hK.out _ _ ?_ (fun hHeld => ?_); exact SB.setRow hHeld (.inl (by simp)); clear hK K)
    (try simp only [Act.put, putS])
    refine wpAnyH_done (by kernel_rfl) ?_ _
    obtain ⟨hC1', hC2'⟩ := hC
    have HC := hide (And.intro hC1' (And.intro hC2' (And.intro hCs hC1)))
    clear hC1' hC2' hCs hC1
    go_wp2_with fail
    refine bodyPost_ret (v := .agg C) (Go.results_cell_row (by rfl) _ _ w.heap.size 33 C (0, 0) _ rfl (Go.setRow_heap _ _ Z _ _ _ (by repeat (first | with_reducible exact X0.out | with_reducible refine blk_under ?_ | with_reducible refine blk_drew ?_ | with_reducible refine blk_below hbS5 (by first | omega | (simp <;> omega)) ?_ | with_reducible refine blk_below hbS4 (by first | omega | (simp <;> omega)) ?_))) Tryz.underlying33 rfl (by rw [HC.out.1.size]; kernel_rfl)) rfl ?_
    refine ⟨C, w.heap.size + 1, _, _, _, bA, bB, rfl, ex_ok HC.out.1 HC.out.2.1 HC.out.2.2.2, ex_in (t1 := 133) (t2 := 78) (t3 := 101) (t4 := 82) (t5 := 120) (t6 := 120) (blk_setRow (by omega) (by repeat (first | with_reducible exact X1.out | with_reducible exact hLA | with_reducible exact hLB | with_reducible exact blk_new (by first | omega | (simp <;> omega)) | with_reducible refine blk_under ?_ | with_reducible refine blk_drew ?_ | with_reducible refine blk_below hbS5 (by first | omega | (simp <;> omega)) ?_ | with_reducible refine blk_below hbS4 (by first | omega | (simp <;> omega)) ?_))) (blk_setRow (by omega) (by repeat (first | with_reducible exact X1.out | with_reducible exact hLA | with_reducible exact hLB | with_reducible exact blk_new (by first | omega | (simp <;> omega)) | with_reducible refine blk_under ?_ | with_reducible refine blk_drew ?_ | with_reducible refine blk_below hbS5 (by first | omega | (simp <;> omega)) ?_ | with_reducible refine blk_below hbS4 (by first | omega | (simp <;> omega)) ?_))) (blk_setRow (by omega) (by repeat (first | with_reducible exact X1.out | with_reducible exact hLA | with_reducible exact hLB | with_reducible exact blk_new (by first | omega | (simp <;> omega)) | with_reducible refine blk_under ?_ | with_reducible refine blk_drew ?_ | with_reducible refine blk_below hbS5 (by first | omega | (simp <;> omega)) ?_ | with_reducible refine blk_below hbS4 (by first | omega | (simp <;> omega)) ?_))) (blk_setRow (by omega) (by repeat (first | with_reducible exact X1.out | with_reducible exact hLA | with_reducible exact hLB | with_reducible exact blk_new (by first | omega | (simp <;> omega)) | with_reducible refine blk_under ?_ | with_reducible refine blk_drew ?_ | with_reducible refine blk_below hbS5 (by first | omega | (simp <;> omega)) ?_ | with_reducible refine blk_below hbS4 (by first | omega | (simp <;> omega)) ?_))) (blk_setRow (by omega) (by repeat (first | with_reducible exact X1.out | with_reducible exact hLA | with_reducible exact hLB | with_reducible exact blk_new (by first | omega | (simp <;> omega)) | with_reducible refine blk_under ?_ | with_reducible refine blk_drew ?_ | with_reducible refine blk_below hbS5 (by first | omega | (simp <;> omega)) ?_ | with_reducible refine blk_below hbS4 (by first | omega | (simp <;> omega)) ?_))) (blk_setRow (by omega) (by repeat (first | with_reducible exact X1.out | with_reducible exact hLA | with_reducible exact hLB | with_reducible exact blk_new (by first | omega | (simp <;> omega)) | with_reducible refine blk_under ?_ | with_reducible refine blk_drew ?_ | with_reducible refine blk_below hbS5 (by first | omega | (simp <;> omega)) ?_ | with_reducible refine blk_below hbS4 (by first | omega | (simp <;> omega)) ?_))), below_setRow ?_ (Nat.le_refl _) _⟩
    (repeat (first | (with_reducible first | exact Below.refl _ _ | assumption | refine Below.drew ?_) | ((with_reducible first | refine Below.alloc ?_ ?_ _ | refine Below.setCell ?_ ?_ _); rotate_left; (first | omega | (simp <;> omega)))))
   refine ord_run (i := 6) #[true, true, true, false, true, true, true, false, false, false] rfl (by kernel_rfl) (by rfl) (fun K hK => ?_) ?_
   ·go_simp
    go_wp2_with (go_at_call 61; refine (paid_any 50000 later (by decide) (by decide) _).mono ?_; rintro e w5 ⟨bB, rfl, hLB, hgB, hb⟩; (try simp only [World.size_drew, World.size_alloc] at hgB); have hlB := heap_lt hLB; have q5B : Below w.heap.size w w5 := qB hb; have q5z := hb.size; (try simp at q5z); have q5t : w.heap.size ≤ w5.heap.size := (by omega); have q5o := belO q5B; have hbS := hb; have hbS5 := hb; clear hb)
    refine hK.out _ _ ?_ (fun hHeld => ?_)
    ·exact sbT
    clear hK K
    (try simp only [Act.put, putS])
    refine wpAnyH_ready (rs := [3, 7]) (by kernel_rfl) (by simp) ?_
    refine ord_run (i := 3) (preB 7 3) rfl (by kernel_rfl) (by rfl) (fun K hK => ?_) ?_
    ·go_simp
     refine hK.out _ _ ?_ (fun hHeld => ?_)
     ·exact sbT
     clear hK K
     (try simp only [Act.put, putS])
     refine wpAnyH_ready (rs := [7]) (by kernel_rfl) (by simp) ?_
     refine ord_run (i := 7) (preB 8 2) rfl (by kernel_rfl) (by rfl) (fun K hK => ?_) AllReadyH.nil
     go_simp
     refine hK.out _ _ ?_ (fun hHeld => ?_)
     ·exact sbT
     clear hK K
     (try simp only [Act.put, putS])
     refine oS (i := 8) (preB 9 1) rfl hHeld ?_
     (try simp only [Act.put, putS])
     refine wpAnyH_ready (rs := [9]) (by kernel_rfl) (by simp) ?_
     refine ord_run (i := 9) (preB 10 0) rfl (by kernel_rfl) (by rfl) (fun K hK => ?_) AllReadyH.nil
     (refine wp_store_rowE 33 (.tmp 2) (.tmp 19) rfl w.heap.size _ rfl rfl 33 Z (by repeat (first | with_reducible exact X0.out | with_reducible refine blk_under ?_ | with_reducible refine blk_drew ?_ | with_reducible refine blk_below hbS5 (by first | omega | (simp <;> omega)) ?_ | with_reducible refine blk_below hbS4 (by first | omega | (simp <;> omega)) ?_)) (by kernel_rfl) (by rw [HZ.out]; rfl) (by simp [Value.oneCell']) (exR _ _ _) ⟨⟨rfl, rfl, rfl⟩, rfl⟩ (fun C hC hCs hC1 => ?_); refine hK.out _ _ ?_ (fun hHeld => ?_); exact SB.setRow hHeld (.inl (by simp)); clear hK K)
     (try simp only [Act.put, putS])
     refine wpAnyH_done (by kernel_rfl) ?_ _
     obtain ⟨hC1', hC2'⟩ := hC
     have HC := hide (And.intro hC1' (And.intro hC2' (And.intro hCs hC1)))
     clear hC1' hC2' hCs hC1
     go_wp2_with fail
     refine bodyPost_ret (v := .agg C) (Go.results_cell_row (by rfl) _ _ w.heap.size 33 C (0, 0) _ rfl (Go.setRow_heap _ _ Z _ _ _ (by repeat (first | with_reducible exact X0.out | with_reducible refine blk_under ?_ | with_reducible refine blk_drew ?_ | with_reducible refine blk_below hbS5 (by first | omega | (simp <;> omega)) ?_ | with_reducible refine blk_below hbS4 (by first | omega | (simp <;> omega)) ?_))) Tryz.underlying33 rfl (by rw [HC.out.1.size]; kernel_rfl)) rfl ?_
     refine ⟨C, w.heap.size + 1, _, _, _, bA, bB, rfl, ex_ok HC.out.1 HC.out.2.1 HC.out.2.2.2, ex_in (t1 := 133) (t2 := 78) (t3 := 101) (t4 := 82) (t5 := 120) (t6 := 120) (blk_setRow (by omega) (by repeat (first | with_reducible exact X1.out | with_reducible exact hLA | with_reducible exact hLB | with_reducible exact blk_new (by first | omega | (simp <;> omega)) | with_reducible refine blk_under ?_ | with_reducible refine blk_drew ?_ | with_reducible refine blk_below hbS5 (by first | omega | (simp <;> omega)) ?_ | with_reducible refine blk_below hbS4 (by first | omega | (simp <;> omega)) ?_))) (blk_setRow (by omega) (by repeat (first | with_reducible exact X1.out | with_reducible exact hLA | with_reducible exact hLB | with_reducible exact blk_new (by first | omega | (simp <;> omega)) | with_reducible refine blk_under ?_ | with_reducible refine blk_drew ?_ | with_reducible refine blk_below hbS5 (by first | omega | (simp <;> omega)) ?_ | with_reducible refine blk_below hbS4 (by first | omega | (simp <;> omega)) ?_))) (blk_setRow (by omega) (by repeat (first | with_reducible exact X1.out | with_reducible exact hLA | with_reducible exact hLB | with_reducible exact blk_new (by first | omega | (simp <;> omega)) | with_reducible refine blk_under ?_ | with_reducible refine blk_drew ?_ | with_reducible refine blk_below hbS5 (by first | omega | (simp <;> omega)) ?_ | with_reducible refine blk_below hbS4 (by first | omega | (simp <;> omega)) ?_))) (blk_setRow (by omega) (by repeat (first | with_reducible exact X1.out | with_reducible exact hLA | with_reducible exact hLB | with_reducible exact blk_new (by first | omega | (simp <;> omega)) | with_reducible refine blk_under ?_ | with_reducible refine blk_drew ?_ | with_reducible refine blk_below hbS5 (by first | omega | (simp <;> omega)) ?_ | with_reducible refine blk_below hbS4 (by first | omega | (simp <;> omega)) ?_))) (blk_setRow (by omega) (by repeat (first | with_reducible exact X1.out | with_reducible exact hLA | with_reducible exact hLB | with_reducible exact blk_new (by first | omega | (simp <;> omega)) | with_reducible refine blk_under ?_ | with_reducible refine blk_drew ?_ | with_reducible refine blk_below hbS5 (by first | omega | (simp <;> omega)) ?_ | with_reducible refine blk_below hbS4 (by first | omega | (simp <;> omega)) ?_))) (blk_setRow (by omega) (by repeat (first | with_reducible exact X1.out | with_reducible exact hLA | with_reducible exact hLB | with_reducible exact blk_new (by first | omega | (simp <;> omega)) | with_reducible refine blk_under ?_ | with_reducible refine blk_drew ?_ | with_reducible refine blk_below hbS5 (by first | omega | (simp <;> omega)) ?_ | with_reducible refine blk_below hbS4 (by first | omega | (simp <;> omega)) ?_))), below_setRow ?_ (Nat.le_refl _) _⟩
     (repeat (first | (with_reducible first | exact Below.refl _ _ | assumption | refine Below.drew ?_) | ((with_reducible first | refine Below.alloc ?_ ?_ _ | refine Below.setCell ?_ ?_ _); rotate_left; (first | omega | (simp <;> omega)))))
    refine ord_run (i := 7) #[true, true, true, false, true, true, true, true, false, false] rfl (by kernel_rfl) (by rfl) (fun K hK => ?_) ?_
    ·go_simp
     refine hK.out _ _ ?_ (fun hHeld => ?_)
     ·exact sbT
     clear hK K
     (try simp only [Act.put, putS])
     refine wpAnyH_ready (rs := [3]) (by kernel_rfl) (by simp) ?_
     refine ord_run (i := 3) (preB 8 2) rfl (by kernel_rfl) (by rfl) (fun K hK => ?_) AllReadyH.nil
     go_simp
     refine hK.out _ _ ?_ (fun hHeld => ?_)
     ·exact sbT
     clear hK K
     (try simp only [Act.put, putS])
     refine oS (i := 8) (preB 9 1) rfl hHeld ?_
     (try simp only [Act.put, putS])
     refine wpAnyH_ready (rs := [9]) (by kernel_rfl) (by simp) ?_
     refine ord_run (i := 9) (preB 10 0) rfl (by kernel_rfl) (by rfl) (fun K hK => ?_) AllReadyH.nil
     (refine wp_store_rowE 33 (.tmp 2) (.tmp 19) rfl w.heap.size _ rfl rfl 33 Z (by repeat (first | with_reducible exact X0.out | with_reducible refine blk_under ?_ | with_reducible refine blk_drew ?_ | with_reducible refine blk_below hbS5 (by first | omega | (simp <;> omega)) ?_ | with_reducible refine blk_below hbS4 (by first | omega | (simp <;> omega)) ?_)) (by kernel_rfl) (by rw [HZ.out]; rfl) (by simp [Value.oneCell']) (exR _ _ _) ⟨⟨rfl, rfl, rfl⟩, rfl⟩ (fun C hC hCs hC1 => ?_); refine hK.out _ _ ?_ (fun hHeld => ?_); exact SB.setRow hHeld (.inl (by simp)); clear hK K)
     (try simp only [Act.put, putS])
     refine wpAnyH_done (by kernel_rfl) ?_ _
     obtain ⟨hC1', hC2'⟩ := hC
     have HC := hide (And.intro hC1' (And.intro hC2' (And.intro hCs hC1)))
     clear hC1' hC2' hCs hC1
     go_wp2_with fail
     refine bodyPost_ret (v := .agg C) (Go.results_cell_row (by rfl) _ _ w.heap.size 33 C (0, 0) _ rfl (Go.setRow_heap _ _ Z _ _ _ (by repeat (first | with_reducible exact X0.out | with_reducible refine blk_under ?_ | with_reducible refine blk_drew ?_ | with_reducible refine blk_below hbS5 (by first | omega | (simp <;> omega)) ?_ | with_reducible refine blk_below hbS4 (by first | omega | (simp <;> omega)) ?_))) Tryz.underlying33 rfl (by rw [HC.out.1.size]; kernel_rfl)) rfl ?_
     refine ⟨C, w.heap.size + 1, _, _, _, bA, bB, rfl, ex_ok HC.out.1 HC.out.2.1 HC.out.2.2.2, ex_in (t1 := 133) (t2 := 78) (t3 := 101) (t4 := 82) (t5 := 120) (t6 := 120) (blk_setRow (by omega) (by repeat (first | with_reducible exact X1.out | with_reducible exact hLA | with_reducible exact hLB | with_reducible exact blk_new (by first | omega | (simp <;> omega)) | with_reducible refine blk_under ?_ | with_reducible refine blk_drew ?_ | with_reducible refine blk_below hbS5 (by first | omega | (simp <;> omega)) ?_ | with_reducible refine blk_below hbS4 (by first | omega | (simp <;> omega)) ?_))) (blk_setRow (by omega) (by repeat (first | with_reducible exact X1.out | with_reducible exact hLA | with_reducible exact hLB | with_reducible exact blk_new (by first | omega | (simp <;> omega)) | with_reducible refine blk_under ?_ | with_reducible refine blk_drew ?_ | with_reducible refine blk_below hbS5 (by first | omega | (simp <;> omega)) ?_ | with_reducible refine blk_below hbS4 (by first | omega | (simp <;> omega)) ?_))) (blk_setRow (by omega) (by repeat (first | with_reducible exact X1.out | with_reducible exact hLA | with_reducible exact hLB | with_reducible exact blk_new (by first | omega | (simp <;> omega)) | with_reducible refine blk_under ?_ | with_reducible refine blk_drew ?_ | with_reducible refine blk_below hbS5 (by first | omega | (simp <;> omega)) ?_ | with_reducible refine blk_below hbS4 (by first | omega | (simp <;> omega)) ?_))) (blk_setRow (by omega) (by repeat (first | with_reducible exact X1.out | with_reducible exact hLA | with_reducible exact hLB | with_reducible exact blk_new (by first | omega | (simp <;> omega)) | with_reducible refine blk_under ?_ | with_reducible refine blk_drew ?_ | with_reducible refine blk_below hbS5 (by first | omega | (simp <;> omega)) ?_ | with_reducible refine blk_below hbS4 (by first | omega | (simp <;> omega)) ?_))) (blk_setRow (by omega) (by repeat (first | with_reducible exact X1.out | with_reducible exact hLA | with_reducible exact hLB | with_reducible exact blk_new (by first | omega | (simp <;> omega)) | with_reducible refine blk_under ?_ | with_reducible refine blk_drew ?_ | with_reducible refine blk_below hbS5 (by first | omega | (simp <;> omega)) ?_ | with_reducible refine blk_below hbS4 (by first | omega | (simp <;> omega)) ?_))) (blk_setRow (by omega) (by repeat (first | with_reducible exact X1.out | with_reducible exact hLA | with_reducible exact hLB | with_reducible exact blk_new (by first | omega | (simp <;> omega)) | with_reducible refine blk_under ?_ | with_reducible refine blk_drew ?_ | with_reducible refine blk_below hbS5 (by first | omega | (simp <;> omega)) ?_ | with_reducible refine blk_below hbS4 (by first | omega | (simp <;> omega)) ?_))), below_setRow ?_ (Nat.le_refl _) _⟩
     (repeat (first | (with_reducible first | exact Below.refl _ _ | assumption | refine Below.drew ?_) | ((with_reducible first | refine Below.alloc ?_ ?_ _ | refine Below.setCell ?_ ?_ _); rotate_left; (first | omega | (simp <;> omega)))))
    exact AllReadyH.nil
   exact AllReadyH.nil
  exact AllReadyH.nil
 refine ord_run (i := 3) #[true, false, true, true, false, true, false, false, false, false] rfl (by kernel_rfl) (by rfl) (fun K hK => ?_) ?_
 ·go_simp
  refine hK.out _ _ ?_ (fun hHeld => ?_)
  ·exact sbT
  clear hK K
  (try simp only [Act.put, putS])
  refine wpAnyH_ready (rs := [1, 4]) (by kernel_rfl) (by simp) ?_
  refine ord_run (i := 1) #[true, true, true, true, false, true, false, false, false, false] rfl (by kernel_rfl) (by rfl) (fun K hK => ?_) ?_
  ·go_simp
   refine hK.out _ _ ?_ (fun hHeld => ?_)
   ·exact sbT
   clear hK K
   (try simp only [Act.put, putS])
   refine wpAnyH_ready (rs := [4]) (by kernel_rfl) (by simp) ?_
   refine ord_run (i := 4) (preB 6 4) rfl (by kernel_rfl) (by rfl) (fun K hK => ?_) AllReadyH.nil
   go_simp
   go_wp2_with (go_at_call 61; refine (paid_any 100000 0 (by decide) (by decide) _).mono ?_; rintro e w4 ⟨bA, rfl, hLA, hgA, hb⟩; (try simp only [World.size_drew, World.size_alloc] at hgA); have hlA := heap_lt hLA; have q4B : Below w.heap.size w w4 := qB hb; have q4z := hb.size; (try simp at q4z); have q4t : w.heap.size ≤ w4.heap.size := (by omega); have q4o := belO q4B; have hbS := hb; have hbS4 := hb; clear hb)
   refine hK.out _ _ ?_ (fun hHeld => ?_)
   ·exact sbT
   clear hK K
   (try simp only [Act.put, putS])
   refine wpAnyH_ready (rs := [6]) (by kernel_rfl) (by simp) ?_
   refine ord_run (i := 6) (preB 7 3) rfl (by kernel_rfl) (by rfl) (fun K hK => ?_) AllReadyH.nil
   go_simp
   go_wp2_with (go_at_call 61; refine (paid_any 50000 later (by decide) (by decide) _).mono ?_; rintro e w5 ⟨bB, rfl, hLB, hgB, hb⟩; (try simp only [World.size_drew, World.size_alloc] at hgB); have hlB := heap_lt hLB; have q5B : Below w.heap.size w w5 := qB hb; have q5z := hb.size; (try simp at q5z); have q5t : w.heap.size ≤ w5.heap.size := (by omega); have q5o := belO q5B; have hbS := hb; have hbS5 := hb; clear hb)
   refine hK.out _ _ ?_ (fun hHeld => ?_)
   ·exact sbT
   clear hK K
   (try simp only [Act.put, putS])
   refine wpAnyH_ready (rs := [7]) (by kernel_rfl) (by simp) ?_
   refine ord_run (i := 7) (preB 8 2) rfl (by kernel_rfl) (by rfl) (fun K hK => ?_) AllReadyH.nil
   go_simp
   refine hK.out _ _ ?_ (fun hHeld => ?_)
   ·exact sbT
   clear hK K
   (try simp only [Act.put, putS])
   refine oS (i := 8) (preB 9 1) rfl hHeld ?_
   (try simp only [Act.put, putS])
   refine wpAnyH_ready (rs := [9]) (by kernel_rfl) (by simp) ?_
   refine ord_run (i := 9) (preB 10 0) rfl (by kernel_rfl) (by rfl) (fun K hK => ?_) AllReadyH.nil
   (refine wp_store_rowE 33 (.tmp 2) (.tmp 19) rfl w.heap.size _ rfl rfl 33 Z (by repeat (first | with_reducible exact X0.out | with_reducible refine blk_under ?_ | with_reducible refine blk_drew ?_ | with_reducible refine blk_below hbS5 (by first | omega | (simp <;> omega)) ?_ | with_reducible refine blk_below hbS4 (by first | omega | (simp <;> omega)) ?_)) (by kernel_rfl) (by rw [HZ.out]; rfl) (by simp [Value.oneCell']) (exR _ _ _) ⟨⟨rfl, rfl, rfl⟩, rfl⟩ (fun C hC hCs hC1 => ?_); refine hK.out _ _ ?_ (fun hHeld => ?_); exact SB.setRow hHeld (.inl (by simp)); clear hK K)
   (try simp only [Act.put, putS])
   refine wpAnyH_done (by kernel_rfl) ?_ _
   obtain ⟨hC1', hC2'⟩ := hC
   have HC := hide (And.intro hC1' (And.intro hC2' (And.intro hCs hC1)))
   clear hC1' hC2' hCs hC1
   go_wp2_with fail
   refine bodyPost_ret (v := .agg C) (Go.results_cell_row (by rfl) _ _ w.heap.size 33 C (0, 0) _ rfl (Go.setRow_heap _ _ Z _ _ _ (by repeat (first | with_reducible exact X0.out | with_reducible refine blk_under ?_ | with_reducible refine blk_drew ?_ | with_reducible refine blk_below hbS5 (by first | omega | (simp <;> omega)) ?_ | with_reducible refine blk_below hbS4 (by first | omega | (simp <;> omega)) ?_))) Tryz.underlying33 rfl (by rw [HC.out.1.size]; kernel_rfl)) rfl ?_
   refine ⟨C, w.heap.size + 1, _, _, _, bA, bB, rfl, ex_ok HC.out.1 HC.out.2.1 HC.out.2.2.2, ex_in (t1 := 133) (t2 := 78) (t3 := 101) (t4 := 82) (t5 := 120) (t6 := 120) (blk_setRow (by omega) (by repeat (first | with_reducible exact X1.out | with_reducible exact hLA | with_reducible exact hLB | with_reducible exact blk_new (by first | omega | (simp <;> omega)) | with_reducible refine blk_under ?_ | with_reducible refine blk_drew ?_ | with_reducible refine blk_below hbS5 (by first | omega | (simp <;> omega)) ?_ | with_reducible refine blk_below hbS4 (by first | omega | (simp <;> omega)) ?_))) (blk_setRow (by omega) (by repeat (first | with_reducible exact X1.out | with_reducible exact hLA | with_reducible exact hLB | with_reducible exact blk_new (by first | omega | (simp <;> omega)) | with_reducible refine blk_under ?_ | with_reducible refine blk_drew ?_ | with_reducible refine blk_below hbS5 (by first | omega | (simp <;> omega)) ?_ | with_reducible refine blk_below hbS4 (by first | omega | (simp <;> omega)) ?_))) (blk_setRow (by omega) (by repeat (first | with_reducible exact X1.out | with_reducible exact hLA | with_reducible exact hLB | with_reducible exact blk_new (by first | omega | (simp <;> omega)) | with_reducible refine blk_under ?_ | with_reducible refine blk_drew ?_ | with_reducible refine blk_below hbS5 (by first | omega | (simp <;> omega)) ?_ | with_reducible refine blk_below hbS4 (by first | omega | (simp <;> omega)) ?_))) (blk_setRow (by omega) (by repeat (first | with_reducible exact X1.out | with_reducible exact hLA | with_reducible exact hLB | with_reducible exact blk_new (by first | omega | (simp <;> omega)) | with_reducible refine blk_under ?_ | with_reducible refine blk_drew ?_ | with_reducible refine blk_below hbS5 (by first | omega | (simp <;> omega)) ?_ | with_reducible refine blk_below hbS4 (by first | omega | (simp <;> omega)) ?_))) (blk_setRow (by omega) (by repeat (first | with_reducible exact X1.out | with_reducible exact hLA | with_reducible exact hLB | with_reducible exact blk_new (by first | omega | (simp <;> omega)) | with_reducible refine blk_under ?_ | with_reducible refine blk_drew ?_ | with_reducible refine blk_below hbS5 (by first | omega | (simp <;> omega)) ?_ | with_reducible refine blk_below hbS4 (by first | omega | (simp <;> omega)) ?_))) (blk_setRow (by omega) (by repeat (first | with_reducible exact X1.out | with_reducible exact hLA | with_reducible exact hLB | with_reducible exact blk_new (by first | omega | (simp <;> omega)) | with_reducible refine blk_under ?_ | with_reducible refine blk_drew ?_ | with_reducible refine blk_below hbS5 (by first | omega | (simp <;> omega)) ?_ | with_reducible refine blk_below hbS4 (by first | omega | (simp <;> omega)) ?_))), below_setRow ?_ (Nat.le_refl _) _⟩
   (repeat (first | (with_reducible first | exact Below.refl _ _ | assumption | refine Below.drew ?_) | ((with_reducible first | refine Below.alloc ?_ ?_ _ | refine Below.setCell ?_ ?_ _); rotate_left; (first | omega | (simp <;> omega)))))
  refine ord_run (i := 4) #[true, false, true, true, true, true, false, false, false, false] rfl (by kernel_rfl) (by rfl) (fun K hK => ?_) ?_
  ·go_simp
   go_wp2_with (go_at_call 61; refine (paid_any 100000 0 (by decide) (by decide) _).mono ?_; rintro e w4 ⟨bA, rfl, hLA, hgA, hb⟩; (try simp only [World.size_drew, World.size_alloc] at hgA); have hlA := heap_lt hLA; have q4B : Below w.heap.size w w4 := qB hb; have q4z := hb.size; (try simp at q4z); have q4t : w.heap.size ≤ w4.heap.size := (by omega); have q4o := belO q4B; have hbS := hb; have hbS4 := hb; clear hb)
   refine hK.out _ _ ?_ (fun hHeld => ?_)
   ·exact sbT
   clear hK K
   (try simp only [Act.put, putS])
   refine wpAnyH_ready (rs := [1, 6]) (by kernel_rfl) (by simp) ?_
   refine ord_run (i := 1) (preB 6 4) rfl (by kernel_rfl) (by rfl) (fun K hK => ?_) ?_
   ·go_simp
    refine hK.out _ _ ?_ (fun hHeld => ?_)
    ·exact sbT
    clear hK K
    (try simp only [Act.put, putS])
    refine wpAnyH_ready (rs := [6]) (by kernel_rfl) (by simp) ?_
    refine ord_run (i := 6) (preB 7 3) rfl (by kernel_rfl) (by rfl) (fun K hK => ?_) AllReadyH.nil
    go_simp
    go_wp2_with (go_at_call 61; refine (paid_any 50000 later (by decide) (by decide) _).mono ?_; rintro e w5 ⟨bB, rfl, hLB, hgB, hb⟩; (try simp only [World.size_drew, World.size_alloc] at hgB); have hlB := heap_lt hLB; have q5B : Below w.heap.size w w5 := qB hb; have q5z := hb.size; (try simp at q5z); have q5t : w.heap.size ≤ w5.heap.size := (by omega); have q5o := belO q5B; have hbS := hb; have hbS5 := hb; clear hb)
    refine hK.out _ _ ?_ (fun hHeld => ?_)
    ·exact sbT
    clear hK K
    (try simp only [Act.put, putS])
    refine wpAnyH_ready (rs := [7]) (by kernel_rfl) (by simp) ?_
    refine ord_run (i := 7) (preB 8 2) rfl (by kernel_rfl) (by rfl) (fun K hK => ?_) AllReadyH.nil
    go_simp
    refine hK.out _ _ ?_ (fun hHeld => ?_)
    ·exact sbT
    clear hK K
    (try simp only [Act.put, putS])
    refine oS (i := 8) (preB 9 1) rfl hHeld ?_
    (try simp only [Act.put, putS])
    refine wpAnyH_ready (rs := [9]) (by kernel_rfl) (by simp) ?_
    refine ord_run (i := 9) (preB 10 0) rfl (by kernel_rfl) (by rfl) (fun K hK => ?_) AllReadyH.nil
    (refine wp_store_rowE 33 (.tmp 2) (.tmp 19) rfl w.heap.size _ rfl rfl 33 Z (by repeat (first | with_reducible exact X0.out | with_reducible refine blk_under ?_ | with_reducible refine blk_drew ?_ | with_reducible refine blk_below hbS5 (by first | omega | (simp <;> omega)) ?_ | with_reducible refine blk_below hbS4 (by first | omega | (simp <;> omega)) ?_)) (by kernel_rfl) (by rw [HZ.out]; rfl) (by simp [Value.oneCell']) (exR _ _ _) ⟨⟨rfl, rfl, rfl⟩, rfl⟩ (fun C hC hCs hC1 => ?_); refine hK.out _ _ ?_ (fun hHeld => ?_); exact SB.setRow hHeld (.inl (by simp)); clear hK K)
    (try simp only [Act.put, putS])
    refine wpAnyH_done (by kernel_rfl) ?_ _
    obtain ⟨hC1', hC2'⟩ := hC
    have HC := hide (And.intro hC1' (And.intro hC2' (And.intro hCs hC1)))
    clear hC1' hC2' hCs hC1
    go_wp2_with fail
    refine bodyPost_ret (v := .agg C) (Go.results_cell_row (by rfl) _ _ w.heap.size 33 C (0, 0) _ rfl (Go.setRow_heap _ _ Z _ _ _ (by repeat (first | with_reducible exact X0.out | with_reducible refine blk_under ?_ | with_reducible refine blk_drew ?_ | with_reducible refine blk_below hbS5 (by first | omega | (simp <;> omega)) ?_ | with_reducible refine blk_below hbS4 (by first | omega | (simp <;> omega)) ?_))) Tryz.underlying33 rfl (by rw [HC.out.1.size]; kernel_rfl)) rfl ?_
    refine ⟨C, w.heap.size + 1, _, _, _, bA, bB, rfl, ex_ok HC.out.1 HC.out.2.1 HC.out.2.2.2, ex_in (t1 := 133) (t2 := 78) (t3 := 101) (t4 := 82) (t5 := 120) (t6 := 120) (blk_setRow (by omega) (by repeat (first | with_reducible exact X1.out | with_reducible exact hLA | with_reducible exact hLB | with_reducible exact blk_new (by first | omega | (simp <;> omega)) | with_reducible refine blk_under ?_ | with_reducible refine blk_drew ?_ | with_reducible refine blk_below hbS5 (by first | omega | (simp <;> omega)) ?_ | with_reducible refine blk_below hbS4 (by first | omega | (simp <;> omega)) ?_))) (blk_setRow (by omega) (by repeat (first | with_reducible exact X1.out | with_reducible exact hLA | with_reducible exact hLB | with_reducible exact blk_new (by first | omega | (simp <;> omega)) | with_reducible refine blk_under ?_ | with_reducible refine blk_drew ?_ | with_reducible refine blk_below hbS5 (by first | omega | (simp <;> omega)) ?_ | with_reducible refine blk_below hbS4 (by first | omega | (simp <;> omega)) ?_))) (blk_setRow (by omega) (by repeat (first | with_reducible exact X1.out | with_reducible exact hLA | with_reducible exact hLB | with_reducible exact blk_new (by first | omega | (simp <;> omega)) | with_reducible refine blk_under ?_ | with_reducible refine blk_drew ?_ | with_reducible refine blk_below hbS5 (by first | omega | (simp <;> omega)) ?_ | with_reducible refine blk_below hbS4 (by first | omega | (simp <;> omega)) ?_))) (blk_setRow (by omega) (by repeat (first | with_reducible exact X1.out | with_reducible exact hLA | with_reducible exact hLB | with_reducible exact blk_new (by first | omega | (simp <;> omega)) | with_reducible refine blk_under ?_ | with_reducible refine blk_drew ?_ | with_reducible refine blk_below hbS5 (by first | omega | (simp <;> omega)) ?_ | with_reducible refine blk_below hbS4 (by first | omega | (simp <;> omega)) ?_))) (blk_setRow (by omega) (by repeat (first | with_reducible exact X1.out | with_reducible exact hLA | with_reducible exact hLB | with_reducible exact blk_new (by first | omega | (simp <;> omega)) | with_reducible refine blk_under ?_ | with_reducible refine blk_drew ?_ | with_reducible refine blk_below hbS5 (by first | omega | (simp <;> omega)) ?_ | with_reducible refine blk_below hbS4 (by first | omega | (simp <;> omega)) ?_))) (blk_setRow (by omega) (by repeat (first | with_reducible exact X1.out | with_reducible exact hLA | with_reducible exact hLB | with_reducible exact blk_new (by first | omega | (simp <;> omega)) | with_reducible refine blk_under ?_ | with_reducible refine blk_drew ?_ | with_reducible refine blk_below hbS5 (by first | omega | (simp <;> omega)) ?_ | with_reducible refine blk_below hbS4 (by first | omega | (simp <;> omega)) ?_))), below_setRow ?_ (Nat.le_refl _) _⟩
    (repeat (first | (with_reducible first | exact Below.refl _ _ | assumption | refine Below.drew ?_) | ((with_reducible first | refine Below.alloc ?_ ?_ _ | refine Below.setCell ?_ ?_ _); rotate_left; (first | omega | (simp <;> omega)))))
   refine ord_run (i := 6) #[true, false, true, true, true, true, true, false, false, false] rfl (by kernel_rfl) (by rfl) (fun K hK => ?_) ?_
   ·go_simp
    go_wp2_with (go_at_call 61; refine (paid_any 50000 later (by decide) (by decide) _).mono ?_; rintro e w5 ⟨bB, rfl, hLB, hgB, hb⟩; (try simp only [World.size_drew, World.size_alloc] at hgB); have hlB := heap_lt hLB; have q5B : Below w.heap.size w w5 := qB hb; have q5z := hb.size; (try simp at q5z); have q5t : w.heap.size ≤ w5.heap.size := (by omega); have q5o := belO q5B; have hbS := hb; have hbS5 := hb; clear hb)
    refine hK.out _ _ ?_ (fun hHeld => ?_)
    ·exact sbT
    clear hK K
    (try simp only [Act.put, putS])
    refine wpAnyH_ready (rs := [1, 7]) (by kernel_rfl) (by simp) ?_
    refine ord_run (i := 1) (preB 7 3) rfl (by kernel_rfl) (by rfl) (fun K hK => ?_) ?_
    ·go_simp
     refine hK.out _ _ ?_ (fun hHeld => ?_)
     ·exact sbT
     clear hK K
     (try simp only [Act.put, putS])
     refine wpAnyH_ready (rs := [7]) (by kernel_rfl) (by simp) ?_
     refine ord_run (i := 7) (preB 8 2) rfl (by kernel_rfl) (by rfl) (fun K hK => ?_) AllReadyH.nil
     go_simp
     refine hK.out _ _ ?_ (fun hHeld => ?_)
     ·exact sbT
     clear hK K
     (try simp only [Act.put, putS])
     refine oS (i := 8) (preB 9 1) rfl hHeld ?_
     (try simp only [Act.put, putS])
     refine wpAnyH_ready (rs := [9]) (by kernel_rfl) (by simp) ?_
     refine ord_run (i := 9) (preB 10 0) rfl (by kernel_rfl) (by rfl) (fun K hK => ?_) AllReadyH.nil
     (refine wp_store_rowE 33 (.tmp 2) (.tmp 19) rfl w.heap.size _ rfl rfl 33 Z (by repeat (first | with_reducible exact X0.out | with_reducible refine blk_under ?_ | with_reducible refine blk_drew ?_ | with_reducible refine blk_below hbS5 (by first | omega | (simp <;> omega)) ?_ | with_reducible refine blk_below hbS4 (by first | omega | (simp <;> omega)) ?_)) (by kernel_rfl) (by rw [HZ.out]; rfl) (by simp [Value.oneCell']) (exR _ _ _) ⟨⟨rfl, rfl, rfl⟩, rfl⟩ (fun C hC hCs hC1 => ?_); refine hK.out _ _ ?_ (fun hHeld => ?_); exact SB.setRow hHeld (.inl (by simp)); clear hK K)
     (try simp only [Act.put, putS])
     refine wpAnyH_done (by kernel_rfl) ?_ _
     obtain ⟨hC1', hC2'⟩ := hC
     have HC := hide (And.intro hC1' (And.intro hC2' (And.intro hCs hC1)))
     clear hC1' hC2' hCs hC1
     go_wp2_with fail
     refine bodyPost_ret (v := .agg C) (Go.results_cell_row (by rfl) _ _ w.heap.size 33 C (0, 0) _ rfl (Go.setRow_heap _ _ Z _ _ _ (by repeat (first | with_reducible exact X0.out | with_reducible refine blk_under ?_ | with_reducible refine blk_drew ?_ | with_reducible refine blk_below hbS5 (by first | omega | (simp <;> omega)) ?_ | with_reducible refine blk_below hbS4 (by first | omega | (simp <;> omega)) ?_))) Tryz.underlying33 rfl (by rw [HC.out.1.size]; kernel_rfl)) rfl ?_
     refine ⟨C, w.heap.size + 1, _, _, _, bA, bB, rfl, ex_ok HC.out.1 HC.out.2.1 HC.out.2.2.2, ex_in (t1 := 133) (t2 := 78) (t3 := 101) (t4 := 82) (t5 := 120) (t6 := 120) (blk_setRow (by omega) (by repeat (first | with_reducible exact X1.out | with_reducible exact hLA | with_reducible exact hLB | with_reducible exact blk_new (by first | omega | (simp <;> omega)) | with_reducible refine blk_under ?_ | with_reducible refine blk_drew ?_ | with_reducible refine blk_below hbS5 (by first | omega | (simp <;> omega)) ?_ | with_reducible refine blk_below hbS4 (by first | omega | (simp <;> omega)) ?_))) (blk_setRow (by omega) (by repeat (first | with_reducible exact X1.out | with_reducible exact hLA | with_reducible exact hLB | with_reducible exact blk_new (by first | omega | (simp <;> omega)) | with_reducible refine blk_under ?_ | with_reducible refine blk_drew ?_ | with_reducible refine blk_below hbS5 (by first | omega | (simp <;> omega)) ?_ | with_reducible refine blk_below hbS4 (by first | omega | (simp <;> omega)) ?_))) (blk_setRow (by omega) (by repeat (first | with_reducible exact X1.out | with_reducible exact hLA | with_reducible exact hLB | with_reducible exact blk_new (by first | omega | (simp <;> omega)) | with_reducible refine blk_under ?_ | with_reducible refine blk_drew ?_ | with_reducible refine blk_below hbS5 (by first | omega | (simp <;> omega)) ?_ | with_reducible refine blk_below hbS4 (by first | omega | (simp <;> omega)) ?_))) (blk_setRow (by omega) (by repeat (first | with_reducible exact X1.out | with_reducible exact hLA | with_reducible exact hLB | with_reducible exact blk_new (by first | omega | (simp <;> omega)) | with_reducible refine blk_under ?_ | with_reducible refine blk_drew ?_ | with_reducible refine blk_below hbS5 (by first | omega | (simp <;> omega)) ?_ | with_reducible refine blk_below hbS4 (by first | omega | (simp <;> omega)) ?_))) (blk_setRow (by omega) (by repeat (first | with_reducible exact X1.out | with_reducible exact hLA | with_reducible exact hLB | with_reducible exact blk_new (by first | omega | (simp <;> omega)) | with_reducible refine blk_under ?_ | with_reducible refine blk_drew ?_ | with_reducible refine blk_below hbS5 (by first | omega | (simp <;> omega)) ?_ | with_reducible refine blk_below hbS4 (by first | omega | (simp <;> omega)) ?_))) (blk_setRow (by omega) (by repeat (first | with_reducible exact X1.out | with_reducible exact hLA | with_reducible exact hLB | with_reducible exact blk_new (by first | omega | (simp <;> omega)) | with_reducible refine blk_under ?_ | with_reducible refine blk_drew ?_ | with_reducible refine blk_below hbS5 (by first | omega | (simp <;> omega)) ?_ | with_reducible refine blk_below hbS4 (by first | omega | (simp <;> omega)) ?_))), below_setRow ?_ (Nat.le_refl _) _⟩
     (repeat (first | (with_reducible first | exact Below.refl _ _ | assumption | refine Below.drew ?_) | ((with_reducible first | refine Below.alloc ?_ ?_ _ | refine Below.setCell ?_ ?_ _); rotate_left; (first | omega | (simp <;> omega)))))
    refine ord_run (i := 7) #[true, false, true, true, true, true, true, true, false, false] rfl (by kernel_rfl) (by rfl) (fun K hK => ?_) ?_
    ·go_simp
     refine hK.out _ _ ?_ (fun hHeld => ?_)
     ·exact sbT
     clear hK K
     (try simp only [Act.put, putS])
     refine wpAnyH_ready (rs := [1]) (by kernel_rfl) (by simp) ?_
     refine ord_run (i := 1) (preB 8 2) rfl (by kernel_rfl) (by rfl) (fun K hK => ?_) AllReadyH.nil
     go_simp
     refine hK.out _ _ ?_ (fun hHeld => ?_)
     ·exact sbT
     clear hK K
     (try simp only [Act.put, putS])
     refine oS (i := 8) (preB 9 1) rfl hHeld ?_
     (try simp only [Act.put, putS])
     refine wpAnyH_ready (rs := [9]) (by kernel_rfl) (by simp) ?_
     refine ord_run (i := 9) (preB 10 0) rfl (by kernel_rfl) (by rfl) (fun K hK => ?_) AllReadyH.nil
     (refine wp_store_rowE 33 (.tmp 2) (.tmp 19) rfl w.heap.size _ rfl rfl 33 Z (by repeat (first | with_reducible exact X0.out | with_reducible refine blk_under ?_ | with_reducible refine blk_drew ?_ | with_reducible refine blk_below hbS5 (by first | omega | (simp <;> omega)) ?_ | with_reducible refine blk_below hbS4 (by first | omega | (simp <;> omega)) ?_)) (by kernel_rfl) (by rw [HZ.out]; rfl) (by simp [Value.oneCell']) (exR _ _ _) ⟨⟨rfl, rfl, rfl⟩, rfl⟩ (fun C hC hCs hC1 => ?_); refine hK.out _ _ ?_ (fun hHeld => ?_); exact SB.setRow hHeld (.inl (by simp)); clear hK K)
     (try simp only [Act.put, putS])
     refine wpAnyH_done (by kernel_rfl) ?_ _
     obtain ⟨hC1', hC2'⟩ := hC
     have HC := hide (And.intro hC1' (And.intro hC2' (And.intro hCs hC1)))
     clear hC1' hC2' hCs hC1
     go_wp2_with fail
     refine bodyPost_ret (v := .agg C) (Go.results_cell_row (by rfl) _ _ w.heap.size 33 C (0, 0) _ rfl (Go.setRow_heap _ _ Z _ _ _ (by repeat (first | with_reducible exact X0.out | with_reducible refine blk_under ?_ | with_reducible refine blk_drew ?_ | with_reducible refine blk_below hbS5 (by first | omega | (simp <;> omega)) ?_ | with_reducible refine blk_below hbS4 (by first | omega | (simp <;> omega)) ?_))) Tryz.underlying33 rfl (by rw [HC.out.1.size]; kernel_rfl)) rfl ?_
     refine ⟨C, w.heap.size + 1, _, _, _, bA, bB, rfl, ex_ok HC.out.1 HC.out.2.1 HC.out.2.2.2, ex_in (t1 := 133) (t2 := 78) (t3 := 101) (t4 := 82) (t5 := 120) (t6 := 120) (blk_setRow (by omega) (by repeat (first | with_reducible exact X1.out | with_reducible exact hLA | with_reducible exact hLB | with_reducible exact blk_new (by first | omega | (simp <;> omega)) | with_reducible refine blk_under ?_ | with_reducible refine blk_drew ?_ | with_reducible refine blk_below hbS5 (by first | omega | (simp <;> omega)) ?_ | with_reducible refine blk_below hbS4 (by first | omega | (simp <;> omega)) ?_))) (blk_setRow (by omega) (by repeat (first | with_reducible exact X1.out | with_reducible exact hLA | with_reducible exact hLB | with_reducible exact blk_new (by first | omega | (simp <;> omega)) | with_reducible refine blk_under ?_ | with_reducible refine blk_drew ?_ | with_reducible refine blk_below hbS5 (by first | omega | (simp <;> omega)) ?_ | with_reducible refine blk_below hbS4 (by first | omega | (simp <;> omega)) ?_))) (blk_setRow (by omega) (by repeat (first | with_reducible exact X1.out | with_reducible exact hLA | with_reducible exact hLB | with_reducible exact blk_new (by first | omega | (simp <;> omega)) | with_reducible refine blk_under ?_ | with_reducible refine blk_drew ?_ | with_reducible refine blk_below hbS5 (by first | omega | (simp <;> omega)) ?_ | with_reducible refine blk_below hbS4 (by first | omega | (simp <;> omega)) ?_))) (blk_setRow (by omega) (by repeat (first | with_reducible exact X1.out | with_reducible exact hLA | with_reducible exact hLB | with_reducible exact blk_new (by first | omega | (simp <;> omega)) | with_reducible refine blk_under ?_ | with_reducible refine blk_drew ?_ | with_reducible refine blk_below hbS5 (by first | omega | (simp <;> omega)) ?_ | with_reducible refine blk_below hbS4 (by first | omega | (simp <;> omega)) ?_))) (blk_setRow (by omega) (by repeat (first | with_reducible exact X1.out | with_reducible exact hLA | with_reducible exact hLB | with_reducible exact blk_new (by first | omega | (simp <;> omega)) | with_reducible refine blk_under ?_ | with_reducible refine blk_drew ?_ | with_reducible refine blk_below hbS5 (by first | omega | (simp <;> omega)) ?_ | with_reducible refine blk_below hbS4 (by first | omega | (simp <;> omega)) ?_))) (blk_setRow (by omega) (by repeat (first | with_reducible exact X1.out | with_reducible exact hLA | with_reducible exact hLB | with_reducible exact blk_new (by first | omega | (simp <;> omega)) | with_reducible refine blk_under ?_ | with_reducible refine blk_drew ?_ | with_reducible refine blk_below hbS5 (by first | omega | (simp <;> omega)) ?_ | with_reducible refine blk_below hbS4 (by first | omega | (simp <;> omega)) ?_))), below_setRow ?_ (Nat.le_refl _) _⟩
     (repeat (first | (with_reducible first | exact Below.refl _ _ | assumption | refine Below.drew ?_) | ((with_reducible first | refine Below.alloc ?_ ?_ _ | refine Below.setCell ?_ ?_ _); rotate_left; (first | omega | (simp <;> omega)))))
    exact AllReadyH.nil
   exact AllReadyH.nil
  exact AllReadyH.nil
 refine ord_run (i := 4) #[true, false, true, false, true, true, false, false, false, false] rfl (by kernel_rfl) (by rfl) (fun K hK => ?_) ?_
 ·go_simp
  go_wp2_with (go_at_call 61; refine (paid_any 100000 0 (by decide) (by decide) _).mono ?_; rintro e w4 ⟨bA, rfl, hLA, hgA, hb⟩; (try simp only [World.size_drew, World.size_alloc] at hgA); have hlA := heap_lt hLA; have q4B : Below w.heap.size w w4 := qB hb; have q4z := hb.size; (try simp at q4z); have q4t : w.heap.size ≤ w4.heap.size := (by omega); have q4o := belO q4B; have hbS := hb; have hbS4 := hb; clear hb)
  refine hK.out _ _ ?_ (fun hHeld => ?_)
  ·exact sbT
  clear hK K
  (try simp only [Act.put, putS])
  refine wpAnyH_ready (rs := [1, 3, 6]) (by kernel_rfl) (by simp) ?_
  refine ord_run (i := 1) #[true, true, true, false, true, true, false, false, false, false] rfl (by kernel_rfl) (by rfl) (fun K hK => ?_) ?_
  ·go_simp
   refine hK.out _ _ ?_ (fun hHeld => ?_)
   ·exact sbT
   clear hK K
   (try simp only [Act.put, putS])
   refine wpAnyH_ready (rs := [3, 6]) (by kernel_rfl) (by simp) ?_
   refine ord_run (i := 3) (preB 6 4) rfl (by kernel_rfl) (by rfl) (fun K hK => ?_) ?_
   ·go_simp
    refine hK.out _ _ ?_ (fun hHeld => ?_)
    ·exact sbT
    clear hK K
    (try simp only [Act.put, putS])
    refine wpAnyH_ready (rs := [6]) (by kernel_rfl) (by simp) ?_
    refine ord_run (i := 6) (preB 7 3) rfl (by kernel_rfl) (by rfl) (fun K hK => ?_) AllReadyH.nil
    go_simp
    go_wp2_with (go_at_call 61; refine (paid_any 50000 later (by decide) (by decide) _).mono ?_; rintro e w5 ⟨bB, rfl, hLB, hgB, hb⟩; (try simp only [World.size_drew, World.size_alloc] at hgB); have hlB := heap_lt hLB; have q5B : Below w.heap.size w w5 := qB hb; have q5z := hb.size; (try simp at q5z); have q5t : w.heap.size ≤ w5.heap.size := (by omega); have q5o := belO q5B; have hbS := hb; have hbS5 := hb; clear hb)
    refine hK.out _ _ ?_ (fun hHeld => ?_)
    ·exact sbT
    clear hK K
    (try simp only [Act.put, putS])
    refine wpAnyH_ready (rs := [7]) (by kernel_rfl) (by simp) ?_
    refine ord_run (i := 7) (preB 8 2) rfl (by kernel_rfl) (by rfl) (fun K hK => ?_) AllReadyH.nil
    go_simp
    refine hK.out _ _ ?_ (fun hHeld => ?_)
    ·exact sbT
    clear hK K
    (try simp only [Act.put, putS])
    refine oS (i := 8) (preB 9 1) rfl hHeld ?_
    (try simp only [Act.put, putS])
    refine wpAnyH_ready (rs := [9]) (by kernel_rfl) (by simp) ?_
    refine ord_run (i := 9) (preB 10 0) rfl (by kernel_rfl) (by rfl) (fun K hK => ?_) AllReadyH.nil
    (refine wp_store_rowE 33 (.tmp 2) (.tmp 19) rfl w.heap.size _ rfl rfl 33 Z (by repeat (first | with_reducible exact X0.out | with_reducible refine blk_under ?_ | with_reducible refine blk_drew ?_ | with_reducible refine blk_below hbS5 (by first | omega | (simp <;> omega)) ?_ | with_reducible refine blk_below hbS4 (by first | omega | (simp <;> omega)) ?_)) (by kernel_rfl) (by rw [HZ.out]; rfl) (by simp [Value.oneCell']) (exR _ _ _) ⟨⟨rfl, rfl, rfl⟩, rfl⟩ (fun C hC hCs hC1 => ?_); refine hK.out _ _ ?_ (fun hHeld => ?_); exact SB.setRow hHeld (.inl (by simp)); clear hK K)
    (try simp only [Act.put, putS])
    refine wpAnyH_done (by kernel_rfl) ?_ _
    obtain ⟨hC1', hC2'⟩ := hC
    have HC := hide (And.intro hC1' (And.intro hC2' (And.intro hCs hC1)))
    clear hC1' hC2' hCs hC1
    go_wp2_with fail
    refine bodyPost_ret (v := .agg C) (Go.results_cell_row (by rfl) _ _ w.heap.size 33 C (0, 0) _ rfl (Go.setRow_heap _ _ Z _ _ _ (by repeat (first | with_reducible exact X0.out | with_reducible refine blk_under ?_ | with_reducible refine blk_drew ?_ | with_reducible refine blk_below hbS5 (by first | omega | (simp <;> omega)) ?_ | with_reducible refine blk_below hbS4 (by first | omega | (simp <;> omega)) ?_))) Tryz.underlying33 rfl (by rw [HC.out.1.size]; kernel_rfl)) rfl ?_
    refine ⟨C, w.heap.size + 1, _, _, _, bA, bB, rfl, ex_ok HC.out.1 HC.out.2.1 HC.out.2.2.2, ex_in (t1 := 133) (t2 := 78) (t3 := 101) (t4 := 82) (t5 := 120) (t6 := 120) (blk_setRow (by omega) (by repeat (first | with_reducible exact X1.out | with_reducible exact hLA | with_reducible exact hLB | with_reducible exact blk_new (by first | omega | (simp <;> omega)) | with_reducible refine blk_under ?_ | with_reducible refine blk_drew ?_ | with_reducible refine blk_below hbS5 (by first | omega | (simp <;> omega)) ?_ | with_reducible refine blk_below hbS4 (by first | omega | (simp <;> omega)) ?_))) (blk_setRow (by omega) (by repeat (first | with_reducible exact X1.out | with_reducible exact hLA | with_reducible exact hLB | with_reducible exact blk_new (by first | omega | (simp <;> omega)) | with_reducible refine blk_under ?_ | with_reducible refine blk_drew ?_ | with_reducible refine blk_below hbS5 (by first | omega | (simp <;> omega)) ?_ | with_reducible refine blk_below hbS4 (by first | omega | (simp <;> omega)) ?_))) (blk_setRow (by omega) (by repeat (first | with_reducible exact X1.out | with_reducible exact hLA | with_reducible exact hLB | with_reducible exact blk_new (by first | omega | (simp <;> omega)) | with_reducible refine blk_under ?_ | with_reducible refine blk_drew ?_ | with_reducible refine blk_below hbS5 (by first | omega | (simp <;> omega)) ?_ | with_reducible refine blk_below hbS4 (by first | omega | (simp <;> omega)) ?_))) (blk_setRow (by omega) (by repeat (first | with_reducible exact X1.out | with_reducible exact hLA | with_reducible exact hLB | with_reducible exact blk_new (by first | omega | (simp <;> omega)) | with_reducible refine blk_under ?_ | with_reducible refine blk_drew ?_ | with_reducible refine blk_below hbS5 (by first | omega | (simp <;> omega)) ?_ | with_reducible refine blk_below hbS4 (by first | omega | (simp <;> omega)) ?_))) (blk_setRow (by omega) (by repeat (first | with_reducible exact X1.out | with_reducible exact hLA | with_reducible exact hLB | with_reducible exact blk_new (by first | omega | (simp <;> omega)) | with_reducible refine blk_under ?_ | with_reducible refine blk_drew ?_ | with_reducible refine blk_below hbS5 (by first | omega | (simp <;> omega)) ?_ | with_reducible refine blk_below hbS4 (by first | omega | (simp <;> omega)) ?_))) (blk_setRow (by omega) (by repeat (first | with_reducible exact X1.out | with_reducible exact hLA | with_reducible exact hLB | with_reducible exact blk_new (by first | omega | (simp <;> omega)) | with_reducible refine blk_under ?_ | with_reducible refine blk_drew ?_ | with_reducible refine blk_below hbS5 (by first | omega | (simp <;> omega)) ?_ | with_reducible refine blk_below hbS4 (by first | omega | (simp <;> omega)) ?_))), below_setRow ?_ (Nat.le_refl _) _⟩
    (repeat (first | (with_reducible first | exact Below.refl _ _ | assumption | refine Below.drew ?_) | ((with_reducible first | refine Below.alloc ?_ ?_ _ | refine Below.setCell ?_ ?_ _); rotate_left; (first | omega | (simp <;> omega)))))
   refine ord_run (i := 6) #[true, true, true, false, true, true, true, false, false, false] rfl (by kernel_rfl) (by rfl) (fun K hK => ?_) ?_
   ·go_simp
    go_wp2_with (go_at_call 61; refine (paid_any 50000 later (by decide) (by decide) _).mono ?_; rintro e w5 ⟨bB, rfl, hLB, hgB, hb⟩; (try simp only [World.size_drew, World.size_alloc] at hgB); have hlB := heap_lt hLB; have q5B : Below w.heap.size w w5 := qB hb; have q5z := hb.size; (try simp at q5z); have q5t : w.heap.size ≤ w5.heap.size := (by omega); have q5o := belO q5B; have hbS := hb; have hbS5 := hb; clear hb)
    refine hK.out _ _ ?_ (fun hHeld => ?_)
    ·exact sbT
    clear hK K
    (try simp only [Act.put, putS])
    refine wpAnyH_ready (rs := [3, 7]) (by kernel_rfl) (by simp) ?_
    refine ord_run (i := 3) (preB 7 3) rfl (by kernel_rfl) (by rfl) (fun K hK => ?_) ?_
    ·go_simp
     refine hK.out _ _ ?_ (fun hHeld => ?_)
     ·exact sbT
     clear hK K
     (try simp only [Act.put, putS])
     refine wpAnyH_ready (rs := [7]) (by kernel_rfl) (by simp) ?_
     refine ord_run (i := 7) (preB 8 2) rfl (by kernel_rfl) (by rfl) (fun K hK => ?_) AllReadyH.nil
     go_simp
     refine hK.out _ _ ?_ (fun hHeld => ?_)
     ·exact sbT
     clear hK K
     (try simp only [Act.put, putS])
     refine oS (i := 8) (preB 9 1) rfl hHeld ?_
     (try simp only [Act.put, putS])
     refine wpAnyH_ready (rs := [9]) (by kernel_rfl) (by simp) ?_
     refine ord_run (i := 9) (preB 10 0) rfl (by kernel_rfl) (by rfl) (fun K hK => ?_) AllReadyH.nil
     (refine wp_store_rowE 33 (.tmp 2) (.tmp 19) rfl w.heap.size _ rfl rfl 33 Z (by repeat (first | with_reducible exact X0.out | with_reducible refine blk_under ?_ | with_reducible refine blk_drew ?_ | with_reducible refine blk_below hbS5 (by first | omega | (simp <;> omega)) ?_ | with_reducible refine blk_below hbS4 (by first | omega | (simp <;> omega)) ?_)) (by kernel_rfl) (by rw [HZ.out]; rfl) (by simp [Value.oneCell']) (exR _ _ _) ⟨⟨rfl, rfl, rfl⟩, rfl⟩ (fun C hC hCs hC1 => ?_); refine hK.out _ _ ?_ (fun hHeld => ?_); exact SB.setRow hHeld (.inl (by simp)); clear hK K)
     (try simp only [Act.put, putS])
     refine wpAnyH_done (by kernel_rfl) ?_ _
     obtain ⟨hC1', hC2'⟩ := hC
     have HC := hide (And.intro hC1' (And.intro hC2' (And.intro hCs hC1)))
     clear hC1' hC2' hCs hC1
     go_wp2_with fail
     refine bodyPost_ret (v := .agg C) (Go.results_cell_row (by rfl) _ _ w.heap.size 33 C (0, 0) _ rfl (Go.setRow_heap _ _ Z _ _ _ (by repeat (first | with_reducible exact X0.out | with_reducible refine blk_under ?_ | with_reducible refine blk_drew ?_ | with_reducible refine blk_below hbS5 (by first | omega | (simp <;> omega)) ?_ | with_reducible refine blk_below hbS4 (by first | omega | (simp <;> omega)) ?_))) Tryz.underlying33 rfl (by rw [HC.out.1.size]; kernel_rfl)) rfl ?_
     refine ⟨C, w.heap.size + 1, _, _, _, bA, bB, rfl, ex_ok HC.out.1 HC.out.2.1 HC.out.2.2.2, ex_in (t1 := 133) (t2 := 78) (t3 := 101) (t4 := 82) (t5 := 120) (t6 := 120) (blk_setRow (by omega) (by repeat (first | with_reducible exact X1.out | with_reducible exact hLA | with_reducible exact hLB | with_reducible exact blk_new (by first | omega | (simp <;> omega)) | with_reducible refine blk_under ?_ | with_reducible refine blk_drew ?_ | with_reducible refine blk_below hbS5 (by first | omega | (simp <;> omega)) ?_ | with_reducible refine blk_below hbS4 (by first | omega | (simp <;> omega)) ?_))) (blk_setRow (by omega) (by repeat (first | with_reducible exact X1.out | with_reducible exact hLA | with_reducible exact hLB | with_reducible exact blk_new (by first | omega | (simp <;> omega)) | with_reducible refine blk_under ?_ | with_reducible refine blk_drew ?_ | with_reducible refine blk_below hbS5 (by first | omega | (simp <;> omega)) ?_ | with_reducible refine blk_below hbS4 (by first | omega | (simp <;> omega)) ?_))) (blk_setRow (by omega) (by repeat (first | with_reducible exact X1.out | with_reducible exact hLA | with_reducible exact hLB | with_reducible exact blk_new (by first | omega | (simp <;> omega)) | with_reducible refine blk_under ?_ | with_reducible refine blk_drew ?_ | with_reducible refine blk_below hbS5 (by first | omega | (simp <;> omega)) ?_ | with_reducible refine blk_below hbS4 (by first | omega | (simp <;> omega)) ?_))) (blk_setRow (by omega) (by repeat (first | with_reducible exact X1.out | with_reducible exact hLA | with_reducible exact hLB | with_reducible exact blk_new (by first | omega | (simp <;> omega)) | with_reducible refine blk_under ?_ | with_reducible refine blk_drew ?_ | with_reducible refine blk_below hbS5 (by first | omega | (simp <;> omega)) ?_ | with_reducible refine blk_below hbS4 (by first | omega | (simp <;> omega)) ?_))) (blk_setRow (by omega) (by repeat (first | with_reducible exact X1.out | with_reducible exact hLA | with_reducible exact hLB | with_reducible exact blk_new (by first | omega | (simp <;> omega)) | with_reducible refine blk_under ?_ | with_reducible refine blk_drew ?_ | with_reducible refine blk_below hbS5 (by first | omega | (simp <;> omega)) ?_ | with_reducible refine blk_below hbS4 (by first | omega | (simp <;> omega)) ?_))) (blk_setRow (by omega) (by repeat (first | with_reducible exact X1.out | with_reducible exact hLA | with_reducible exact hLB | with_reducible exact blk_new (by first | omega | (simp <;> omega)) | with_reducible refine blk_under ?_ | with_reducible refine blk_drew ?_ | with_reducible refine blk_below hbS5 (by first | omega | (simp <;> omega)) ?_ | with_reducible refine blk_below hbS4 (by first | omega | (simp <;> omega)) ?_))), below_setRow ?_ (Nat.le_refl _) _⟩
     (repeat (first | (with_reducible first | exact Below.refl _ _ | assumption | refine Below.drew ?_) | ((with_reducible first | refine Below.alloc ?_ ?_ _ | refine Below.setCell ?_ ?_ _); rotate_left; (first | omega | (simp <;> omega)))))
    refine ord_run (i := 7) #[true, true, true, false, true, true, true, true, false, false] rfl (by kernel_rfl) (by rfl) (fun K hK => ?_) ?_
    ·go_simp
     refine hK.out _ _ ?_ (fun hHeld => ?_)
     ·exact sbT
     clear hK K
     (try simp only [Act.put, putS])
     refine wpAnyH_ready (rs := [3]) (by kernel_rfl) (by simp) ?_
     refine ord_run (i := 3) (preB 8 2) rfl (by kernel_rfl) (by rfl) (fun K hK => ?_) AllReadyH.nil
     go_simp
     refine hK.out _ _ ?_ (fun hHeld => ?_)
     ·exact sbT
     clear hK K
     (try simp only [Act.put, putS])
     refine oS (i := 8) (preB 9 1) rfl hHeld ?_
     (try simp only [Act.put, putS])
     refine wpAnyH_ready (rs := [9]) (by kernel_rfl) (by simp) ?_
     refine ord_run (i := 9) (preB 10 0) rfl (by kernel_rfl) (by rfl) (fun K hK => ?_) AllReadyH.nil
     (refine wp_store_rowE 33 (.tmp 2) (.tmp 19) rfl w.heap.size _ rfl rfl 33 Z (by repeat (first | with_reducible exact X0.out | with_reducible refine blk_under ?_ | with_reducible refine blk_drew ?_ | with_reducible refine blk_below hbS5 (by first | omega | (simp <;> omega)) ?_ | with_reducible refine blk_below hbS4 (by first | omega | (simp <;> omega)) ?_)) (by kernel_rfl) (by rw [HZ.out]; rfl) (by simp [Value.oneCell']) (exR _ _ _) ⟨⟨rfl, rfl, rfl⟩, rfl⟩ (fun C hC hCs hC1 => ?_); refine hK.out _ _ ?_ (fun hHeld => ?_); exact SB.setRow hHeld (.inl (by simp)); clear hK K)
     (try simp only [Act.put, putS])
     refine wpAnyH_done (by kernel_rfl) ?_ _
     obtain ⟨hC1', hC2'⟩ := hC
     have HC := hide (And.intro hC1' (And.intro hC2' (And.intro hCs hC1)))
     clear hC1' hC2' hCs hC1
     go_wp2_with fail
     refine bodyPost_ret (v := .agg C) (Go.results_cell_row (by rfl) _ _ w.heap.size 33 C (0, 0) _ rfl (Go.setRow_heap _ _ Z _ _ _ (by repeat (first | with_reducible exact X0.out | with_reducible refine blk_under ?_ | with_reducible refine blk_drew ?_ | with_reducible refine blk_below hbS5 (by first | omega | (simp <;> omega)) ?_ | with_reducible refine blk_below hbS4 (by first | omega | (simp <;> omega)) ?_))) Tryz.underlying33 rfl (by rw [HC.out.1.size]; kernel_rfl)) rfl ?_
     refine ⟨C, w.heap.size + 1, _, _, _, bA, bB, rfl, ex_ok HC.out.1 HC.out.2.1 HC.out.2.2.2, ex_in (t1 := 133) (t2 := 78) (t3 := 101) (t4 := 82) (t5 := 120) (t6 := 120) (blk_setRow (by omega) (by repeat (first | with_reducible exact X1.out | with_reducible exact hLA | with_reducible exact hLB | with_reducible exact blk_new (by first | omega | (simp <;> omega)) | with_reducible refine blk_under ?_ | with_reducible refine blk_drew ?_ | with_reducible refine blk_below hbS5 (by first | omega | (simp <;> omega)) ?_ | with_reducible refine blk_below hbS4 (by first | omega | (simp <;> omega)) ?_))) (blk_setRow (by omega) (by repeat (first | with_reducible exact X1.out | with_reducible exact hLA | with_reducible exact hLB | with_reducible exact blk_new (by first | omega | (simp <;> omega)) | with_reducible refine blk_under ?_ | with_reducible refine blk_drew ?_ | with_reducible refine blk_below hbS5 (by first | omega | (simp <;> omega)) ?_ | with_reducible refine blk_below hbS4 (by first | omega | (simp <;> omega)) ?_))) (blk_setRow (by omega) (by repeat (first | with_reducible exact X1.out | with_reducible exact hLA | with_reducible exact hLB | with_reducible exact blk_new (by first | omega | (simp <;> omega)) | with_reducible refine blk_under ?_ | with_reducible refine blk_drew ?_ | with_reducible refine blk_below hbS5 (by first | omega | (simp <;> omega)) ?_ | with_reducible refine blk_below hbS4 (by first | omega | (simp <;> omega)) ?_))) (blk_setRow (by omega) (by repeat (first | with_reducible exact X1.out | with_reducible exact hLA | with_reducible exact hLB | with_reducible exact blk_new (by first | omega | (simp <;> omega)) | with_reducible refine blk_under ?_ | with_reducible refine blk_drew ?_ | with_reducible refine blk_below hbS5 (by first | omega | (simp <;> omega)) ?_ | with_reducible refine blk_below hbS4 (by first | omega | (simp <;> omega)) ?_))) (blk_setRow (by omega) (by repeat (first | with_reducible exact X1.out | with_reducible exact hLA | with_reducible exact hLB | with_reducible exact blk_new (by first | omega | (simp <;> omega)) | with_reducible refine blk_under ?_ | with_reducible refine blk_drew ?_ | with_reducible refine blk_below hbS5 (by first | omega | (simp <;> omega)) ?_ | with_reducible refine blk_below hbS4 (by first | omega | (simp <;> omega)) ?_))) (blk_setRow (by omega) (by repeat (first | with_reducible exact X1.out | with_reducible exact hLA | with_reducible exact hLB | with_reducible exact blk_new (by first | omega | (simp <;> omega)) | with_reducible refine blk_under ?_ | with_reducible refine blk_drew ?_ | with_reducible refine blk_below hbS5 (by first | omega | (simp <;> omega)) ?_ | with_reducible refine blk_below hbS4 (by first | omega | (simp <;> omega)) ?_))), below_setRow ?_ (Nat.le_refl _) _⟩
     (repeat (first | (with_reducible first | exact Below.refl _ _ | assumption | refine Below.drew ?_) | ((with_reducible first | refine Below.alloc ?_ ?_ _ | refine Below.setCell ?_ ?_ _); rotate_left; (first | omega | (simp <;> omega)))))
    exact AllReadyH.nil
   exact AllReadyH.nil
  refine ord_run (i := 3) #[true, false, true, true, true, true, false, false, false, false] rfl (by kernel_rfl) (by rfl) (fun K hK => ?_) ?_
  ·go_simp
   refine hK.out _ _ ?_ (fun hHeld => ?_)
   ·exact sbT
   clear hK K
   (try simp only [Act.put, putS])
   refine wpAnyH_ready (rs := [1, 6]) (by kernel_rfl) (by simp) ?_
   refine ord_run (i := 1) (preB 6 4) rfl (by kernel_rfl) (by rfl) (fun K hK => ?_) ?_
   ·go_simp
    refine hK.out _ _ ?_ (fun hHeld => ?_)
    ·exact sbT
    clear hK K
    (try simp only [Act.put, putS])
    refine wpAnyH_ready (rs := [6]) (by kernel_rfl) (by simp) ?_
    refine ord_run (i := 6) (preB 7 3) rfl (by kernel_rfl) (by rfl) (fun K hK => ?_) AllReadyH.nil
    go_simp
    go_wp2_with (go_at_call 61; refine (paid_any 50000 later (by decide) (by decide) _).mono ?_; rintro e w5 ⟨bB, rfl, hLB, hgB, hb⟩; (try simp only [World.size_drew, World.size_alloc] at hgB); have hlB := heap_lt hLB; have q5B : Below w.heap.size w w5 := qB hb; have q5z := hb.size; (try simp at q5z); have q5t : w.heap.size ≤ w5.heap.size := (by omega); have q5o := belO q5B; have hbS := hb; have hbS5 := hb; clear hb)
    refine hK.out _ _ ?_ (fun hHeld => ?_)
    ·exact sbT
    clear hK K
    (try simp only [Act.put, putS])
    refine wpAnyH_ready (rs := [7]) (by kernel_rfl) (by simp) ?_
    refine ord_run (i := 7) (preB 8 2) rfl (by kernel_rfl) (by rfl) (fun K hK => ?_) AllReadyH.nil
    go_simp
    refine hK.out _ _ ?_ (fun hHeld => ?_)
    ·exact sbT
    clear hK K
    (try simp only [Act.put, putS])
    refine oS (i := 8) (preB 9 1) rfl hHeld ?_
    (try simp only [Act.put, putS])
    refine wpAnyH_ready (rs := [9]) (by kernel_rfl) (by simp) ?_
    refine ord_run (i := 9) (preB 10 0) rfl (by kernel_rfl) (by rfl) (fun K hK => ?_) AllReadyH.nil
    (refine wp_store_rowE 33 (.tmp 2) (.tmp 19) rfl w.heap.size _ rfl rfl 33 Z (by repeat (first | with_reducible exact X0.out | with_reducible refine blk_under ?_ | with_reducible refine blk_drew ?_ | with_reducible refine blk_below hbS5 (by first | omega | (simp <;> omega)) ?_ | with_reducible refine blk_below hbS4 (by first | omega | (simp <;> omega)) ?_)) (by kernel_rfl) (by rw [HZ.out]; rfl) (by simp [Value.oneCell']) (exR _ _ _) ⟨⟨rfl, rfl, rfl⟩, rfl⟩ (fun C hC hCs hC1 => ?_); refine hK.out _ _ ?_ (fun hHeld => ?_); exact SB.setRow hHeld (.inl (by simp)); clear hK K)
    (try simp only [Act.put, putS])
    refine wpAnyH_done (by kernel_rfl) ?_ _
    obtain ⟨hC1', hC2'⟩ := hC
    have HC := hide (And.intro hC1' (And.intro hC2' (And.intro hCs hC1)))
    clear hC1' hC2' hCs hC1
    go_wp2_with fail
    refine bodyPost_ret (v := .agg C) (Go.results_cell_row (by rfl) _ _ w.heap.size 33 C (0, 0) _ rfl (Go.setRow_heap _ _ Z _ _ _ (by repeat (first | with_reducible exact X0.out | with_reducible refine blk_under ?_ | with_reducible refine blk_drew ?_ | with_reducible refine blk_below hbS5 (by first | omega | (simp <;> omega)) ?_ | with_reducible refine blk_below hbS4 (by first | omega | (simp <;> omega)) ?_))) Tryz.underlying33 rfl (by rw [HC.out.1.size]; kernel_rfl)) rfl ?_
    refine ⟨C, w.heap.size + 1, _, _, _, bA, bB, rfl, ex_ok HC.out.1 HC.out.2.1 HC.out.2.2.2, ex_in (t1 := 133) (t2 := 78) (t3 := 101) (t4 := 82) (t5 := 120) (t6 := 120) (blk_setRow (by omega) (by repeat (first | with_reducible exact X1.out | with_reducible exact hLA | with_reducible exact hLB | with_reducible exact blk_new (by first | omega | (simp <;> omega)) | with_reducible refine blk_under ?_ | with_reducible refine blk_drew ?_ | with_reducible refine blk_below hbS5 (by first | omega | (simp <;> omega)) ?_ | with_reducible refine blk_below hbS4 (by first | omega | (simp <;> omega)) ?_))) (blk_setRow (by omega) (by repeat (first | with_reducible exact X1.out | with_reducible exact hLA | with_reducible exact hLB | with_reducible exact blk_new (by first | omega | (simp <;> omega)) | with_reducible refine blk_under ?_ | with_reducible refine blk_drew ?_ | with_reducible refine blk_below hbS5 (by first | omega | (simp <;> omega)) ?_ | with_reducible refine blk_below hbS4 (by first | omega | (simp <;> omega)) ?_))) (blk_setRow (by omega) (by repeat (first | with_reducible exact X1.out | with_reducible exact hLA | with_reducible exact hLB | with_reducible exact blk_new (by first | omega | (simp <;> omega)) | with_reducible refine blk_under ?_ | with_reducible refine blk_drew ?_ | with_reducible refine blk_below hbS5 (by first | omega | (simp <;> omega)) ?_ | with_reducible refine blk_below hbS4 (by first | omega | (simp <;> omega)) ?_))) (blk_setRow (by omega) (by repeat (first | with_reducible exact X1.out | with_reducible exact hLA | with_reducible exact hLB | with_reducible exact blk_new (by first | omega | (simp <;> omega)) | with_reducible refine blk_under ?_ | with_reducible refine blk_drew ?_ | with_reducible refine blk_below hbS5 (by first | omega | (simp <;> omega)) ?_ | with_reducible refine blk_below hbS4 (by first | omega | (simp <;> omega)) ?_))) (blk_setRow (by omega) (by repeat (first | with_reducible exact X1.out | with_reducible exact hLA | with_reducible exact hLB | with_reducible exact blk_new (by first | omega | (simp <;> omega)) | with_reducible refine blk_under ?_ | with_reducible refine blk_drew ?_ | with_reducible refine blk_below hbS5 (by first | omega | (simp <;> omega)) ?_ | with_reducible refine blk_below hbS4 (by first | omega | (simp <;> omega)) ?_))) (blk_setRow (by omega) (by repeat (first | with_reducible exact X1.out | with_reducible exact hLA | with_reducible exact hLB | with_reducible exact blk_new (by first | omega | (simp <;> omega)) | with_reducible refine blk_under ?_ | with_reducible refine blk_drew ?_ | with_reducible refine blk_below hbS5 (by first | omega | (simp <;> omega)) ?_ | with_reducible refine blk_below hbS4 (by first | omega | (simp <;> omega)) ?_))), below_setRow ?_ (Nat.le_refl _) _⟩
    (repeat (first | (with_reducible first | exact Below.refl _ _ | assumption | refine Below.drew ?_) | ((with_reducible first | refine Below.alloc ?_ ?_ _ | refine Below.setCell ?_ ?_ _); rotate_left; (first | omega | (simp <;> omega)))))
   refine ord_run (i := 6) #[true, false, true, true, true, true, true, false, false, false] rfl (by kernel_rfl) (by rfl) (fun K hK => ?_) ?_
   ·go_simp
    go_wp2_with (go_at_call 61; refine (paid_any 50000 later (by decide) (by decide) _).mono ?_; rintro e w5 ⟨bB, rfl, hLB, hgB, hb⟩; (try simp only [World.size_drew, World.size_alloc] at hgB); have hlB := heap_lt hLB; have q5B : Below w.heap.size w w5 := qB hb; have q5z := hb.size; (try simp at q5z); have q5t : w.heap.size ≤ w5.heap.size := (by omega); have q5o := belO q5B; have hbS := hb; have hbS5 := hb; clear hb)
    refine hK.out _ _ ?_ (fun hHeld => ?_)
    ·exact sbT
    clear hK K
    (try simp only [Act.put, putS])
    refine wpAnyH_ready (rs := [1, 7]) (by kernel_rfl) (by simp) ?_
    refine ord_run (i := 1) (preB 7 3) rfl (by kernel_rfl) (by rfl) (fun K hK => ?_) ?_
    ·go_simp
     refine hK.out _ _ ?_ (fun hHeld => ?_)
     ·exact sbT
     clear hK K
     (try simp only [Act.put, putS])
     refine wpAnyH_ready (rs := [7]) (by kernel_rfl) (by simp) ?_
     refine ord_run (i := 7) (preB 8 2) rfl (by kernel_rfl) (by rfl) (fun K hK => ?_) AllReadyH.nil
     go_simp
     refine hK.out _ _ ?_ (fun hHeld => ?_)
     ·exact sbT
     clear hK K
     (try simp only [Act.put, putS])
     refine oS (i := 8) (preB 9 1) rfl hHeld ?_
     (try simp only [Act.put, putS])
     refine wpAnyH_ready (rs := [9]) (by kernel_rfl) (by simp) ?_
     refine ord_run (i := 9) (preB 10 0) rfl (by kernel_rfl) (by rfl) (fun K hK => ?_) AllReadyH.nil
     (refine wp_store_rowE 33 (.tmp 2) (.tmp 19) rfl w.heap.size _ rfl rfl 33 Z (by repeat (first | with_reducible exact X0.out | with_reducible refine blk_under ?_ | with_reducible refine blk_drew ?_ | with_reducible refine blk_below hbS5 (by first | omega | (simp <;> omega)) ?_ | with_reducible refine blk_below hbS4 (by first | omega | (simp <;> omega)) ?_)) (by kernel_rfl) (by rw [HZ.out]; rfl) (by simp [Value.oneCell']) (exR _ _ _) ⟨⟨rfl, rfl, rfl⟩, rfl⟩ (fun C hC hCs hC1 => ?_); refine hK.out _ _ ?_ (fun hHeld => ?_); exact SB.setRow hHeld (.inl (by simp)); clear hK K)
     (try simp only [Act.put, putS])
     refine wpAnyH_done (by kernel_rfl) ?_ _
     obtain ⟨hC1', hC2'⟩ := hC
     have HC := hide (And.intro hC1' (And.intro hC2' (And.intro hCs hC1)))
     clear hC1' hC2' hCs hC1
     go_wp2_with fail
     refine bodyPost_ret (v := .agg C) (Go.results_cell_row (by rfl) _ _ w.heap.size 33 C (0, 0) _ rfl (Go.setRow_heap _ _ Z _ _ _ (by repeat (first | with_reducible exact X0.out | with_reducible refine blk_under ?_ | with_reducible refine blk_drew ?_ | with_reducible refine blk_below hbS5 (by first | omega | (simp <;> omega)) ?_ | with_reducible refine blk_below hbS4 (by first | omega | (simp <;> omega)) ?_))) Tryz.underlying33 rfl (by rw [HC.out.1.size]; kernel_rfl)) rfl ?_
     refine ⟨C, w.heap.size + 1, _, _, _, bA, bB, rfl, ex_ok HC.out.1 HC.out.2.1 HC.out.2.2.2, ex_in (t1 := 133) (t2 := 78) (t3 := 101) (t4 := 82) (t5 := 120) (t6 := 120) (blk_setRow (by omega) (by repeat (first | with_reducible exact X1.out | with_reducible exact hLA | with_reducible exact hLB | with_reducible exact blk_new (by first | omega | (simp <;> omega)) | with_reducible refine blk_under ?_ | with_reducible refine blk_drew ?_ | with_reducible refine blk_below hbS5 (by first | omega | (simp <;> omega)) ?_ | with_reducible refine blk_below hbS4 (by first | omega | (simp <;> omega)) ?_))) (blk_setRow (by omega) (by repeat (first | with_reducible exact X1.out | with_reducible exact hLA | with_reducible exact hLB | with_reducible exact blk_new (by first | omega | (simp <;> omega)) | with_reducible refine blk_under ?_ | with_reducible refine blk_drew ?_ | with_reducible refine blk_below hbS5 (by first | omega | (simp <;> omega)) ?_ | with_reducible refine blk_below hbS4 (by first | omega | (simp <;> omega)) ?_))) (blk_setRow (by omega) (by repeat (first | with_reducible exact X1.out | with_reducible exact hLA | with_reducible exact hLB | with_reducible exact blk_new (by first | omega | (simp <;> omega)) | with_reducible refine blk_under ?_ | with_reducible refine blk_drew ?_ | with_reducible refine blk_below hbS5 (by first | omega | (simp <;> omega)) ?_ | with_reducible refine blk_below hbS4 (by first | omega | (simp <;> omega)) ?_))) (blk_setRow (by omega) (by repeat (first | with_reducible exact X1.out | with_reducible exact hLA | with_reducible exact hLB | with_reducible exact blk_new (by first | omega | (simp <;> omega)) | with_reducible refine blk_under ?_ | with_reducible refine blk_drew ?_ | with_reducible refine blk_below hbS5 (by first | omega | (simp <;> omega)) ?_ | with_reducible refine blk_below hbS4 (by first | omega | (simp <;> omega)) ?_))) (blk_setRow (by omega) (by repeat (first | with_reducible exact X1.out | with_reducible exact hLA | with_reducible exact hLB | with_reducible exact blk_new (by first | omega | (simp <;> omega)) | with_reducible refine blk_under ?_ | with_reducible refine blk_drew ?_ | with_reducible refine blk_below hbS5 (by first | omega | (simp <;> omega)) ?_ | with_reducible refine blk_below hbS4 (by first | omega | (simp <;> omega)) ?_))) (blk_setRow (by omega) (by repeat (first | with_reducible exact X1.out | with_reducible exact hLA | with_reducible exact hLB | with_reducible exact blk_new (by first | omega | (simp <;> omega)) | with_reducible refine blk_under ?_ | with_reducible refine blk_drew ?_ | with_reducible refine blk_below hbS5 (by first | omega | (simp <;> omega)) ?_ | with_reducible refine blk_below hbS4 (by first | omega | (simp <;> omega)) ?_))), below_setRow ?_ (Nat.le_refl _) _⟩
     (repeat (first | (with_reducible first | exact Below.refl _ _ | assumption | refine Below.drew ?_) | ((with_reducible first | refine Below.alloc ?_ ?_ _ | refine Below.setCell ?_ ?_ _); rotate_left; (first | omega | (simp <;> omega)))))
    refine ord_run (i := 7) #[true, false, true, true, true, true, true, true, false, false] rfl (by kernel_rfl) (by rfl) (fun K hK => ?_) ?_
    ·go_simp
     refine hK.out _ _ ?_ (fun hHeld => ?_)
     ·exact sbT
     clear hK K
     (try simp only [Act.put, putS])
     refine wpAnyH_ready (rs := [1]) (by kernel_rfl) (by simp) ?_
     refine ord_run (i := 1) (preB 8 2) rfl (by kernel_rfl) (by rfl) (fun K hK => ?_) AllReadyH.nil
     go_simp
     refine hK.out _ _ ?_ (fun hHeld => ?_)
     ·exact sbT
     clear hK K
     (try simp only [Act.put, putS])
     refine oS (i := 8) (preB 9 1) rfl hHeld ?_
     (try simp only [Act.put, putS])
     refine wpAnyH_ready (rs := [9]) (by kernel_rfl) (by simp) ?_
     refine ord_run (i := 9) (preB 10 0) rfl (by kernel_rfl) (by rfl) (fun K hK => ?_) AllReadyH.nil
     (refine wp_store_rowE 33 (.tmp 2) (.tmp 19) rfl w.heap.size _ rfl rfl 33 Z (by repeat (first | with_reducible exact X0.out | with_reducible refine blk_under ?_ | with_reducible refine blk_drew ?_ | with_reducible refine blk_below hbS5 (by first | omega | (simp <;> omega)) ?_ | with_reducible refine blk_below hbS4 (by first | omega | (simp <;> omega)) ?_)) (by kernel_rfl) (by rw [HZ.out]; rfl) (by simp [Value.oneCell']) (exR _ _ _) ⟨⟨rfl, rfl, rfl⟩, rfl⟩ (fun C hC hCs hC1 => ?_); refine hK.out _ _ ?_ (fun hHeld => ?_); exact SB.setRow hHeld (.inl (by simp)); clear hK K)
     (try simp only [Act.put, putS])
     refine wpAnyH_done (by kernel_rfl) ?_ _
     obtain ⟨hC1', hC2'⟩ := hC
     have HC := hide (And.intro hC1' (And.intro hC2' (And.intro hCs hC1)))
     clear hC1' hC2' hCs hC1
     go_wp2_with fail
     refine bodyPost_ret (v := .agg C) (Go.results_cell_row (by rfl) _ _ w.heap.size 33 C (0, 0) _ rfl (Go.setRow_heap _ _ Z _ _ _ (by repeat (first | with_reducible exact X0.out | with_reducible refine blk_under ?_ | with_reducible refine blk_drew ?_ | with_reducible refine blk_below hbS5 (by first | omega | (simp <;> omega)) ?_ | with_reducible refine blk_below hbS4 (by first | omega | (simp <;> omega)) ?_))) Tryz.underlying33 rfl (by rw [HC.out.1.size]; kernel_rfl)) rfl ?_
     refine ⟨C, w.heap.size + 1, _, _, _, bA, bB, rfl, ex_ok HC.out.1 HC.out.2.1 HC.out.2.2.2, ex_in (t1 := 133) (t2 := 78) (t3 := 101) (t4 := 82) (t5 := 120) (t6 := 120) (blk_setRow (by omega) (by repeat (first | with_reducible exact X1.out | with_reducible exact hLA | with_reducible exact hLB | with_reducible exact blk_new (by first | omega | (simp <;> omega)) | with_reducible refine blk_under ?_ | with_reducible refine blk_drew ?_ | with_reducible refine blk_below hbS5 (by first | omega | (simp <;> omega)) ?_ | with_reducible refine blk_below hbS4 (by first | omega | (simp <;> omega)) ?_))) (blk_setRow (by omega) (by repeat (first | with_reducible exact X1.out | with_reducible exact hLA | with_reducible exact hLB | with_reducible exact blk_new (by first | omega | (simp <;> omega)) | with_reducible refine blk_under ?_ | with_reducible refine blk_drew ?_ | with_reducible refine blk_below hbS5 (by first | omega | (simp <;> omega)) ?_ | with_reducible refine blk_below hbS4 (by first | omega | (simp <;> omega)) ?_))) (blk_setRow (by omega) (by repeat (first | with_reducible exact X1.out | with_reducible exact hLA | with_reducible exact hLB | with_reducible exact blk_new (by first | omega | (simp <;> omega)) | with_reducible refine blk_under ?_ | with_reducible refine blk_drew ?_ | with_reducible refine blk_below hbS5 (by first | omega | (simp <;> omega)) ?_ | with_reducible refine blk_below hbS4 (by first | omega | (simp <;> omega)) ?_))) (blk_setRow (by omega) (by repeat (first | with_reducible exact X1.out | with_reducible exact hLA | with_reducible exact hLB | with_reducible exact blk_new (by first | omega | (simp <;> omega)) | with_reducible refine blk_under ?_ | with_reducible refine blk_drew ?_ | with_reducible refine blk_below hbS5 (by first | omega | (simp <;> omega)) ?_ | with_reducible refine blk_below hbS4 (by first | omega | (simp <;> omega)) ?_))) (blk_setRow (by omega) (by repeat (first | with_reducible exact X1.out | with_reducible exact hLA | with_reducible exact hLB | with_reducible exact blk_new (by first | omega | (simp <;> omega)) | with_reducible refine blk_under ?_ | with_reducible refine blk_drew ?_ | with_reducible refine blk_below hbS5 (by first | omega | (simp <;> omega)) ?_ | with_reducible refine blk_below hbS4 (by first | omega | (simp <;> omega)) ?_))) (blk_setRow (by omega) (by repeat (first | with_reducible exact X1.out | with_reducible exact hLA | with_reducible exact hLB | with_reducible exact blk_new (by first | omega | (simp <;> omega)) | with_reducible refine blk_under ?_ | with_reducible refine blk_drew ?_ | with_reducible refine blk_below hbS5 (by first | omega | (simp <;> omega)) ?_ | with_reducible refine blk_below hbS4 (by first | omega | (simp <;> omega)) ?_))), below_setRow ?_ (Nat.le_refl _) _⟩
     (repeat (first | (with_reducible first | exact Below.refl _ _ | assumption | refine Below.drew ?_) | ((with_reducible first | refine Below.alloc ?_ ?_ _ | refine Below.setCell ?_ ?_ _); rotate_left; (first | omega | (simp <;> omega)))))
    exact AllReadyH.nil
   exact AllReadyH.nil
  refine ord_run (i := 6) #[true, false, true, false, true, true, true, false, false, false] rfl (by kernel_rfl) (by rfl) (fun K hK => ?_) ?_
  ·go_simp
   go_wp2_with (go_at_call 61; refine (paid_any 50000 later (by decide) (by decide) _).mono ?_; rintro e w5 ⟨bB, rfl, hLB, hgB, hb⟩; (try simp only [World.size_drew, World.size_alloc] at hgB); have hlB := heap_lt hLB; have q5B : Below w.heap.size w w5 := qB hb; have q5z := hb.size; (try simp at q5z); have q5t : w.heap.size ≤ w5.heap.size := (by omega); have q5o := belO q5B; have hbS := hb; have hbS5 := hb; clear hb)
   refine hK.out _ _ ?_ (fun hHeld => ?_)
   ·exact sbT
   clear hK K
   (try simp only [Act.put, putS])
   refine wpAnyH_ready (rs := [1, 3, 7]) (by kernel_rfl) (by simp) ?_
   refine ord_run (i := 1) #[true, true, true, false, true, true, true, false, false, false] rfl (by kernel_rfl) (by rfl) (fun K hK => ?_) ?_
   ·go_simp
    refine hK.out _ _ ?_ (fun hHeld => ?_)
    ·exact sbT
    clear hK K
    (try simp only [Act.put, putS])
    refine wpAnyH_ready (rs := [3, 7]) (by kernel_rfl) (by simp) ?_
    refine ord_run (i := 3) (preB 7 3) rfl (by kernel_rfl) (by rfl) (fun K hK => ?_) ?_
    ·go_simp
     refine hK.out _ _ ?_ (fun hHeld => ?_)
     ·exact sbT
     clear hK K
     (try simp only [Act.put, putS])
     refine wpAnyH_ready (rs := [7]) (by kernel_rfl) (by simp) ?_
     refine ord_run (i := 7) (preB 8 2) rfl (by kernel_rfl) (by rfl) (fun K hK => ?_) AllReadyH.nil
     go_simp
     refine hK.out _ _ ?_ (fun hHeld => ?_)
     ·exact sbT
     clear hK K
     (try simp only [Act.put, putS])
     refine oS (i := 8) (preB 9 1) rfl hHeld ?_
     (try simp only [Act.put, putS])
     refine wpAnyH_ready (rs := [9]) (by kernel_rfl) (by simp) ?_
     refine ord_run (i := 9) (preB 10 0) rfl (by kernel_rfl) (by rfl) (fun K hK => ?_) AllReadyH.nil
     (refine wp_store_rowE 33 (.tmp 2) (.tmp 19) rfl w.heap.size _ rfl rfl 33 Z (by repeat (first | with_reducible exact X0.out | with_reducible refine blk_under ?_ | with_reducible refine blk_drew ?_ | with_reducible refine blk_below hbS5 (by first | omega | (simp <;> omega)) ?_ | with_reducible refine blk_below hbS4 (by first | omega | (simp <;> omega)) ?_)) (by kernel_rfl) (by rw [HZ.out]; rfl) (by simp [Value.oneCell']) (exR _ _ _) ⟨⟨rfl, rfl, rfl⟩, rfl⟩ (fun C hC hCs hC1 => ?_); refine hK.out _ _ ?_ (fun hHeld => ?_); exact SB.setRow hHeld (.inl (by simp)); clear hK K)
     (try simp only [Act.put, putS])
     refine wpAnyH_done (by kernel_rfl) ?_ _
     obtain ⟨hC1', hC2'⟩ := hC
     have HC := hide (And.intro hC1' (And.intro hC2' (And.intro hCs hC1)))
     clear hC1' hC2' hCs hC1
     go_wp2_with fail
     refine bodyPost_ret (v := .agg C) (Go.results_cell_row (by rfl) _ _ w.heap.size 33 C (0, 0) _ rfl (Go.setRow_heap _ _ Z _ _ _ (by repeat (first | with_reducible exact X0.out | with_reducible refine blk_under ?_ | with_reducible refine blk_drew ?_ | with_reducible refine blk_below hbS5 (by first | omega | (simp <;> omega)) ?_ | with_reducible refine blk_below hbS4 (by first | omega | (simp <;> omega)) ?_))) Tryz.underlying33 rfl (by rw [HC.out.1.size]; kernel_rfl)) rfl ?_
     refine ⟨C, w.heap.size + 1, _, _, _, bA, bB, rfl, ex_ok HC.out.1 HC.out.2.1 HC.out.2.2.2, ex_in (t1 := 133) (t2 := 78) (t3 := 101) (t4 := 82) (t5 := 120) (t6 := 120) (blk_setRow (by omega) (by repeat (first | with_reducible exact X1.out | with_reducible exact hLA | with_reducible exact hLB | with_reducible exact blk_new (by first | omega | (simp <;> omega)) | with_reducible refine blk_under ?_ | with_reducible refine blk_drew ?_ | with_reducible refine blk_below hbS5 (by first | omega | (simp <;> omega)) ?_ | with_reducible refine blk_below hbS4 (by first | omega | (simp <;> omega)) ?_))) (blk_setRow (by omega) (by repeat (first | with_reducible exact X1.out | with_reducible exact hLA | with_reducible exact hLB | with_reducible exact blk_new (by first | omega | (simp <;> omega)) | with_reducible refine blk_under ?_ | with_reducible refine blk_drew ?_ | with_reducible refine blk_below hbS5 (by first | omega | (simp <;> omega)) ?_ | with_reducible refine blk_below hbS4 (by first | omega | (simp <;> omega)) ?_))) (blk_setRow (by omega) (by repeat (first | with_reducible exact X1.out | with_reducible exact hLA | with_reducible exact hLB | with_reducible exact blk_new (by first | omega | (simp <;> omega)) | with_reducible refine blk_under ?_ | with_reducible refine blk_drew ?_ | with_reducible refine blk_below hbS5 (by first | omega | (simp <;> omega)) ?_ | with_reducible refine blk_below hbS4 (by first | omega | (simp <;> omega)) ?_))) (blk_setRow (by omega) (by repeat (first | with_reducible exact X1.out | with_reducible exact hLA | with_reducible exact hLB | with_reducible exact blk_new (by first | omega | (simp <;> omega)) | with_reducible refine blk_under ?_ | with_reducible refine blk_drew ?_ | with_reducible refine blk_below hbS5 (by first | omega | (simp <;> omega)) ?_ | with_reducible refine blk_below hbS4 (by first | omega | (simp <;> omega)) ?_))) (blk_setRow (by omega) (by repeat (first | with_reducible exact X1.out | with_reducible exact hLA | with_reducible exact hLB | with_reducible exact blk_new (by first | omega | (simp <;> omega)) | with_reducible refine blk_under ?_ | with_reducible refine blk_drew ?_ | with_reducible refine blk_below hbS5 (by first | omega | (simp <;> omega)) ?_ | with_reducible refine blk_below hbS4 (by first | omega | (simp <;> omega)) ?_))) (blk_setRow (by omega) (by repeat (first | with_reducible exact X1.out | with_reducible exact hLA | with_reducible exact hLB | with_reducible exact blk_new (by first | omega | (simp <;> omega)) | with_reducible refine blk_under ?_ | with_reducible refine blk_drew ?_ | with_reducible refine blk_below hbS5 (by first | omega | (simp <;> omega)) ?_ | with_reducible refine blk_below hbS4 (by first | omega | (simp <;> omega)) ?_))), below_setRow ?_ (Nat.le_refl _) _⟩
     (repeat (first | (with_reducible first | exact Below.refl _ _ | assumption | refine Below.drew ?_) | ((with_reducible first | refine Below.alloc ?_ ?_ _ | refine Below.setCell ?_ ?_ _); rotate_left; (first | omega | (simp <;> omega)))))
    refine ord_run (i := 7) #[true, true, true, false, true, true, true, true, false, false] rfl (by kernel_rfl) (by rfl) (fun K hK => ?_) ?_
    ·go_simp
     refine hK.out _ _ ?_ (fun hHeld => ?_)
     ·exact sbT
     clear hK K
     (try simp only [Act.put, putS])
     refine wpAnyH_ready (rs := [3]) (by kernel_rfl) (by simp) ?_
     refine ord_run (i := 3) (preB 8 2) rfl (by kernel_rfl) (by rfl) (fun K hK => ?_) AllReadyH.nil
     go_simp
     refine hK.out _ _ ?_ (fun hHeld => ?_)
     ·exact sbT
     clear hK K
     (try simp only [Act.put, putS])
     refine oS (i := 8) (preB 9 1) rfl hHeld ?_
     (try simp only [Act.put, putS])
     refine wpAnyH_ready (rs := [9]) (by kernel_rfl) (by simp) ?_
     refine ord_run (i := 9) (preB 10 0) rfl (by kernel_rfl) (by rfl) (fun K hK => ?_) AllReadyH.nil
     (refine wp_store_rowE 33 (.tmp 2) (.tmp 19) rfl w.heap.size _ rfl rfl 33 Z (by repeat (first | with_reducible exact X0.out | with_reducible refine blk_under ?_ | with_reducible refine blk_drew ?_ | with_reducible refine blk_below hbS5 (by first | omega | (simp <;> omega)) ?_ | with_reducible refine blk_below hbS4 (by first | omega | (simp <;> omega)) ?_)) (by kernel_rfl) (by rw [HZ.out]; rfl) (by simp [Value.oneCell']) (exR _ _ _) ⟨⟨rfl, rfl, rfl⟩, rfl⟩ (fun C hC hCs hC1 => ?_); refine hK.out _ _ ?_ (fun hHeld => ?_); exact SB.setRow hHeld (.inl (by simp)); clear hK K)
     (try simp only [Act.put, putS])
     refine wpAnyH_done (by kernel_rfl) ?_ _
     obtain ⟨hC1', hC2'⟩ := hC
     have HC := hide (And.intro hC1' (And.intro hC2' (And.intro hCs hC1)))
     clear hC1' hC2' hCs hC1
     go_wp2_with fail
     refine bodyPost_ret (v := .agg C) (Go.results_cell_row (by rfl) _ _ w.heap.size 33 C (0, 0) _ rfl (Go.setRow_heap _ _ Z _ _ _ (by repeat (first | with_reducible exact X0.out | with_reducible refine blk_under ?_ | with_reducible refine blk_drew ?_ | with_reducible refine blk_below hbS5 (by first | omega | (simp <;> omega)) ?_ | with_reducible refine blk_below hbS4 (by first | omega | (simp <;> omega)) ?_))) Tryz.underlying33 rfl (by rw [HC.out.1.size]; kernel_rfl)) rfl ?_
     refine ⟨C, w.heap.size + 1, _, _, _, bA, bB, rfl, ex_ok HC.out.1 HC.out.2.1 HC.out.2.2.2, ex_in (t1 := 133) (t2 := 78) (t3 := 101) (t4 := 82) (t5 := 120) (t6 := 120) (blk_setRow (by omega) (by repeat (first | with_reducible exact X1.out | with_reducible exact hLA | with_reducible exact hLB | with_reducible exact blk_new (by first | omega | (simp <;> omega)) | with_reducible refine blk_under ?_ | with_reducible refine blk_drew ?_ | with_reducible refine blk_below hbS5 (by first | omega | (simp <;> omega)) ?_ | with_reducible refine blk_below hbS4 (by first | omega | (simp <;> omega)) ?_))) (blk_setRow (by omega) (by repeat (first | with_reducible exact X1.out | with_reducible exact hLA | with_reducible exact hLB | with_reducible exact blk_new (by first | omega | (simp <;> omega)) | with_reducible refine blk_under ?_ | with_reducible refine blk_drew ?_ | with_reducible refine blk_below hbS5 (by first | omega | (simp <;> omega)) ?_ | with_reducible refine blk_below hbS4 (by first | omega | (simp <;> omega)) ?_))) (blk_setRow (by omega) (by repeat (first | with_reducible exact X1.out | with_reducible exact hLA | with_reducible exact hLB | with_reducible exact blk_new (by first | omega | (simp <;> omega)) | with_reducible refine blk_under ?_ | with_reducible refine blk_drew ?_ | with_reducible refine blk_below hbS5 (by first | omega | (simp <;> omega)) ?_ | with_reducible refine blk_below hbS4 (by first | omega | (simp <;> omega)) ?_))) (blk_setRow (by omega) (by repeat (first | with_reducible exact X1.out | with_reducible exact hLA | with_reducible exact hLB | with_reducible exact blk_new (by first | omega | (simp <;> omega)) | with_reducible refine blk_under ?_ | with_reducible refine blk_drew ?_ | with_reducible refine blk_below hbS5 (by first | omega | (simp <;> omega)) ?_ | with_reducible refine blk_below hbS4 (by first | omega | (simp <;> omega)) ?_))) (blk_setRow (by omega) (by repeat (first | with_reducible exact X1.out | with_reducible exact hLA | with_reducible exact hLB | with_reducible exact blk_new (by first | omega | (simp <;> omega)) | with_reducible refine blk_under ?_ | with_reducible refine blk_drew ?_ | with_reducible refine blk_below hbS5 (by first | omega | (simp <;> omega)) ?_ | with_reducible refine blk_below hbS4 (by first | omega | (simp <;> omega)) ?_))) (blk_setRow (by omega) (by repeat (first | with_reducible exact X1.out | with_reducible exact hLA | with_reducible exact hLB | with_reducible exact blk_new (by first | omega | (simp <;> omega)) | with_reducible refine blk_under ?_ | with_reducible refine blk_drew ?_ | with_reducible refine blk_below hbS5 (by first | omega | (simp <;> omega)) ?_ | with_reducible refine blk_below hbS4 (by first | omega | (simp <;> omega)) ?_))), below_setRow ?_ (Nat.le_refl _) _⟩
     (repeat (first | (with_reducible first | exact Below.refl _ _ | assumption | refine Below.drew ?_) | ((with_reducible first | refine Below.alloc ?_ ?_ _ | refine Below.setCell ?_ ?_ _); rotate_left; (first | omega | (simp <;> omega)))))
    exact AllReadyH.nil
   refine ord_run (i := 3) #[true, false, true, true, true, true, true, false, false, false] rfl (by kernel_rfl) (by rfl) (fun K hK => ?_) ?_
   ·go_simp
    refine hK.out _ _ ?_ (fun hHeld => ?_)
    ·exact sbT
    clear hK K
    (try simp only [Act.put, putS])
    refine wpAnyH_ready (rs := [1, 7]) (by kernel_rfl) (by simp) ?_
    refine ord_run (i := 1) (preB 7 3) rfl (by kernel_rfl) (by rfl) (fun K hK => ?_) ?_
    ·go_simp
     refine hK.out _ _ ?_ (fun hHeld => ?_)
     ·exact sbT
     clear hK K
     (try simp only [Act.put, putS])
     refine wpAnyH_ready (rs := [7]) (by kernel_rfl) (by simp) ?_
     refine ord_run (i := 7) (preB 8 2) rfl (by kernel_rfl) (by rfl) (fun K hK => ?_) AllReadyH.nil
     go_simp
     refine hK.out _ _ ?_ (fun hHeld => ?_)
     ·exact sbT
     clear hK K
     (try simp only [Act.put, putS])
     refine oS (i := 8) (preB 9 1) rfl hHeld ?_
     (try simp only [Act.put, putS])
     refine wpAnyH_ready (rs := [9]) (by kernel_rfl) (by simp) ?_
     refine ord_run (i := 9) (preB 10 0) rfl (by kernel_rfl) (by rfl) (fun K hK => ?_) AllReadyH.nil
     (refine wp_store_rowE 33 (.tmp 2) (.tmp 19) rfl w.heap.size _ rfl rfl 33 Z (by repeat (first | with_reducible exact X0.out | with_reducible refine blk_under ?_ | with_reducible refine blk_drew ?_ | with_reducible refine blk_below hbS5 (by first | omega | (simp <;> omega)) ?_ | with_reducible refine blk_below hbS4 (by first | omega | (simp <;> omega)) ?_)) (by kernel_rfl) (by rw [HZ.out]; rfl) (by simp [Value.oneCell']) (exR _ _ _) ⟨⟨rfl, rfl, rfl⟩, rfl⟩ (fun C hC hCs hC1 => ?_); refine hK.out _ _ ?_ (fun hHeld => ?_); exact SB.setRow hHeld (.inl (by simp)); clear hK K)
     (try simp only [Act.put, putS])
     refine wpAnyH_done (by kernel_rfl) ?_ _
     obtain ⟨hC1', hC2'⟩ := hC
     have HC := hide (And.intro hC1' (And.intro hC2' (And.intro hCs hC1)))
     clear hC1' hC2' hCs hC1
     go_wp2_with fail
     refine bodyPost_ret (v := .agg C) (Go.results_cell_row (by rfl) _ _ w.heap.size 33 C (0, 0) _ rfl (Go.setRow_heap _ _ Z _ _ _ (by repeat (first | with_reducible exact X0.out | with_reducible refine blk_under ?_ | with_reducible refine blk_drew ?_ | with_reducible refine blk_below hbS5 (by first | omega | (simp <;> omega)) ?_ | with_reducible refine blk_below hbS4 (by first | omega | (simp <;> omega)) ?_))) Tryz.underlying33 rfl (by rw [HC.out.1.size]; kernel_rfl)) rfl ?_
     refine ⟨C, w.heap.size + 1, _, _, _, bA, bB, rfl, ex_ok HC.out.1 HC.out.2.1 HC.out.2.2.2, ex_in (t1 := 133) (t2 := 78) (t3 := 101) (t4 := 82) (t5 := 120) (t6 := 120) (blk_setRow (by omega) (by repeat (first | with_reducible exact X1.out | with_reducible exact hLA | with_reducible exact hLB | with_reducible exact blk_new (by first | omega | (simp <;> omega)) | with_reducible refine blk_under ?_ | with_reducible refine blk_drew ?_ | with_reducible refine blk_below hbS5 (by first | omega | (simp <;> omega)) ?_ | with_reducible refine blk_below hbS4 (by first | omega | (simp <;> omega)) ?_))) (blk_setRow (by omega) (by repeat (first | with_reducible exact X1.out | with_reducible exact hLA | with_reducible exact hLB | with_reducible exact blk_new (by first | omega | (simp <;> omega)) | with_reducible refine blk_under ?_ | with_reducible refine blk_drew ?_ | with_reducible refine blk_below hbS5 (by first | omega | (simp <;> omega)) ?_ | with_reducible refine blk_below hbS4 (by first | omega | (simp <;> omega)) ?_))) (blk_setRow (by omega) (by repeat (first | with_reducible exact X1.out | with_reducible exact hLA | with_reducible exact hLB | with_reducible exact blk_new (by first | omega | (simp <;> omega)) | with_reducible refine blk_under ?_ | with_reducible refine blk_drew ?_ | with_reducible refine blk_below hbS5 (by first | omega | (simp <;> omega)) ?_ | with_reducible refine blk_below hbS4 (by first | omega | (simp <;> omega)) ?_))) (blk_setRow (by omega) (by repeat (first | with_reducible exact X1.out | with_reducible exact hLA | with_reducible exact hLB | with_reducible exact blk_new (by first | omega | (simp <;> omega)) | with_reducible refine blk_under ?_ | with_reducible refine blk_drew ?_ | with_reducible refine blk_below hbS5 (by first | omega | (simp <;> omega)) ?_ | with_reducible refine blk_below hbS4 (by first | omega | (simp <;> omega)) ?_))) (blk_setRow (by omega) (by repeat (first | with_reducible exact X1.out | with_reducible exact hLA | with_reducible exact hLB | with_reducible exact blk_new (by first | omega | (simp <;> omega)) | with_reducible refine blk_under ?_ | with_reducible refine blk_drew ?_ | with_reducible refine blk_below hbS5 (by first | omega | (simp <;> omega)) ?_ | with_reducible refine blk_below hbS4 (by first | omega | (simp <;> omega)) ?_))) (blk_setRow (by omega) (by repeat (first | with_reducible exact X1.out | with_reducible exact hLA | with_reducible exact hLB | with_reducible exact blk_new (by first | omega | (simp <;> omega)) | with_reducible refine blk_under ?_ | with_reducible refine blk_drew ?_ | with_reducible refine blk_below hbS5 (by first | omega | (simp <;> omega)) ?_ | with_reducible refine blk_below hbS4 (by first | omega | (simp <;> omega)) ?_))), below_setRow ?_ (Nat.le_refl _) _⟩
     (repeat (first | (with_reducible first | exact Below.refl _ _ | assumption | refine Below.drew ?_) | ((with_reducible first | refine Below.alloc ?_ ?_ _ | refine Below.setCell ?_ ?_ _); rotate_left; (first | omega | (simp <;> omega)))))
    refine ord_run (i := 7) #[true, false, true, true, true, true, true, true, false, false] rfl (by kernel_rfl) (by rfl) (fun K hK => ?_) ?_
    ·go_simp
     refine hK.out _ _ ?_ (fun hHeld => ?_)
     ·exact sbT
     clear hK K
     (try simp only [Act.put, putS])
     refine wpAnyH_ready (rs := [1]) (by kernel_rfl) (by simp) ?_
     refine ord_run (i := 1) (preB 8 2) rfl (by kernel_rfl) (by rfl) (fun K hK => ?_) AllReadyH.nil
     go_simp
     refine hK.out _ _ ?_ (fun hHeld => ?_)
     ·exact sbT
     clear hK K
     (try simp only [Act.put, putS])
     refine oS (i := 8) (preB 9 1) rfl hHeld ?_
     (try simp only [Act.put, putS])
     refine wpAnyH_ready (rs := [9]) (by kernel_rfl) (by simp) ?_
     refine ord_run (i := 9) (preB 10 0) rfl (by kernel_rfl) (by rfl) (fun K hK => ?_) AllReadyH.nil
     (refine wp_store_rowE 33 (.tmp 2) (.tmp 19) rfl w.heap.size _ rfl rfl 33 Z (by repeat (first | with_reducible exact X0.out | with_reducible refine blk_under ?_ | with_reducible refine blk_drew ?_ | with_reducible refine blk_below hbS5 (by first | omega | (simp <;> omega)) ?_ | with_reducible refine blk_below hbS4 (by first | omega | (simp <;> omega)) ?_)) (by kernel_rfl) (by rw [HZ.out]; rfl) (by simp [Value.oneCell']) (exR _ _ _) ⟨⟨rfl, rfl, rfl⟩, rfl⟩ (fun C hC hCs hC1 => ?_); refine hK.out _ _ ?_ (fun hHeld => ?_); exact SB.setRow hHeld (.inl (by simp)); clear hK K)
     (try simp only [Act.put, putS])
     refine wpAnyH_done (by kernel_rfl) ?_ _
     obtain ⟨hC1', hC2'⟩ := hC
     have HC := hide (And.intro hC1' (And.intro hC2' (And.intro hCs hC1)))
     clear hC1' hC2' hCs hC1
     go_wp2_with fail
     refine bodyPost_ret (v := .agg C) (Go.results_cell_row (by rfl) _ _ w.heap.size 33 C (0, 0) _ rfl (Go.setRow_heap _ _ Z _ _ _ (by repeat (first | with_reducible exact X0.out | with_reducible refine blk_under ?_ | with_reducible refine blk_drew ?_ | with_reducible refine blk_below hbS5 (by first | omega | (simp <;> omega)) ?_ | with_reducible refine blk_below hbS4 (by first | omega | (simp <;> omega)) ?_))) Tryz.underlying33 rfl (by rw [HC.out.1.size]; kernel_rfl)) rfl ?_
     refine ⟨C, w.heap.size + 1, _, _, _, bA, bB, rfl, ex_ok HC.out.1 HC.out.2.1 HC.out.2.2.2, ex_in (t1 := 133) (t2 := 78) (t3 := 101) (t4 := 82) (t5 := 120) (t6 := 120) (blk_setRow (by omega) (by repeat (first | with_reducible exact X1.out | with_reducible exact hLA | with_reducible exact hLB | with_reducible exact blk_new (by first | omega | (simp <;> omega)) | with_reducible refine blk_under ?_ | with_reducible refine blk_drew ?_ | with_reducible refine blk_below hbS5 (by first | omega | (simp <;> omega)) ?_ | with_reducible refine blk_below hbS4 (by first | omega | (simp <;> omega)) ?_))) (blk_setRow (by omega) (by repeat (first | with_reducible exact X1.out | with_reducible exact hLA | with_reducible exact hLB | with_reducible exact blk_new (by first | omega | (simp <;> omega)) | with_reducible refine blk_under ?_ | with_reducible refine blk_drew ?_ | with_reducible refine blk_below hbS5 (by first | omega | (simp <;> omega)) ?_ | with_reducible refine blk_below hbS4 (by first | omega | (simp <;> omega)) ?_))) (blk_setRow (by omega) (by repeat (first | with_reducible exact X1.out | with_reducible exact hLA | with_reducible exact hLB | with_reducible exact blk_new (by first | omega | (simp <;> omega)) | with_reducible refine blk_under ?_ | with_reducible refine blk_drew ?_ | with_reducible refine blk_below hbS5 (by first | omega | (simp <;> omega)) ?_ | with_reducible refine blk_below hbS4 (by first | omega | (simp <;> omega)) ?_))) (blk_setRow (by omega) (by repeat (first | with_reducible exact X1.out | with_reducible exact hLA | with_reducible exact hLB | with_reducible exact blk_new (by first | omega | (simp <;> omega)) | with_reducible refine blk_under ?_ | with_reducible refine blk_drew ?_ | with_reducible refine blk_below hbS5 (by first | omega | (simp <;> omega)) ?_ | with_reducible refine blk_below hbS4 (by first | omega | (simp <;> omega)) ?_))) (blk_setRow (by omega) (by repeat (first | with_reducible exact X1.out | with_reducible exact hLA | with_reducible exact hLB | with_reducible exact blk_new (by first | omega | (simp <;> omega)) | with_reducible refine blk_under ?_ | with_reducible refine blk_drew ?_ | with_reducible refine blk_below hbS5 (by first | omega | (simp <;> omega)) ?_ | with_reducible refine blk_below hbS4 (by first | omega | (simp <;> omega)) ?_))) (blk_setRow (by omega) (by repeat (first | with_reducible exact X1.out | with_reducible exact hLA | with_reducible exact hLB | with_reducible exact blk_new (by first | omega | (simp <;> omega)) | with_reducible refine blk_under ?_ | with_reducible refine blk_drew ?_ | with_reducible refine blk_below hbS5 (by first | omega | (simp <;> omega)) ?_ | with_reducible refine blk_below hbS4 (by first | omega | (simp <;> omega)) ?_))), below_setRow ?_ (Nat.le_refl _) _⟩
     (repeat (first | (with_reducible first | exact Below.refl _ _ | assumption | refine Below.drew ?_) | ((with_reducible first | refine Below.alloc ?_ ?_ _ | refine Below.setCell ?_ ?_ _); rotate_left; (first | omega | (simp <;> omega)))))
    exact AllReadyH.nil
   refine ord_run (i := 7) #[true, false, true, false, true, true, true, true, false, false] rfl (by kernel_rfl) (by rfl) (fun K hK => ?_) ?_
   ·go_simp
    refine hK.out _ _ ?_ (fun hHeld => ?_)
    ·exact sbT
    clear hK K
    (try simp only [Act.put, putS])
    refine wpAnyH_ready (rs := [1, 3]) (by kernel_rfl) (by simp) ?_
    refine ord_run (i := 1) #[true, true, true, false, true, true, true, true, false, false] rfl (by kernel_rfl) (by rfl) (fun K hK => ?_) ?_
    ·go_simp
     refine hK.out _ _ ?_ (fun hHeld => ?_)
     ·exact sbT
     clear hK K
     (try simp only [Act.put, putS])
     refine wpAnyH_ready (rs := [3]) (by kernel_rfl) (by simp) ?_
     refine ord_run (i := 3) (preB 8 2) rfl (by kernel_rfl) (by rfl) (fun K hK => ?_) AllReadyH.nil
     go_simp
     refine hK.out _ _ ?_ (fun hHeld => ?_)
     ·exact sbT
     clear hK K
     (try simp only [Act.put, putS])
     refine oS (i := 8) (preB 9 1) rfl hHeld ?_
     (try simp only [Act.put, putS])
     refine wpAnyH_ready (rs := [9]) (by kernel_rfl) (by simp) ?_
     refine ord_run (i := 9) (preB 10 0) rfl (by kernel_rfl) (by rfl) (fun K hK => ?_) AllReadyH.nil
     (refine wp_store_rowE 33 (.tmp 2) (.tmp 19) rfl w.heap.size _ rfl rfl 33 Z (by repeat (first | with_reducible exact X0.out | with_reducible refine blk_under ?_ | with_reducible refine blk_drew ?_ | with_reducible refine blk_below hbS5 (by first | omega | (simp <;> omega)) ?_ | with_reducible refine blk_below hbS4 (by first | omega | (simp <;> omega)) ?_)) (by kernel_rfl) (by rw [HZ.out]; rfl) (by simp [Value.oneCell']) (exR _ _ _) ⟨⟨rfl, rfl, rfl⟩, rfl⟩ (fun C hC hCs hC1 => ?_); refine hK.out _ _ ?_ (fun hHeld => ?_); exact SB.setRow hHeld (.inl (by simp)); clear hK K)
     (try simp only [Act.put, putS])
     refine wpAnyH_done (by kernel_rfl) ?_ _
     obtain ⟨hC1', hC2'⟩ := hC
     have HC := hide (And.intro hC1' (And.intro hC2' (And.intro hCs hC1)))
     clear hC1' hC2' hCs hC1
     go_wp2_with fail
     refine bodyPost_ret (v := .agg C) (Go.results_cell_row (by rfl) _ _ w.heap.size 33 C (0, 0) _ rfl (Go.setRow_heap _ _ Z _ _ _ (by repeat (first | with_reducible exact X0.out | with_reducible refine blk_under ?_ | with_reducible refine blk_drew ?_ | with_reducible refine blk_below hbS5 (by first | omega | (simp <;> omega)) ?_ | with_reducible refine blk_below hbS4 (by first | omega | (simp <;> omega)) ?_))) Tryz.underlying33 rfl (by rw [HC.out.1.size]; kernel_rfl)) rfl ?_
     refine ⟨C, w.heap.size + 1, _, _, _, bA, bB, rfl, ex_ok HC.out.1 HC.out.2.1 HC.out.2.2.2, ex_in (t1 := 133) (t2 := 78) (t3 := 101) (t4 := 82) (t5 := 120) (t6 := 120) (blk_setRow (by omega) (by repeat (first | with_reducible exact X1.out | with_reducible exact hLA | with_reducible exact hLB | with_reducible exact blk_new (by first | omega | (simp <;> omega)) | with_reducible refine blk_under ?_ | with_reducible refine blk_drew ?_ | with_reducible refine blk_below hbS5 (by first | omega | (simp <;> omega)) ?_ | with_reducible refine blk_below hbS4 (by first | omega | (simp <;> omega)) ?_))) (blk_setRow (by omega) (by repeat (first | with_reducible exact X1.out | with_reducible exact hLA | with_reducible exact hLB | with_reducible exact blk_new (by first | omega | (simp <;> omega)) | with_reducible refine blk_under ?_ | with_reducible refine blk_drew ?_ | with_reducible refine blk_below hbS5 (by first | omega | (simp <;> omega)) ?_ | with_reducible refine blk_below hbS4 (by first | omega | (simp <;> omega)) ?_))) (blk_setRow (by omega) (by repeat (first | with_reducible exact X1.out | with_reducible exact hLA | with_reducible exact hLB | with_reducible exact blk_new (by first | omega | (simp <;> omega)) | with_reducible refine blk_under ?_ | with_reducible refine blk_drew ?_ | with_reducible refine blk_below hbS5 (by first | omega | (simp <;> omega)) ?_ | with_reducible refine blk_below hbS4 (by first | omega | (simp <;> omega)) ?_))) (blk_setRow (by omega) (by repeat (first | with_reducible exact X1.out | with_reducible exact hLA | with_reducible exact hLB | with_reducible exact blk_new (by first | omega | (simp <;> omega)) | with_reducible refine blk_under ?_ | with_reducible refine blk_drew ?_ | with_reducible refine blk_below hbS5 (by first | omega | (simp <;> omega)) ?_ | with_reducible refine blk_below hbS4 (by first | omega | (simp <;> omega)) ?_))) (blk_setRow (by omega) (by repeat (first | with_reducible exact X1.out | with_reducible exact hLA | with_reducible exact hLB | with_reducible exact blk_new (by first | omega | (simp <;> omega)) | with_reducible refine blk_under ?_ | with_reducible refine blk_drew ?_ | with_reducible refine blk_below hbS5 (by first | omega | (simp <;> omega)) ?_ | with_reducible refine blk_below hbS4 (by first | omega | (simp <;> omega)) ?_))) (blk_setRow (by omega) (by repeat (first | with_reducible exact X1.out | with_reducible exact hLA | with_reducible exact hLB | with_reducible exact blk_new (by first | omega | (simp <;> omega)) | with_reducible refine blk_under ?_ | with_reducible refine blk_drew ?_ | with_reducible refine blk_below hbS5 (by first | omega | (simp <;> omega)) ?_ | with_reducible refine blk_below hbS4 (by first | omega | (simp <;> omega)) ?_))), below_setRow ?_ (Nat.le_refl _) _⟩
     (repeat (first | (with_reducible first | exact Below.refl _ _ | assumption | refine Below.drew ?_) | ((with_reducible first | refine Below.alloc ?_ ?_ _ | refine Below.setCell ?_ ?_ _); rotate_left; (first | omega | (simp <;> omega)))))
    refine ord_run (i := 3) #[true, false, true, true, true, true, true, true, false, false] rfl (by kernel_rfl) (by rfl) (fun K hK => ?_) ?_
    ·go_simp
     refine hK.out _ _ ?_ (fun hHeld => ?_)
     ·exact sbT
     clear hK K
     (try simp only [Act.put, putS])
     refine wpAnyH_ready (rs := [1]) (by kernel_rfl) (by simp) ?_
     refine ord_run (i := 1) (preB 8 2) rfl (by kernel_rfl) (by rfl) (fun K hK => ?_) AllReadyH.nil
     go_simp
     refine hK.out _ _ ?_ (fun hHeld => ?_)
     ·exact sbT
     clear hK K
     (try simp only [Act.put, putS])
     refine oS (i := 8) (preB 9 1) rfl hHeld ?_
     (try simp only [Act.put, putS])
     refine wpAnyH_ready (rs := [9]) (by kernel_rfl) (by simp) ?_
     refine ord_run (i := 9) (preB 10 0) rfl (by kernel_rfl) (by rfl) (fun K hK => ?_) AllReadyH.nil
     (refine wp_store_rowE 33 (.tmp 2) (.tmp 19) rfl w.heap.size _ rfl rfl 33 Z (by repeat (first | with_reducible exact X0.out | with_reducible refine blk_under ?_ | with_reducible refine blk_drew ?_ | with_reducible refine blk_below hbS5 (by first | omega | (simp <;> omega)) ?_ | with_reducible refine blk_below hbS4 (by first | omega | (simp <;> omega)) ?_)) (by kernel_rfl) (by rw [HZ.out]; rfl) (by simp [Value.oneCell']) (exR _ _ _) ⟨⟨rfl, rfl, rfl⟩, rfl⟩ (fun C hC hCs hC1 => ?_); refine hK.out _ _ ?_ (fun hHeld => ?_); exact SB.setRow hHeld (.inl (by simp)); clear hK K)
     (try simp only [Act.put, putS])
     refine wpAnyH_done (by kernel_rfl) ?_ _
     obtain ⟨hC1', hC2'⟩ := hC
     have HC := hide (And.intro hC1' (And.intro hC2' (And.intro hCs hC1)))
     clear hC1' hC2' hCs hC1
     go_wp2_with fail
     refine bodyPost_ret (v := .agg C) (Go.results_cell_row (by rfl) _ _ w.heap.size 33 C (0, 0) _ rfl (Go.setRow_heap _ _ Z _ _ _ (by repeat (first | with_reducible exact X0.out | with_reducible refine blk_under ?_ | with_reducible refine blk_drew ?_ | with_reducible refine blk_below hbS5 (by first | omega | (simp <;> omega)) ?_ | with_reducible refine blk_below hbS4 (by first | omega | (simp <;> omega)) ?_))) Tryz.underlying33 rfl (by rw [HC.out.1.size]; kernel_rfl)) rfl ?_
     refine ⟨C, w.heap.size + 1, _, _, _, bA, bB, rfl, ex_ok HC.out.1 HC.out.2.1 HC.out.2.2.2, ex_in (t1 := 133) (t2 := 78) (t3 := 101) (t4 := 82) (t5 := 120) (t6 := 120) (blk_setRow (by omega) (by repeat (first | with_reducible exact X1.out | with_reducible exact hLA | with_reducible exact hLB | with_reducible exact blk_new (by first | omega | (simp <;> omega)) | with_reducible refine blk_under ?_ | with_reducible refine blk_drew ?_ | with_reducible refine blk_below hbS5 (by first | omega | (simp <;> omega)) ?_ | with_reducible refine blk_below hbS4 (by first | omega | (simp <;> omega)) ?_))) (blk_setRow (by omega) (by repeat (first | with_reducible exact X1.out | with_reducible exact hLA | with_reducible exact hLB | with_reducible exact blk_new (by first | omega | (simp <;> omega)) | with_reducible refine blk_under ?_ | with_reducible refine blk_drew ?_ | with_reducible refine blk_below hbS5 (by first | omega | (simp <;> omega)) ?_ | with_reducible refine blk_below hbS4 (by first | omega | (simp <;> omega)) ?_))) (blk_setRow (by omega) (by repeat (first | with_reducible exact X1.out | with_reducible exact hLA | with_reducible exact hLB | with_reducible exact blk_new (by first | omega | (simp <;> omega)) | with_reducible refine blk_under ?_ | with_reducible refine blk_drew ?_ | with_reducible refine blk_below hbS5 (by first | omega | (simp <;> omega)) ?_ | with_reducible refine blk_below hbS4 (by first | omega | (simp <;> omega)) ?_))) (blk_setRow (by omega) (by repeat (first | with_reducible exact X1.out | with_reducible exact hLA | with_reducible exact hLB | with_reducible exact blk_new (by first | omega | (simp <;> omega)) | with_reducible refine blk_under ?_ | with_reducible refine blk_drew ?_ | with_reducible refine blk_below hbS5 (by first | omega | (simp <;> omega)) ?_ | with_reducible refine blk_below hbS4 (by first | omega | (simp <;> omega)) ?_))) (blk_setRow (by omega) (by repeat (first | with_reducible exact X1.out | with_reducible exact hLA | with_reducible exact hLB | with_reducible exact blk_new (by first | omega | (simp <;> omega)) | with_reducible refine blk_under ?_ | with_reducible refine blk_drew ?_ | with_reducible refine blk_below hbS5 (by first | omega | (simp <;> omega)) ?_ | with_reducible refine blk_below hbS4 (by first | omega | (simp <;> omega)) ?_))) (blk_setRow (by omega) (by repeat (first | with_reducible exact X1.out | with_reducible exact hLA | with_reducible exact hLB | with_reducible exact blk_new (by first | omega | (simp <;> omega)) | with_reducible refine blk_under ?_ | with_reducible refine blk_drew ?_ | with_reducible refine blk_below hbS5 (by first | omega | (simp <;> omega)) ?_ | with_reducible refine blk_below hbS4 (by first | omega | (simp <;> omega)) ?_))), below_setRow ?_ (Nat.le_refl _) _⟩
     (repeat (first | (with_reducible first | exact Below.refl _ _ | assumption | refine Below.drew ?_) | ((with_reducible first | refine Below.alloc ?_ ?_ _ | refine Below.setCell ?_ ?_ _); rotate_left; (first | omega | (simp <;> omega)))))
    exact AllReadyH.nil
   exact AllReadyH.nil
  exact AllReadyH.nil
 exact AllReadyH.nil
end Go.Proofs.YtdjlaiilngechaaGreatDoor
