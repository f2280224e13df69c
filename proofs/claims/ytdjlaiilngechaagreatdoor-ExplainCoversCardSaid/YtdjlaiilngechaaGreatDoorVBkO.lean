/- Texts laid together: TrO Keep. -/
import Derived.Test.YtdjlaiilngechaaGreatDoorVTrM
import Derived.Test.YtdjlaiilngechaaGreatDoorVRowM
import Derived.Test.YtdjlaiilngechaaGreatDoorVNum
import Derived.SizedLaws
import Derived.Deep.Draws
namespace Go.Proofs.YtdjlaiilngechaaGreatDoor
set_option maxRecDepth 4000
set_option linter.unusedSimpArgs false
set_option linter.unusedVariables false
open Go.RowKit Go.Deep Go.WideShapes
def kdOf (P : Program) (tids : List TypeId) (t : TypeId) : Option Kd := match P.underlying t with
  | some (.int .i64) => some .i
  | some (.int .u64) => some .u
  | some .string => some .s
  | some .bool => some .b
  | some (.slice e) => (tids.idxOf? e).map .sl
  | _ => none
def flatFs (P : Program) (rec : TypeId → Option (List Kd)) : List Field → Nat → Option (List Kd)
  | [], _ => some []
  | f :: r, o => if f.offset = o then match rec f.type with
      | some ks => if P.cellsOf f.type = ks.length then (flatFs P rec r (o + ks.length)).map (ks ++ ·) else none
      | none => none
    else none
/-- The kinds of a type's cells. -/
def flatT (P : Program) (tids : List TypeId) : Nat → TypeId → Option (List Kd)
  | 0, _ => none
  | f + 1, t => match P.underlying t with
    | some (.struct fs) => match flatFs P (flatT P tids f) fs.toList 0 with
      | some ks => if P.cellsOf t = ks.length then some ks else none
      | none => none
    | _ => (kdOf P tids t).map ([·])
/-- The cells read as trees of these kinds. -/
def Reads (w : World) (cs : List Value) (ks : List Kd) : Prop := cs.length = ks.length ∧ ∀ j, j < ks.length → ∃ T : Tr, T.rd (Old w) w (cs.getD j undef) ∧ T.wt (ks.getD j .i)
section
variable {H : Type} {enc : TypeId × Value → H} {P : Program} {w : World} {base : Nat} {spare : Nat → Bool} {held : Bool}
theorem mem_all {e : TypeId} {m : Nat} : ∀ {l : List (DataW H)} {i : Nat} {d : DataW H}, l[i]? = some d → m ∈ d.weights P e → m ∈ DataW.weightsAll P e l
  | [], _, _, h, _ => by simp at h
  | x :: r, 0, d, h, hm => by
    unfold DataW.weightsAll
    simp at h
    subst h
    exact List.mem_append_left _ hm
  | x :: r, i + 1, d, h, hm => by
    unfold DataW.weightsAll
    exact List.mem_append_right _ (mem_all (i := i) (by simpa using h) hm)
theorem mem_each {m : Nat} : ∀ {ts : List TypeId} {l : List (DataW H)} {i : Nat} {t : TypeId} {d : DataW H}, ts[i]? = some t → l[i]? = some d → m ∈ d.weights P t → m ∈ DataW.weightsEach P ts l
  | [], _, _, _, _, h, _, _ => by simp at h
  | _ :: _, [], _, _, _, _, h, _ => by simp at h
  | t :: ts, x :: r, 0, _, _, h, h2, hm => by
    unfold DataW.weightsEach
    simp at h h2
    subst h h2
    exact List.mem_append_left _ hm
  | t :: ts, x :: r, i + 1, _, _, h, h2, hm => by
    unfold DataW.weightsEach
    exact List.mem_append_right _ (mem_each (i := i) (by simpa using h) (by simpa using h2) hm)
theorem reads_one {v : Value} {k : Kd} {T : Tr} (h : T.rd (Old w) w v) (ht : T.wt k) : Reads w [v] [k] := ⟨rfl, fun j hj => by
  obtain rfl : j = 0 := by simp at hj; exact hj
  exact ⟨T, h, ht⟩⟩
theorem flatFs_reads {rec : TypeId → Option (List Kd)} {cs : List Value} : ∀ {r : List Field} {o : Nat} {ks : List Kd}, flatFs P rec r o = some ks →
    (∀ (f : Field) (ks' : List Kd), f ∈ r → rec f.type = some ks' → Reads w ((cs.drop f.offset).take (P.cellsOf f.type)) ks') → ∀ j, j < ks.length → ∃ T : Tr, T.rd (Old w) w (cs.getD (o + j) undef) ∧ T.wt (ks.getD j .i)
  | [], o, ks, h, _, j, hj => by
    unfold flatFs at h
    injection h with h
    subst h
    simp at hj
  | f :: r, o, ks, h, hr, j, hj => by
    unfold flatFs at h
    split at h
    · rename_i ho
      cases hk : rec f.type with
      | none => rw [hk] at h; cases h
      | some k1 =>
        rw [hk] at h
        simp only at h
        split at h
        · rename_i hc
          cases hk2 : flatFs P rec r (o + k1.length) with
          | none => rw [hk2] at h; cases h
          | some k2 =>
            rw [hk2] at h
            simp only [Option.map_some, Option.some.injEq] at h
            subst h
            obtain ⟨hl, h1⟩ := hr f k1 (List.mem_cons_self ..) hk
            by_cases hj1 : j < k1.length
            · obtain ⟨T, ha, hb⟩ := h1 j hj1
              refine ⟨T, ?_, ?_⟩
              · rw [ho, hc] at ha hl
                rw [List.getD_eq_getElem?_getD, List.getElem?_take, if_pos hj1, List.getElem?_drop, ← List.getD_eq_getElem?_getD] at ha
                exact ha
              · rw [List.getD_eq_getElem?_getD, List.getElem?_append_left hj1, ← List.getD_eq_getElem?_getD]
                exact hb
            · have hj2 : j - k1.length < k2.length := by rw [List.length_append] at hj; omega
              obtain ⟨T, ha, hb⟩ := flatFs_reads hk2 (fun f' ks' hf' => hr f' ks' (List.mem_cons_of_mem _ hf')) _ hj2
              refine ⟨T, ?_, ?_⟩
              · rw [show o + j = o + k1.length + (j - k1.length) by omega]; exact ha
              · rw [List.getD_eq_getElem?_getD, List.getElem?_append_right (by omega), ← List.getD_eq_getElem?_getD]
                exact hb
        · cases h
    · cases h
/-- Each record of the table lies at this seat as the table says. -/
def tblB (P : Program) (tids : List TypeId) : Bool := tids.length == 15 && (List.range 15).all fun e => match tids[e]? with
  | some t => flatT P tids 4 t == some (tbl e) && P.cellsOf t == (tbl e).length && P.bytesOf t == tby e
  | none => false
theorem tblB_at {tids : List TypeId} (h : tblB P tids = true) {e : Nat} {t : TypeId} (he : tids[e]? = some t) : flatT P tids 4 t = some (tbl e) ∧ P.cellsOf t = (tbl e).length ∧ P.bytesOf t = tby e ∧ e < 15 := by
  unfold tblB at h
  rw [Bool.and_eq_true, List.all_eq_true, beq_iff_eq] at h
  have hj : e < 15 := by rw [← h.1]; exact (List.getElem?_eq_some_iff.1 he).1
  have := h.2 e (List.mem_range.2 hj)
  rw [he] at this
  simp only [Bool.and_eq_true, beq_iff_eq] at this
  exact ⟨this.1.1, this.1.2, this.2, hj⟩
theorem tbl_pos {e : Nat} (h : e < 15) : 0 < (tbl e).length := by
  match e, h with
  | 0, _ | 1, _ | 2, _ | 3, _ | 4, _ | 5, _ | 6, _ | 7, _ | 8, _ | 9, _ | 10, _ | 11, _ | 12, _ | 13, _ | 14, _ => decide
theorem idx_at {tids : List TypeId} {e : TypeId} {k : Nat} (h : tids.idxOf? e = some k) : tids[k]? = some e := by
  have h1 := List.findIdx?_eq_some_iff_getElem.1 h
  obtain ⟨hk, he, _⟩ := h1
  rw [List.getElem?_eq_getElem hk]
  exact congrArg some (by simpa using he)
theorem tree_open {tids : List TypeId} (hT : tblB P tids = true) : ∀ (fu : Nat) (f : Nat) (t : TypeId) (ks : List Kd) (cs : List Value) (x : DataW H × List MemPlace), flatT P tids f t = some ks →
    DataW.trod enc P w base spare held fu t cs = some x → (∀ m, m ∈ x.1.weights P t → m ≤ 140737488351232) → Reads w cs ks
  | 0, _, _, _, _, _, _, h, _ => by simp [DataW.trod] at h
  | fu + 1, 0, _, _, _, _, hf, _, _ => by cases hf
  | fu + 1, f + 1, t, ks, cs, x, hf, h, hm => by
    unfold flatT at hf
    split at hf
    · rename_i fs he
      cases hk : flatFs P (flatT P tids f) fs.toList 0 with
      | none => rw [hk] at hf; cases hf
      | some k1 =>
        rw [hk] at hf
        simp only at hf
        split at hf
        · rename_i hc
          injection hf with hf
          subst hf
          obtain ⟨xs, n, hn, hx, hlen, hxl, hi⟩ := DataW.trod_struct he h
          obtain rfl : fu = n := by omega
          refine ⟨by rw [hlen, hc], fun j hj => ?_⟩
          have key := flatFs_reads (w := w) (cs := cs) hk (fun f' ks' hf' hrec => by
            obtain ⟨i, hi1, hi2⟩ := List.getElem_of_mem hf'
            have hfi : fs[i]? = some f' := by rw [← hi2, Array.getElem_toList]; exact Array.getElem?_eq_getElem (by simpa using hi1)
            have hg := hi i f' hfi
            have hxi : xs[i]? = some (xs[i]'(by have := (Array.getElem?_eq_some_iff.1 hfi).1; omega)) := List.getElem?_eq_getElem _
            rw [hxi] at hg
            refine tree_open hT fu f _ ks' _ _ hrec hg (fun m hmm => hm m ?_)
            rw [hx]
            unfold DataW.weights
            rw [he]
            exact mem_each (i := i) (t := f'.type) (by simp [hfi]) (by rw [List.getElem?_map, hxi]; rfl) hmm) j hj
          rwa [Nat.zero_add] at key
        · cases hf
    · cases hk : kdOf P tids t with
      | none => rw [hk] at hf; cases hf
      | some k =>
        rw [hk] at hf
        simp only [Option.map_some, Option.some.injEq] at hf
        subst hf
        unfold kdOf at hk
        split at hk
        · rename_i he
          injection hk with hk
          subst hk
          obtain ⟨n, rfl, _, hw⟩ := DataW.trod_int he h
          simp [Lit.wf] at hw
          exact reads_one (T := .lf (.int .i64 n)) rfl ⟨n, rfl, hw⟩
        · rename_i he
          injection hk with hk
          subst hk
          obtain ⟨n, rfl, _, hw⟩ := DataW.trod_int he h
          simp [Lit.wf, IntKind.min, IntKind.max, IntKind.signed, IntKind.bits] at hw
          exact reads_one (T := .lf (.int .u64 n)) rfl ⟨n, rfl, hw.1, by omega⟩
        · rename_i he
          injection hk with hk
          subst hk
          obtain ⟨s, rfl, _, hw⟩ := DataW.trod_string he h
          exact reads_one (T := .lf (.string s)) rfl ⟨s, rfl, hw⟩
        · rename_i he
          injection hk with hk
          subst hk
          obtain ⟨b, rfl, _⟩ := DataW.trod_bool he h
          exact reads_one (T := .lf (.bool b)) rfl ⟨b, rfl⟩
        · rename_i e he
          cases hidx : tids.idxOf? e with
          | none => rw [hidx] at hk; cases hk
          | some k0 =>
            rw [hidx] at hk
            simp only [Option.map_some, Option.some.injEq] at hk
            subst hk
            obtain ⟨hfe, hce, hbe, hlt⟩ := tblB_at hT (idx_at hidx)
            have hpos := tbl_pos hlt
            rcases DataW.trod_slice he h with ⟨rfl, _⟩ | ⟨a, len, cap, elems, rest, n, hn, rfl, hx, _, hl, hmx, hlen, hel, _, _⟩
            · exact reads_one (T := .row 0 (tbl k0).length fun _ _ => .lf undef) ⟨none, 0, fun _ _ => undef, rfl, Nat.le_refl _, fun h => by omega, fun k j hk => by omega⟩ ⟨rfl, by simp, fun k j hk => by omega⟩
            · obtain rfl : fu = n := by omega
              rw [hce] at hel
              have hwt : len * tby k0 ≤ 140737488351232 := by
                have := hm ((elems.length + rest.length) * P.bytesOf e) (by rw [hx]; unfold DataW.weights; rw [he]; simp)
                rw [hbe, hlen] at this
                exact Nat.le_trans (Nat.mul_le_mul_right _ (Nat.le_add_right _ _)) this
              have key : ∀ i, i < len → ∃ cs', (∀ j, j < (tbl k0).length → w.cell? (a.add (i * (tbl k0).length + j)) = some (cs'.getD j undef)) ∧ Reads w cs' (tbl k0) := fun i hi => by
                have h1 := hel i hi
                have h2 : elems[i]? = some (elems[i]'(by omega)) := List.getElem?_eq_getElem _
                rw [h2] at h1
                obtain ⟨cs', hc, ht'⟩ := Option.bind_eq_some_iff.1 h1
                obtain ⟨_, hcl, hat⟩ := World.cells?_some hc
                refine ⟨cs', fun j hj => ?_, tree_open hT fu 4 e _ cs' _ hfe ht' (fun m hmm => hm m ?_)⟩
                · have := hat j hj
                  rw [Deep.add_add, List.getElem?_eq_getElem (by omega)] at this
                  rw [this, List.getD_eq_getElem?_getD, List.getElem?_eq_getElem (by omega)]
                  rfl
                · rw [hx]
                  unfold DataW.weights
                  rw [he]
                  exact List.mem_cons_of_mem _ (List.mem_append_left _ (mem_all (i := i) (by rw [List.getElem?_map, h2]; rfl) hmm))
              have hC : ∃ C : Nat → List Value, ∀ i, i < len → (∀ j, j < (tbl k0).length → w.cell? (a.add (i * (tbl k0).length + j)) = some ((C i).getD j undef)) ∧ Reads w (C i) (tbl k0) := by
                refine ⟨fun i => if hi : i < len then Classical.choose (key i hi) else [], fun i hi => ?_⟩
                simp only [dif_pos hi]
                exact Classical.choose_spec (key i hi)
              obtain ⟨C, hCC⟩ := hC
              have hTr : ∃ c : Nat → Nat → Tr, ∀ i j, i < len → j < (tbl k0).length → (c i j).rd (Old w) w ((C i).getD j undef) ∧ (c i j).wt ((tbl k0).getD j .i) := by
                refine ⟨fun i j => if hi : i < len ∧ j < (tbl k0).length then Classical.choose ((hCC i hi.1).2.2 j hi.2) else .lf undef, fun i j hi hj => ?_⟩
                simp only [dif_pos (And.intro hi hj)]
                exact Classical.choose_spec ((hCC i hi).2.2 j hj)
              obtain ⟨c, hcc⟩ := hTr
              refine reads_one (T := .row len (tbl k0).length c) ⟨some a, cap, fun i j => (C i).getD j undef, rfl, hl, fun hn => ?_, fun i j hi hj => (hcc i j hi hj).1⟩ ⟨rfl, hwt, fun i j hi hj => (hcc i j hi hj).2⟩
              obtain ⟨b, off, spot⟩ := a
              have hv := (hCC 0 hn).1 0 hpos
              have hs : spot = none := by simpa [Addr.add] using World.cell?_spot hv
              subst hs
              have hadd : ∀ k, Addr.add ⟨b, off, none⟩ k = ⟨b, off + k, none⟩ := fun k => by
                cases k <;> simp [Addr.add]
              rw [hadd] at hv
              refine ⟨b, off, rfl, World.block_lt_of_cell? _ _ hv, fun k j hk hj => ?_⟩
              have := (hCC k hk).1 j hj
              rwa [hadd] at this
        · cases hk
end
end Go.Proofs.YtdjlaiilngechaaGreatDoor
namespace Go.Proofs.YtdjlaiilngechaaGreatDoor
set_option maxRecDepth 4000
set_option linter.unusedSimpArgs false
set_option linter.unusedVariables false
open Go.RowKit
theorem heap_new (w : World) (o : Obj) (n : Nat) (h : n = w.heap.size) : (w.alloc o).heap[n]? = some o := by
  subst h
  show (w.heap.push o)[w.heap.size]? = _
  simp
theorem cell_at {w : World} {g : Nat} {c : Array Value} {t : TypeId} (h : w.heap[g]? = some (.cells c t (0, 0))) (o : Nat) : w.cell? ⟨g, o, none⟩ = c[o]? := cell_of_row w g o c t (0, 0) h
theorem free_at {w : World} {g : Nat} {c : Array Value} {t : TypeId} (h : w.heap[g]? = some (.cells c t (0, 0))) (o : Nat) : w.frozen? ⟨g, o, none⟩ = false := by
  simp [World.frozen?, h]
theorem below_drewN {B : Nat} {a w : World} (h : Below B a w) (n : Nat) : Below B a (w.drewN n) := ⟨h.os, h.tape, h.output, h.size, h.block⟩
theorem undrew {a w : World} (h : Below a.drew.heap.size a.drew w) : Below a.heap.size a w := ⟨h.os, h.tape, h.output, h.size, h.block⟩

theorem keep2 {w w1 : World} {c1 c2 : Array Value} {t1 t2 : TypeId}
    (hb : Below ((w.alloc (.cells c1 t1)).alloc (.cells c2 t2)).heap.size ((w.alloc (.cells c1 t1)).alloc (.cells c2 t2)) w1) :
    (∀ o, w1.cell? ⟨w.heap.size, o, none⟩ = c1[o]?) ∧ (∀ o, w1.frozen? ⟨w.heap.size, o, none⟩ = false) ∧ w.heap.size < w1.heap.size ∧ (∀ o, w1.cell? ⟨w.heap.size + 1, o, none⟩ = c2[o]?) ∧ (∀ o, w1.frozen? ⟨w.heap.size + 1, o, none⟩ = false) ∧ w.heap.size + 1 < w1.heap.size ∧ w.heap.size ≤ w1.heap.size ∧ (∀ b o, b < w.heap.size → w1.cell? ⟨b, o, none⟩ = w.cell? ⟨b, o, none⟩) ∧ (∀ b o, b < w.heap.size → w1.frozen? ⟨b, o, none⟩ = w.frozen? ⟨b, o, none⟩) ∧ Below w.heap.size w w1 := by
  have hz : w.heap.size + 2 ≤ w1.heap.size := by have := hb.size; simp at this; omega
  have hB : Below w.heap.size w w1 := ((((Below.refl _ _).alloc (Nat.le_refl _) _)).alloc (by simp <;> omega) _).trans (hb.mono (by simp <;> omega))
  have e1 : w1.heap[w.heap.size]? = some (.cells c1 t1 (0, 0)) := (hb.block _ (by simp <;> omega)).trans ((Below.heap_alloc _ _ _ (by simp <;> omega)).trans (heap_new _ _ _ (by simp <;> omega)))
  have e2 : w1.heap[w.heap.size + 1]? = some (.cells c2 t2 (0, 0)) := (hb.block _ (by simp <;> omega)).trans (heap_new _ _ _ (by simp <;> omega))
  exact ⟨cell_at e1, free_at e1, (by omega), cell_at e2, free_at e2, (by omega), by omega, fun b o h => hB.cell (p := ⟨b, o, none⟩) h, fun b o h => hB.frozen (p := ⟨b, o, none⟩) h, hB⟩
theorem keep3 {w w1 : World} {c1 c2 c3 : Array Value} {t1 t2 t3 : TypeId}
    (hb : Below (((w.alloc (.cells c1 t1)).alloc (.cells c2 t2)).alloc (.cells c3 t3)).heap.size (((w.alloc (.cells c1 t1)).alloc (.cells c2 t2)).alloc (.cells c3 t3)) w1) :
    (∀ o, w1.cell? ⟨w.heap.size, o, none⟩ = c1[o]?) ∧ (∀ o, w1.frozen? ⟨w.heap.size, o, none⟩ = false) ∧ w.heap.size < w1.heap.size ∧ (∀ o, w1.cell? ⟨w.heap.size + 1, o, none⟩ = c2[o]?) ∧ (∀ o, w1.frozen? ⟨w.heap.size + 1, o, none⟩ = false) ∧ w.heap.size + 1 < w1.heap.size ∧ (∀ o, w1.cell? ⟨w.heap.size + 2, o, none⟩ = c3[o]?) ∧ (∀ o, w1.frozen? ⟨w.heap.size + 2, o, none⟩ = false) ∧ w.heap.size + 2 < w1.heap.size ∧ w.heap.size ≤ w1.heap.size ∧ (∀ b o, b < w.heap.size → w1.cell? ⟨b, o, none⟩ = w.cell? ⟨b, o, none⟩) ∧ (∀ b o, b < w.heap.size → w1.frozen? ⟨b, o, none⟩ = w.frozen? ⟨b, o, none⟩) ∧ Below w.heap.size w w1 := by
  have hz : w.heap.size + 3 ≤ w1.heap.size := by have := hb.size; simp at this; omega
  have hB : Below w.heap.size w w1 := (((((Below.refl _ _).alloc (Nat.le_refl _) _)).alloc (by simp <;> omega) _).alloc (by simp <;> omega) _).trans (hb.mono (by simp <;> omega))
  have e1 : w1.heap[w.heap.size]? = some (.cells c1 t1 (0, 0)) := (hb.block _ (by simp <;> omega)).trans ((Below.heap_alloc _ _ _ (by simp <;> omega)).trans ((Below.heap_alloc _ _ _ (by simp <;> omega)).trans (heap_new _ _ _ (by simp <;> omega))))
  have e2 : w1.heap[w.heap.size + 1]? = some (.cells c2 t2 (0, 0)) := (hb.block _ (by simp <;> omega)).trans ((Below.heap_alloc _ _ _ (by simp <;> omega)).trans (heap_new _ _ _ (by simp <;> omega)))
  have e3 : w1.heap[w.heap.size + 2]? = some (.cells c3 t3 (0, 0)) := (hb.block _ (by simp <;> omega)).trans (heap_new _ _ _ (by simp <;> omega))
  exact ⟨cell_at e1, free_at e1, (by omega), cell_at e2, free_at e2, (by omega), cell_at e3, free_at e3, (by omega), by omega, fun b o h => hB.cell (p := ⟨b, o, none⟩) h, fun b o h => hB.frozen (p := ⟨b, o, none⟩) h, hB⟩
end Go.Proofs.YtdjlaiilngechaaGreatDoor
