/- Texts laid together: PrO AcO. -/
import Derived.Test.YtfolccncegejjaaQRowM
import Derived.Test.YtfolccncegejjaaQOpen
import Derived.Test.YtfolccncegejjaaQAcM
namespace Go.Proofs.Ytfolccncegejjaa
set_option maxRecDepth 4000
set_option linter.unusedSimpArgs false
set_option linter.unusedVariables false
open Go.RowKit Go.Deep Go.WideShapes
/-- Field j of the struct t: s cells from o on, of the type ty. -/
def fieldSubB (P : Program) (t : TypeId) (j o s : Nat) (ty : TypeId) : Bool := match P.underlying t with
  | some (.struct fs) => match fs[j]? with
    | some f => f.offset == o && P.cellsOf f.type == s && f.type == ty
    | none => false
  | _ => false
theorem list5 {α : Type} {l : List α} (h : l.length = 5) : ∃ c0 c1 c2 c3 c4, l = [c0, c1, c2, c3, c4] := by
  match l, h with
  | [c0, c1, c2, c3, c4], _ => exact ⟨c0, c1, c2, c3, c4, rfl⟩
theorem list19 {α : Type} {l : List α} (h : l.length = 19) : ∃ c0 c1 c2 c3 c4 c5 c6 c7 c8 c9 c10 c11 c12 c13 c14 c15 c16 c17 c18, l = [c0, c1, c2, c3, c4, c5, c6, c7, c8, c9, c10, c11, c12, c13, c14, c15, c16, c17, c18] := by
  match l, h with
  | [c0, c1, c2, c3, c4, c5, c6, c7, c8, c9, c10, c11, c12, c13, c14, c15, c16, c17, c18], _ => exact ⟨c0, c1, c2, c3, c4, c5, c6, c7, c8, c9, c10, c11, c12, c13, c14, c15, c16, c17, c18, rfl⟩
section
variable {H : Type} {enc : TypeId × Value → H} {P : Program} {w : World} {base : Nat} {spare : Nat → Bool} {held : Bool}
theorem trod_field {t : TypeId} {fs : Array Field} {cs : List Value} {fu : Nat} {x : DataW H × List MemPlace} (he : P.underlying t = some (.struct fs)) (h : DataW.trod enc P w base spare held fu t cs = some x) {j : Nat} {f : Field} (hj : fs[j]? = some f) :
    ∃ fu' y, DataW.trod enc P w base spare held fu' f.type ((cs.drop f.offset).take (P.cellsOf f.type)) = some y := by
  obtain ⟨xs, n, _, _, hlen, hxl, hi⟩ := DataW.trod_struct he h
  have g := hi j f hj
  have hjl : j < fs.size := (Array.getElem?_eq_some_iff.1 hj).1
  exact ⟨n, _, g.trans (List.getElem?_eq_getElem (by omega))⟩
theorem trod_cell {t : TypeId} {cs : List Value} {fu : Nat} {x : DataW H × List MemPlace} {j o : Nat} {k : FK} (hk : fieldAtB P t j o k = true) (ho : o < cs.length) (h : DataW.trod enc P w base spare held fu t cs = some x) :
    ∃ ty, fkB P k ty = true ∧ ∃ fu y, DataW.trod enc P w base spare held fu ty [cs.getD o undef] = some y := by
  have hs : ∃ fs, P.underlying t = some (.struct fs) := by
    unfold fieldAtB at hk
    split at hk
    · exact ⟨_, by assumption⟩
    · cases hk
  obtain ⟨fs, he⟩ := hs
  obtain ⟨f, hfj, rfl, h1, hkk⟩ := fieldAtB_of he hk
  obtain ⟨fu', y, g⟩ := trod_field he h hfj
  rw [h1] at g
  have hone : (cs.drop f.offset).take 1 = [cs.getD f.offset undef] := by
    rw [List.drop_eq_getElem_cons ho, List.getD_eq_getElem?_getD, List.getElem?_eq_getElem ho]
    rfl
  rw [hone] at g
  exact ⟨f.type, hkk, fu', y, g⟩
theorem trod_sub {t ty : TypeId} {cs : List Value} {fu : Nat} {x : DataW H × List MemPlace} {j o s : Nat} (hk : fieldSubB P t j o s ty = true) (h : DataW.trod enc P w base spare held fu t cs = some x) :
    ∃ fu y, DataW.trod enc P w base spare held fu ty ((cs.drop o).take s) = some y := by
  unfold fieldSubB at hk
  split at hk
  · rename_i fs he
    split at hk
    · rename_i f hf
      simp only [Bool.and_eq_true, beq_iff_eq] at hk
      obtain ⟨⟨h1, h2⟩, h3⟩ := hk
      obtain ⟨fu', y, g⟩ := trod_field he h hf
      rw [h1, h2, h3] at g
      exact ⟨fu', y, g⟩
    · cases hk
  · cases hk
theorem int_open {t eT : TypeId} {fs : Array Field} {ds : List Value} {fu : Nat} {x : DataW H × List MemPlace} (hl : ds.length = 5) (k0 : fieldAtB P t 0 0 (.sl eT) = true) (k1 : fieldAtB P t 1 1 .b = true) (k2 : fieldAtB P t 2 2 .i = true) (k3 : fieldAtB P t 3 3 .i = true) (k4 : fieldAtB P t 4 4 .b = true)
    (he : P.underlying eT = some (.struct fs)) (hfs : fs.size = 2) (hone : oneCellFields P fs = true) (hC : P.cellsOf eT = 2) (e0 : ∀ f, fs[0]? = some f → P.underlying f.type = some (.int .i64)) (e1 : ∀ f, fs[1]? = some f → P.underlying f.type = some (.int .i64))
    (h : DataW.trod enc P w base spare held fu t ds = some x) : ∃ x : LInt, ds = [.slice x.tA x.tn x.tc, .bool x.mg, .int .i64 x.ba, .int .i64 x.mo, .bool x.ke] ∧ Row2 w x.tA x.tn x.f x.g ∧ IB x.tn x.f x.g ∧ IIn x.ba := by
  obtain ⟨c0, c1, c2, c3, c4, rfl⟩ := list5 hl
  obtain ⟨t0, f0, g0⟩ := trod_cell k0 (by simp) h
  obtain ⟨t1, f1, g1⟩ := trod_cell k1 (by simp) h
  obtain ⟨t2, f2, g2⟩ := trod_cell k2 (by simp) h
  obtain ⟨t3, f3, g3⟩ := trod_cell k3 (by simp) h
  obtain ⟨t4, f4, g4⟩ := trod_cell k4 (by simp) h
  obtain ⟨A, n, c, s0, _, _, fu5, y5, r5⟩ := cell_slice (fkB_sl f0) g0
  obtain ⟨f, g, hr, hib⟩ := row2_open (fkB_sl f0) he hfs hone hC e0 e1 r5
  have s1 : c1 = .bool (boolOf c1) := cell_bool (fkB_b f1) g1
  obtain ⟨s2, b2⟩ := cell_int (fkB_i f2) g2
  have s2' : c2 = .int .i64 (intOf c2) := s2
  have s3 : c3 = .int .i64 (intOf c3) := (cell_int (fkB_i f3) g3).1
  have s4 : c4 = .bool (boolOf c4) := cell_bool (fkB_b f4) g4
  have s0' : c0 = .slice A n c := s0
  exact ⟨⟨A, n, c, boolOf c1, intOf c2, intOf c3, boolOf c4, f, g⟩, by
    show [c0, c1, c2, c3, c4] = [.slice A n c, .bool (boolOf c1), .int .i64 (intOf c2), .int .i64 (intOf c3), .bool (boolOf c4)]
    rw [← s0', ← s1, ← s2', ← s3, ← s4], hr, hib, b2⟩
theorem rows_open {t e : TypeId} {sz fuel : Nat} {A : Option Addr} {n c : Nat} {x : DataW H × List MemPlace} (ht : P.underlying t = some (.slice e)) (hC : P.cellsOf e = sz) (hsz : 0 < sz)
    (h : DataW.trod enc P w base spare held fuel t [.slice A n c] = some x) :
    ∃ C : Nat → List Value, (0 < n → ∃ b off, A = some ⟨b, off, none⟩ ∧ b < w.heap.size ∧ ∀ k j v, k < n → (C k)[j]? = some v → w.cell? ⟨b, off + k * sz + j, none⟩ = some v) ∧ ∀ k, k < n → (C k).length = sz ∧ ∃ fu y, DataW.trod enc P w base spare held fu e (C k) = some y := by
  rcases Deep.open_slice ht h with ⟨h0, _⟩ | ⟨a, len, cap, m, q, D, Pl, hcs, _, hl, hm, hmm, _, hi⟩
  · simp at h0
    obtain ⟨rfl, rfl, rfl⟩ := h0
    exact ⟨fun _ => [], fun h => by omega, fun k hk => by omega⟩
  · simp at hcs
    obtain ⟨rfl, rfl, rfl⟩ := hcs
    have key : ∀ i, i < n → ∃ cs : List Value, cs.length = sz ∧ (∀ j v, cs[j]? = some v → w.cell? (a.add (i * sz + j)) = some v) ∧ ∃ fu y, DataW.trod enc P w base spare held fu e cs = some y := by
      intro i hin
      obtain ⟨cs', hc, ht'⟩ := hi i (by rw [hmm]; split <;> omega)
      rw [hC] at hc
      obtain ⟨_, hcl, hat⟩ := World.cells?_some hc
      refine ⟨cs', hcl, fun j v hv => ?_, _, _, ht'⟩
      have hj : j < sz := by rw [← hcl]; exact (List.getElem?_eq_some_iff.1 hv).1
      have hcell := hat j hj
      rw [hv, Deep.add_add] at hcell
      exact hcell
    obtain ⟨b, off, spot⟩ := a
    have hC' : ∃ C : Nat → List Value, ∀ i, i < n → (C i).length = sz ∧ (∀ j v, (C i)[j]? = some v → w.cell? (Addr.add ⟨b, off, spot⟩ (i * sz + j)) = some v) ∧ ∃ fu y, DataW.trod enc P w base spare held fu e (C i) = some y := by
      refine ⟨fun i => if hi : i < n then Classical.choose (key i hi) else [], fun i hi => ?_⟩
      simp only [dif_pos hi]
      exact Classical.choose_spec (key i hi)
    obtain ⟨C, hCC⟩ := hC'
    refine ⟨C, fun hn => ?_, fun k hk => ⟨(hCC k hk).1, (hCC k hk).2.2⟩⟩
    have h0 := hCC 0 hn
    obtain ⟨v0, hv0⟩ : ∃ v0, (C 0)[0]? = some v0 := ⟨_, List.getElem?_eq_getElem (by rw [h0.1]; exact hsz)⟩
    have hv := h0.2.1 0 v0 hv0
    have hs : spot = none := by simpa [Addr.add] using World.cell?_spot hv
    subst hs
    have hadd : ∀ k, Addr.add ⟨b, off, none⟩ k = ⟨b, off + k, none⟩ := fun k => by
      cases k <;> simp [Addr.add]
    rw [hadd] at hv
    refine ⟨b, off, rfl, World.block_lt_of_cell? _ _ hv, fun k j v hk hj => ?_⟩
    have := (hCC k hk).2.1 j v hj
    rw [hadd] at this
    rw [Nat.add_assoc]
    exact this
end
end Go.Proofs.Ytfolccncegejjaa
namespace Go.Proofs.Ytfolccncegejjaa
set_option maxRecDepth 4000
set_option linter.unusedSimpArgs false
set_option linter.unusedVariables false
open Go.RowKit Go.Deep Go.WideShapes
section
variable {H : Type} {enc : TypeId × Value → H} {w : World} {base : Nat} {spare : Nat → Bool} {held : Bool}
structure PrOpen (w : World) (cs : List Value) (p : LPro) : Prop where
  C : p.C = cs.toArray
  cells : PrC p.C p
  cr : Row2 w p.cr.tA p.cr.tn p.cr.f p.cr.g
  db : Row2 w p.db.tA p.db.tn p.db.f p.db.g
  ibc : IB p.cr.tn p.cr.f p.cr.g
  ibd : IB p.db.tn p.db.f p.db.g
  bac : IIn p.cr.ba
  bad : IIn p.db.ba
set_option maxRecDepth 100000 in
theorem pro_open {cs : List Value} {fu : Nat} {x : DataW H × List MemPlace} (hl : cs.length = 19) (h : DataW.trod enc Try.prog w base spare held fu 66 cs = some x) : ∃ p, PrOpen w cs p := by
  have hI : ∀ {ds : List Value} {fu : Nat} {x : DataW H × List MemPlace}, ds.length = 5 → DataW.trod enc Try.prog w base spare held fu 62 ds = some x → ∃ x : LInt, ds = [.slice x.tA x.tn x.tc, .bool x.mg, .int .i64 x.ba, .int .i64 x.mo, .bool x.ke] ∧ Row2 w x.tA x.tn x.f x.g ∧ IB x.tn x.f x.g ∧ IIn x.ba := fun hl h =>
    int_open (eT := 90) hl (by kernel_rfl) (by kernel_rfl) (by kernel_rfl) (by kernel_rfl) (by kernel_rfl) Try.underlying90 rfl (by kernel_rfl) (by kernel_rfl) (fun f hf => by cases hf; kernel_rfl) (fun f hf => by cases hf; kernel_rfl) h
  obtain ⟨c0, c1, c2, c3, c4, c5, c6, c7, c8, c9, c10, c11, c12, c13, c14, c15, c16, c17, c18, rfl⟩ := list19 hl
  obtain ⟨t0, f0, g0⟩ := trod_cell (j := 0) (o := 0) (k := .s) (by kernel_rfl) (by simp) h
  obtain ⟨t1, f1, g1⟩ := trod_cell (j := 1) (o := 1) (k := .s) (by kernel_rfl) (by simp) h
  obtain ⟨t2, f2, g2⟩ := trod_cell (j := 2) (o := 2) (k := .s) (by kernel_rfl) (by simp) h
  obtain ⟨t3, f3, g3⟩ := trod_cell (j := 3) (o := 3) (k := .i) (by kernel_rfl) (by simp) h
  obtain ⟨t4, f4, g4⟩ := trod_cell (j := 4) (o := 4) (k := .i) (by kernel_rfl) (by simp) h
  obtain ⟨t5, f5, g5⟩ := trod_cell (j := 5) (o := 5) (k := .i) (by kernel_rfl) (by simp) h
  obtain ⟨t6, f6, g6⟩ := trod_cell (j := 6) (o := 6) (k := .i) (by kernel_rfl) (by simp) h
  obtain ⟨t17, f17, g17⟩ := trod_cell (j := 9) (o := 17) (k := .sl 171) (by kernel_rfl) (by simp) h
  obtain ⟨t18, f18, g18⟩ := trod_cell (j := 10) (o := 18) (k := .sl 173) (by kernel_rfl) (by simp) h
  obtain ⟨_, _, h7⟩ := trod_sub (j := 7) (o := 7) (s := 5) (ty := 62) (by kernel_rfl) h
  obtain ⟨_, _, h8⟩ := trod_sub (j := 8) (o := 12) (s := 5) (ty := 62) (by kernel_rfl) h
  obtain ⟨xc, ec, rc, ic, bc⟩ := hI (by simp) h7
  obtain ⟨xd, ed, rd, id, bd⟩ := hI (by simp) h8
  simp only [List.drop_succ_cons, List.drop_zero, List.take_succ_cons, List.take_zero, List.cons.injEq, and_true] at ec ed
  obtain ⟨rfl, rfl, rfl, rfl, rfl⟩ := ec
  obtain ⟨rfl, rfl, rfl, rfl, rfl⟩ := ed
  have s0 : c0 = .string (strOf c0) := (cell_str (fkB_s f0) g0).1
  have s1 : c1 = .string (strOf c1) := (cell_str (fkB_s f1) g1).1
  have s2 : c2 = .string (strOf c2) := (cell_str (fkB_s f2) g2).1
  have s3 : c3 = .int .i64 (intOf c3) := (cell_int (fkB_i f3) g3).1
  have s4 : c4 = .int .i64 (intOf c4) := (cell_int (fkB_i f4) g4).1
  have s5 : c5 = .int .i64 (intOf c5) := (cell_int (fkB_i f5) g5).1
  have s6 : c6 = .int .i64 (intOf c6) := (cell_int (fkB_i f6) g6).1
  obtain ⟨A17, n17, m17, s17, _, _, _, _, _⟩ := cell_slice (fkB_sl f17) g17
  have s17 : c17 = .slice A17 n17 m17 := s17
  obtain ⟨A18, n18, m18, s18, _, _, _, _, _⟩ := cell_slice (fkB_sl f18) g18
  have s18 : c18 = .slice A18 n18 m18 := s18
  refine ⟨⟨#[c0, c1, c2, c3, c4, c5, c6, .slice xc.tA xc.tn xc.tc, .bool xc.mg, .int .i64 xc.ba, .int .i64 xc.mo, .bool xc.ke, .slice xd.tA xd.tn xd.tc, .bool xd.mg, .int .i64 xd.ba, .int .i64 xd.mo, .bool xd.ke, c17, c18], strOf c0, intOf c3, xc, xd⟩, rfl, ⟨rfl, ?_, congrArg some s0, congrArg some s3, rfl, rfl, rfl, rfl, rfl, rfl, rfl, rfl, rfl, rfl⟩, rc, rd, ic, id, bc, bd⟩
  show (#[c0, c1, c2, c3, c4, c5, c6, .slice xc.tA xc.tn xc.tc, .bool xc.mg, .int .i64 xc.ba, .int .i64 xc.mo, .bool xc.ke, .slice xd.tA xd.tn xd.tc, .bool xd.mg, .int .i64 xd.ba, .int .i64 xd.mo, .bool xd.ke, c17, c18] : Array Value).all (·.oneCell') = true
  rw [s0, s1, s2, s3, s4, s5, s6, s17, s18]
  simp [Value.oneCell']
set_option maxRecDepth 100000 in
theorem pros_open {fuel : Nat} {A : Option Addr} {n c : Nat} {x : DataW H × List MemPlace} {t : TypeId} (ht : Try.prog.underlying t = some (.slice 66))
    (h : DataW.trod enc Try.prog w base spare held fuel t [.slice A n c] = some x) : ∃ P : Nat → LPro, RowPro w A n P ∧ ∀ k, k < n → PrC (P k).C (P k) ∧ IB (P k).cr.tn (P k).cr.f (P k).cr.g ∧ IB (P k).db.tn (P k).db.f (P k).db.g ∧ IIn (P k).cr.ba ∧ IIn (P k).db.ba := by
  obtain ⟨C, hr, hd⟩ := rows_open (sz := 19) ht (by kernel_rfl) (by decide) h
  have key : ∀ k, k < n → ∃ p, PrOpen w (C k) p := fun k hk => by
    obtain ⟨hl, fu, y, ht'⟩ := hd k hk
    exact pro_open hl ht'
  refine ⟨fun k => if hk : k < n then Classical.choose (key k hk) else ⟨#[], ByteArray.empty, 0, ⟨none, 0, 0, false, 0, 0, false, fun _ => 0, fun _ => 0⟩, ⟨none, 0, 0, false, 0, 0, false, fun _ => 0, fun _ => 0⟩⟩, ⟨fun hn => ?_, fun k hk => ?_, fun k hk => ?_⟩, fun k hk => ?_⟩
  · obtain ⟨b, off, e, hlt, hc⟩ := hr hn
    refine ⟨b, off, e, hlt, fun k j v hk hv => hc k j v hk ?_⟩
    simp only [dif_pos hk] at hv
    rw [(Classical.choose_spec (key k hk)).C] at hv
    simpa using hv
  · simp only [dif_pos hk]; exact (Classical.choose_spec (key k hk)).cr
  · simp only [dif_pos hk]; exact (Classical.choose_spec (key k hk)).db
  · simp only [dif_pos hk]
    have h := Classical.choose_spec (key k hk)
    exact ⟨h.cells, h.ibc, h.ibd, h.bac, h.bad⟩
/-- What is known of books that came in. -/
structure BkArg (w : World) (B : LBk) : Prop where
  bks : Bks B.C B.aA B.an B.ac B.jA B.jn B.jc
  pro : B.C[17]? = some (.slice B.pA B.pn B.pc)
  ones : B.C.all (·.oneCell') = true
  acc : RowAcc w B.aA B.an B.a
  ent : RowEnt w B.jA B.jn B.E
  row : RowPro w B.pA B.pn B.P
  cells : ∀ k, k < B.pn → PrC (B.P k).C (B.P k) ∧ IB (B.P k).cr.tn (B.P k).cr.f (B.P k).cr.g ∧ IB (B.P k).db.tn (B.P k).db.f (B.P k).db.g ∧ IIn (B.P k).cr.ba ∧ IIn (B.P k).db.ba
  entIn : ∀ k, k < B.jn → EntIn (B.E k)
set_option maxRecDepth 100000 in
theorem bk_open {r : Reach} {b0 : Nat} {v : Value} {d : DataW H} {p : List MemPlace} (hv : Value.okWide Try.prog w r b0 33 v) (h : DataW.Trod enc Try.prog w base spare held 33 v d p) :
    ∃ B : LBk, v = .agg B.C ∧ BkArg w B := by
  obtain ⟨C, rfl, hsz, hf⟩ := agg_open (show structB Try.prog 33 = true by kernel_rfl) hv h
  have h22 : Try.prog.cellsOf 33 = 22 := by kernel_rfl
  rw [h22] at hsz
  obtain ⟨t4, k4, h4⟩ := hf 4 17 (.sl 66) (by kernel_rfl) (by omega)
  obtain ⟨t5, k5, h5⟩ := hf 5 18 (.sl 70) (by kernel_rfl) (by omega)
  obtain ⟨t6, k6, h6⟩ := hf 6 19 (.sl 59) (by kernel_rfl) (by omega)
  obtain ⟨pA, pn, pc, e4, l4, m4, fu4, y4, r4⟩ := cell_slice (fkB_sl k4) h4
  obtain ⟨aA, an, ac, e5, l5, m5, fu5, y5, r5⟩ := cell_slice (fkB_sl k5) h5
  obtain ⟨jA, jn, jc, e6, l6, m6, fu6, y6, r6⟩ := cell_slice (fkB_sl k6) h6
  obtain ⟨P, hP, hP2⟩ := pros_open (fkB_sl k4) r4
  obtain ⟨a, ha, ha2⟩ := acc_open (fkB_sl k5) Try.underlying70 (by kernel_rfl) (by kernel_rfl) (by kernel_rfl) r5
  obtain ⟨E, hE, hE2⟩ := ent_open (fkB_sl k6) Try.underlying59 (by kernel_rfl : fieldsB Try.prog _ (entK 93) = true) (by kernel_rfl) (by kernel_rfl) Try.underlying93 (by kernel_rfl) (by kernel_rfl) (by kernel_rfl) rfl r6
  exact ⟨⟨C, aA, an, ac, a, jA, jn, jc, E, pA, pn, pc, P⟩, rfl, ⟨⟨hsz, getD_cell (show 18 < C.size by omega) e5, getD_cell (show 19 < C.size by omega) e6⟩, getD_cell (show 17 < C.size by omega) e4, agg_one (show structB Try.prog 33 = true by kernel_rfl) hv, ha, hE, hP, hP2, hE2⟩⟩
end
end Go.Proofs.Ytfolccncegejjaa
