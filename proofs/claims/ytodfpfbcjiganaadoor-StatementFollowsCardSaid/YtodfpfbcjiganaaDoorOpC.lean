/- Arguments that are books, statements, entries at this seat. -/
import Derived.Test.YtodfpfbcjiganaaDoorOpB
import Derived.Test.YtodfpfbcjiganaaDoorStA
namespace Go.Proofs.YtodfpfbcjiganaaDoor
set_option linter.unusedSimpArgs false
set_option linter.unusedVariables false
open Go.RowKit Go.Deep Go.WideShapes
section
variable {H : Type} {enc : TypeId × Value → H} {w : World} {base : Nat} {spare : Nat → Bool} {held : Bool}
set_option maxRecDepth 100000 in
theorem books_open {r : Reach} {b0 : Nat} {v : Value} {d : DataW H} {p : List MemPlace} (hv : Value.okWide Tryd.prog w r b0 33 v) (h : DataW.Trod enc Tryd.prog w base spare held 33 v d p) :
    ∃ C aA an ac jA jn jc a E, v = .agg C ∧ Bks C aA an ac jA jn jc ∧ an ≤ ac ∧ ac ≤ maxLen ∧ jn ≤ jc ∧ jc ≤ maxLen ∧ RowAcc w aA an a ∧ (∀ k, k < an → AccIn (a k)) ∧ RowEnt w jA jn E ∧ (∀ k, k < jn → EntIn (E k)) := by
  obtain ⟨C, rfl, hsz, hf⟩ := agg_open (show structB Tryd.prog 33 = true by kernel_rfl) hv h
  have h22 : Tryd.prog.cellsOf 33 = 22 := by kernel_rfl
  rw [h22] at hsz
  obtain ⟨t5, k5, h5⟩ := hf 5 18 (.sl 57) (by kernel_rfl) (by omega)
  obtain ⟨t6, k6, h6⟩ := hf 6 19 (.sl 54) (by kernel_rfl) (by omega)
  obtain ⟨aA, an, ac, e5, l5, m5, fu5, y5, r5⟩ := cell_slice (fkB_sl k5) h5
  obtain ⟨jA, jn, jc, e6, l6, m6, fu6, y6, r6⟩ := cell_slice (fkB_sl k6) h6
  obtain ⟨a, ha, ha2⟩ := acc_open (fkB_sl k5) Tryd.underlying57 (by kernel_rfl) (by kernel_rfl) (by kernel_rfl) r5
  obtain ⟨E, hE, hE2⟩ := ent_open (fkB_sl k6) Tryd.underlying54 (by kernel_rfl : fieldsB Tryd.prog _ (entK 62) = true) (by kernel_rfl) (by kernel_rfl) Tryd.underlying62 (by kernel_rfl) (by kernel_rfl) (by kernel_rfl) rfl r6
  exact ⟨C, aA, an, ac, jA, jn, jc, a, E, rfl, ⟨hsz, getD_cell (by omega) e5, getD_cell (by omega) e6⟩, l5, m5, l6, m6, ha, ha2, hE, hE2⟩
set_option maxRecDepth 100000 in
theorem stm_open {r : Reach} {b0 : Nat} {v : Value} {d : DataW H} {p : List MemPlace} (hv : Value.okWide Tryd.prog w r b0 40 v) (h : DataW.Trod enc Tryd.prog w base spare held 40 v d p) :
    ∃ ac no f t op cl lA ln lc P, v = .agg #[.int .i64 ac, .int .i64 no, .int .i64 f, .int .i64 t, .int .i64 op, .int .i64 cl, .slice lA ln lc] ∧ IIn ac ∧ IIn no ∧ IIn f ∧ IIn t ∧ IIn op ∧ IIn cl ∧ ln ≤ lc ∧ lc ≤ maxLen ∧ RowPos w lA ln P ∧ (∀ k, k < ln → PosIn (P k)) := by
  obtain ⟨C, rfl, hsz, hf⟩ := agg_open (show structB Tryd.prog 40 = true by kernel_rfl) hv h
  have h7 : Tryd.prog.cellsOf 40 = 7 := by kernel_rfl
  rw [h7] at hsz
  obtain ⟨c0, c1, c2, c3, c4, c5, c6, rfl⟩ := array7 hsz
  obtain ⟨t0, k0, h0⟩ := hf 0 0 .i (by kernel_rfl) (by simp)
  obtain ⟨t1, k1, h1⟩ := hf 1 1 .i (by kernel_rfl) (by simp)
  obtain ⟨t2, k2, h2⟩ := hf 2 2 .i (by kernel_rfl) (by simp)
  obtain ⟨t3, k3, h3⟩ := hf 3 3 .i (by kernel_rfl) (by simp)
  obtain ⟨t4, k4, h4⟩ := hf 4 4 .i (by kernel_rfl) (by simp)
  obtain ⟨t5, k5, h5⟩ := hf 5 5 .i (by kernel_rfl) (by simp)
  obtain ⟨t6, k6, h6⟩ := hf 6 6 (.sl 66) (by kernel_rfl) (by simp)
  obtain ⟨e0, b0⟩ := cell_int (fkB_i k0) h0
  obtain ⟨e1, b1⟩ := cell_int (fkB_i k1) h1
  obtain ⟨e2, b2⟩ := cell_int (fkB_i k2) h2
  obtain ⟨e3, b3⟩ := cell_int (fkB_i k3) h3
  obtain ⟨e4, b4⟩ := cell_int (fkB_i k4) h4
  obtain ⟨e5, b5⟩ := cell_int (fkB_i k5) h5
  obtain ⟨lA, ln, lc, e6, l6, m6, fu6, y6, r6⟩ := cell_slice (fkB_sl k6) h6
  obtain ⟨P, hP, hP2⟩ := pos_open (fkB_sl k6) Tryd.underlying66 (by kernel_rfl) (by kernel_rfl) (by kernel_rfl) r6
  have g0 : c0 = .int .i64 (intOf c0) := e0
  have g1 : c1 = .int .i64 (intOf c1) := e1
  have g2 : c2 = .int .i64 (intOf c2) := e2
  have g3 : c3 = .int .i64 (intOf c3) := e3
  have g4 : c4 = .int .i64 (intOf c4) := e4
  have g5 : c5 = .int .i64 (intOf c5) := e5
  have g6 : c6 = .slice lA ln lc := e6
  refine ⟨intOf c0, intOf c1, intOf c2, intOf c3, intOf c4, intOf c5, lA, ln, lc, P, ?_, b0, b1, b2, b3, b4, b5, l6, m6, hP, hP2⟩
  rw [← g0, ← g1, ← g2, ← g3, ← g4, ← g5, ← g6]
set_option maxRecDepth 100000 in
theorem books_open2 {r : Reach} {b0 : Nat} {v : Value} {d : DataW H} {p : List MemPlace} (hv : Value.okWide Tryd.prog w r b0 33 v) (h : DataW.Trod enc Tryd.prog w base spare held 33 v d p) :
    ∃ C aA an ac jA jn jc a E, v = .agg C ∧ Bks C aA an ac jA jn jc ∧ an ≤ ac ∧ ac ≤ maxLen ∧ jn ≤ jc ∧ jc ≤ maxLen ∧ RowAcc w aA an a ∧ (∀ k, k < an → AccIn (a k)) ∧ RowEnt w jA jn E ∧ (∀ k, k < jn → EntIn (E k)) ∧ C.all (·.oneCell') = true := by
  obtain ⟨C, aA, an, ac, jA, jn, jc, a, E, rfl, h1, h2, h3, h4, h5, h6, h7, h8, h9⟩ := books_open hv h
  exact ⟨C, aA, an, ac, jA, jn, jc, a, E, rfl, h1, h2, h3, h4, h5, h6, h7, h8, h9, agg_one (show structB Tryd.prog 33 = true by kernel_rfl) hv⟩
set_option maxRecDepth 100000 in
theorem ent_arg {r : Reach} {b0 : Nat} {v : Value} {d : DataW H} {p : List MemPlace} (hv : Value.okWide Tryd.prog w r b0 54 v) (h : DataW.Trod enc Tryd.prog w base spare held 54 v d p) :
    ∃ i0 i1 i2 i3 i4 i5 key tx lA ln lc ch legs, v = .agg #[.int .i64 i0, .int .i64 i1, .int .i64 i2, .int .i64 i3, .int .i64 i4, .int .i64 i5, .string key, .string tx, .slice lA ln lc, .int .u64 ch] ∧ ln ≤ lc ∧ lc ≤ maxLen ∧ RowLeg w lA ln legs ∧ (∀ k, k < ln → LegIn (legs k)) := by
  obtain ⟨C, rfl, hsz, hf⟩ := agg_open (show structB Tryd.prog 54 = true by kernel_rfl) hv h
  have h10 : Tryd.prog.cellsOf 54 = 10 := by kernel_rfl
  rw [h10] at hsz
  obtain ⟨c0, c1, c2, c3, c4, c5, c6, c7, c8, c9, rfl⟩ := array10 hsz
  obtain ⟨t0, k0, h0⟩ := hf 0 0 .i (by kernel_rfl) (by simp)
  obtain ⟨t1, k1, h1⟩ := hf 1 1 .i (by kernel_rfl) (by simp)
  obtain ⟨t2, k2, h2⟩ := hf 2 2 .i (by kernel_rfl) (by simp)
  obtain ⟨t3, k3, h3⟩ := hf 3 3 .i (by kernel_rfl) (by simp)
  obtain ⟨t4, k4, h4⟩ := hf 4 4 .i (by kernel_rfl) (by simp)
  obtain ⟨t5, k5, h5⟩ := hf 5 5 .i (by kernel_rfl) (by simp)
  obtain ⟨t6, k6, h6⟩ := hf 6 6 .s (by kernel_rfl) (by simp)
  obtain ⟨t7, k7, h7⟩ := hf 7 7 .s (by kernel_rfl) (by simp)
  obtain ⟨t8, k8, h8⟩ := hf 8 8 (.sl 62) (by kernel_rfl) (by simp)
  obtain ⟨t9, k9, h9⟩ := hf 9 9 .u (by kernel_rfl) (by simp)
  have g0 : c0 = .int .i64 (intOf c0) := (cell_int (fkB_i k0) h0).1
  have g1 : c1 = .int .i64 (intOf c1) := (cell_int (fkB_i k1) h1).1
  have g2 : c2 = .int .i64 (intOf c2) := (cell_int (fkB_i k2) h2).1
  have g3 : c3 = .int .i64 (intOf c3) := (cell_int (fkB_i k3) h3).1
  have g4 : c4 = .int .i64 (intOf c4) := (cell_int (fkB_i k4) h4).1
  have g5 : c5 = .int .i64 (intOf c5) := (cell_int (fkB_i k5) h5).1
  have g6 : c6 = .string (strOf c6) := (cell_str (fkB_s k6) h6).1
  have g7 : c7 = .string (strOf c7) := (cell_str (fkB_s k7) h7).1
  have g9 : c9 = .int .u64 (intOf c9) := (cell_u64 (fkB_u k9) h9).1
  obtain ⟨lA, ln, lc, e8, l8, m8, fu8, y8, r8⟩ := cell_slice (fkB_sl k8) h8
  have g8 : c8 = .slice lA ln lc := e8
  obtain ⟨legs, hl1, hl2⟩ := leg_open (fkB_sl k8) Tryd.underlying62 (by kernel_rfl) (by kernel_rfl) (by kernel_rfl) r8
  refine ⟨intOf c0, intOf c1, intOf c2, intOf c3, intOf c4, intOf c5, strOf c6, strOf c7, lA, ln, lc, intOf c9, legs, ?_, l8, m8, hl1, hl2⟩
  rw [← g0, ← g1, ← g2, ← g3, ← g4, ← g5, ← g6, ← g7, ← g8, ← g9]
end
end Go.Proofs.YtodfpfbcjiganaaDoor
