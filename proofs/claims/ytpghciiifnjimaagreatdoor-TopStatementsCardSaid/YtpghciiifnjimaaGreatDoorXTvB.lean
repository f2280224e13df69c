/- Texts laid together: TvB. -/
import Derived.Test.YtpghciiifnjimaaGreatDoorXTqE
import Derived.Test.YtpghciiifnjimaaGreatDoorXK0
namespace Go.Proofs.YtpghciiifnjimaaGreatDoor
set_option maxRecDepth 4000
set_option linter.unusedSimpArgs false
set_option linter.unusedVariables false
open Go.RowKit
/-- A walk goes on from any world of which the facts hold. -/
theorem wp_gen {P : Program} {c : Code} {Q : Exit → Act → World → Prop} {a : Act} {w : World} (R : World → Prop) (hR : R w) (h : ∀ w', R w' → c.wp P Q a w') : c.wp P Q a w := h w hR

abbrev xEur : ByteArray := ⟨#[69, 85, 82]⟩
abbrev xGiro : ByteArray := ⟨#[103, 105, 114, 111]⟩
abbrev xHome : ByteArray := ⟨#[104, 111, 109, 101]⟩
def lvC7 (cu ca : Nat) : Array Value := #[.slice (some ⟨cu, 0, none⟩) 1 1, .slice (some ⟨ca, 0, none⟩) 1 1, .slice none 0 0, .int .i64 0, .int .i64 0, .int .i64 0, .int .i64 0, .int .i64 0, .int .i64 0, .int .i64 0, .int .i64 0, .int .i64 0, .int .i64 0, .int .i64 0, .int .i64 0, .int .i64 0, .int .i64 0, .slice none 0 0, .slice none 0 0, .slice none 0 0, .slice none 0 0, .slice none 0 0]
def lvC8 (cu ca ch : Nat) : Array Value := #[.slice (some ⟨cu, 0, none⟩) 1 1, .slice (some ⟨ca, 0, none⟩) 1 1, .slice (some ⟨ch, 0, none⟩) 7 7, .int .i64 101, .int .i64 201, .int .i64 401, .int .i64 301, .int .i64 301, .int .i64 202, .int .i64 102, .int .i64 103, .int .i64 301, .int .i64 301, .int .i64 202, .int .i64 401, .int .i64 401, .int .i64 301, .slice none 0 0, .slice none 0 0, .slice none 0 0, .slice none 0 0, .slice none 0 0]
def lvC9 (cu ca ch pr : Nat) : Array Value := #[.slice (some ⟨cu, 0, none⟩) 1 1, .slice (some ⟨ca, 0, none⟩) 1 1, .slice (some ⟨ch, 0, none⟩) 7 7, .int .i64 101, .int .i64 201, .int .i64 401, .int .i64 301, .int .i64 301, .int .i64 202, .int .i64 102, .int .i64 103, .int .i64 301, .int .i64 301, .int .i64 202, .int .i64 401, .int .i64 401, .int .i64 301, .slice (some ⟨pr, 0, none⟩) 1 1, .slice none 0 0, .slice none 0 0, .slice none 0 0, .slice none 0 0]
/-- The books' cells. -/
def lvC (cu ca ch pr ac : Nat) : Array Value := #[.slice (some ⟨cu, 0, none⟩) 1 1, .slice (some ⟨ca, 0, none⟩) 1 1, .slice (some ⟨ch, 0, none⟩) 7 7, .int .i64 101, .int .i64 201, .int .i64 401, .int .i64 301, .int .i64 301, .int .i64 202, .int .i64 102, .int .i64 103, .int .i64 301, .int .i64 301, .int .i64 202, .int .i64 401, .int .i64 401, .int .i64 301, .slice (some ⟨pr, 0, none⟩) 1 1, .slice (some ⟨ac, 0, none⟩) 2 2, .slice none 0 0, .slice none 0 0, .slice none 0 0]
abbrev lvGl : Array Value := #[.int .i64 101, .int .i64 0, .int .i64 1, .string ⟨#[99, 97, 115, 104]⟩, .int .i64 102, .int .i64 0, .int .i64 1, .string ⟨#[99, 108, 101, 97, 114, 105, 110, 103]⟩, .int .i64 103, .int .i64 0, .int .i64 1, .string ⟨#[108, 111, 97, 110, 115]⟩, .int .i64 201, .int .i64 0, .int .i64 2, .string ⟨#[100, 101, 112, 111, 115, 105, 116, 115]⟩, .int .i64 202, .int .i64 0, .int .i64 2, .string ⟨#[111, 116, 104, 101, 114]⟩, .int .i64 301, .int .i64 0, .int .i64 4, .string ⟨#[105, 110, 99, 111, 109, 101]⟩, .int .i64 401, .int .i64 0, .int .i64 5, .string ⟨#[101, 120, 112, 101, 110, 115, 101]⟩]
abbrev lvPC (ti : Nat) : Array Value := #[.string xGiro, .string xEur, .string xHome, .int .i64 9000, .int .i64 1, .int .i64 500, .int .i64 0, .slice (some ⟨ti, 0, none⟩) 1 1, .bool false, .int .i64 1, .int .i64 6, .bool false, .slice (some ⟨ti, 0, none⟩) 1 1, .bool false, .int .i64 1, .int .i64 6, .bool false, .slice none 0 0, .slice none 0 0]
abbrev lvAc (s1 s2 : ByteArray) : Array Value := #[.int .i64 1000, .int .i64 9678, .int .i64 0, .int .i64 0, .string ⟨#[97, 110, 110, 97]⟩, .string xGiro, .string s1, .int .i64 1001, .int .i64 9678, .int .i64 0, .int .i64 0, .string ⟨#[98, 101, 110]⟩, .string xGiro, .string s2]
/-- The blocks of the books. -/
structure LvM (w : World) (cu ca ch pr ac ti : Nat) (s1 s2 : ByteArray) : Prop where
 cu : w.heap[cu]? = some (.cells #[.string xEur, .int .i64 2] 145 (0, 0))
 ch : w.heap[ch]? = some (.cells lvGl 148 (0, 0))
 pr : w.heap[pr]? = some (.cells (lvPC ti) 88 (0, 0))
 ac : w.heap[ac]? = some (.cells (lvAc s1 s2) 44 (0, 0))
 ti : w.heap[ti]? = some (.cells #[.int .i64 0, .int .i64 36000] 165 (0, 0))
theorem LvM.below {w w' : World} {cu ca ch pr ac ti : Nat} {s1 s2 : ByteArray} (h : LvM w cu ca ch pr ac ti s1 s2) (hb : Below w.heap.size w w') : LvM w' cu ca ch pr ac ti s1 s2 :=
 ⟨blk_below hb (heap_lt h.cu) h.cu, blk_below hb (heap_lt h.ch) h.ch, blk_below hb (heap_lt h.pr) h.pr, blk_below hb (heap_lt h.ac) h.ac, blk_below hb (heap_lt h.ti) h.ti⟩
/-- What Books returns. -/
def BoRet (w : World) (e : Ending) (w' : World) : Prop := ∃ cu ca ch pr ac ti s1 s2, e = .returned (.agg (lvC cu ca ch pr ac)) ∧ LvM w' cu ca ch pr ac ti s1 s2 ∧ Below w.heap.size w w'
theorem bo_zero : ∃ (i : TypeInfo) (Z : Array Value), Tryz.prog.info? 33 = some i ∧ i.zero = some (.agg Z) ∧ Z.size = 22 := by
 obtain ⟨i, h1, h2⟩ := info_agg (show (Tryz.prog.info? 33).bind (·.zero) = some (.agg #[.slice none 0 0, .slice none 0 0, .slice none 0 0, .int .i64 0, .int .i64 0, .int .i64 0, .int .i64 0, .int .i64 0, .int .i64 0, .int .i64 0, .int .i64 0, .int .i64 0, .int .i64 0, .int .i64 0, .int .i64 0, .int .i64 0, .int .i64 0, .slice none 0 0, .slice none 0 0, .slice none 0 0, .slice none 0 0, .slice none 0 0]) by kernel_rfl)
 exact ⟨i, _, h1, h2, rfl⟩
theorem bo_built (cu ca : Nat) : Tryz.prog.built 33 [(0, .slice (some ⟨cu, 0, none⟩) 1 1), (1, .slice (some ⟨ca, 0, none⟩) 1 1)] = some (lvC7 cu ca) := by kernel_rfl
theorem bo_one7 (cu ca : Nat) : (lvC7 cu ca).all (·.oneCell') = true := by kernel_rfl
theorem bo_one (cu ca ch pr ac : Nat) : (lvC cu ca ch pr ac).all (·.oneCell') = true := by kernel_rfl
set_option maxRecDepth 20000 in
set_option maxHeartbeats 8000000 in
theorem lv_books (w : World) : Calls Tryz.prog 48 #[] w (BoRet w) := by
 obtain ⟨i0, Z, hi0, hi1, hi2⟩ := bo_zero
 have HZ := hide hi2
 have HI := hide (And.intro hi0 hi1)
 clear hi0 hi1 hi2
 have HW := hide (show ∀ (C : Array Value), C.size = 22 → (Tryz.prog.info? 33).map (·.size) = some C.size from fun C h => by rw [h]; kernel_rfl)
 have HW7 := hide (HW.out (lvC7 (w.heap.size + 1) (w.heap.size + 1 + 1)) rfl)
 have HZ7 := hide (show Z.size = (lvC7 (w.heap.size + 1) (w.heap.size + 1 + 1)).size from HZ.out)
 go_enter Tryz.func48, Tryz.ntmps48
 go_upto_region 2 with (first
  | (with_reducible refine wpList_alloc_row rfl 33 rfl (some 0) rfl i0 HI.out.1 Z HI.out.2 w.heap.size rfl ?_)
  | ((with_reducible refine Go.wpList_buildTo rfl 33 #[(0, .tmp 4), (1, .tmp 6)] rfl (some 7) rfl (lvC7 (w.heap.size + 1) (w.heap.size + 1 + 1)) ?_ ?_); (focus (refine Eq.trans (congrArg _ ?_) (bo_built _ _); simp [Act.eval])))
  | (with_reducible refine wpList_alloc_row rfl 33 rfl (some 1) rfl i0 HI.out.1 Z HI.out.2 (w.heap.size + 1 + 1 + 1) (by simp) ?_)
  | ((with_reducible refine wpList_store_newrow2 rfl 33 (.tmp 1) (.tmp 7) rfl rfl (w.heap.size + 1 + 1 + 1) (lvC7 (w.heap.size + 1) (w.heap.size + 1 + 1)) rfl rfl 33 Z (blk_new (by simp)) HW7.out HZ7.out (bo_one7 _ _) ?_); intro w4 hb4 hz4 hx4 hk4))
 have S4 : w4.heap.size = w.heap.size + 1 + 1 + 1 + 1 := by rw [hz4]; simp
 have B4 := hide (show Below w.heap.size w w4 from Below.trans belT (hb4.mono (by omega)))
 have R4 := hide ((hk4 w.heap.size (by omega)).trans (show _ = some (Obj.cells Z 33) from blk_under (blk_under (blk_under (blk_new rfl)))))
 have U4 := hide ((hk4 (w.heap.size + 1) (by omega)).trans (show _ = some (Obj.cells #[.string xEur, .int .i64 2] 145) from blk_under (blk_under (blk_new (by simp)))))
 have X4 := hide hx4
 clear hb4 hz4 hk4 hx4
 have w4c2 := (cell_of_cells X4.out 2).trans (show (lvC7 (w.heap.size + 1) (w.heap.size + 1 + 1))[2]? = some _ from rfl)
 have w4c3 := (cell_of_cells X4.out 3).trans (show (lvC7 (w.heap.size + 1) (w.heap.size + 1 + 1))[3]? = some _ from rfl)
 have w4c4 := (cell_of_cells X4.out 4).trans (show (lvC7 (w.heap.size + 1) (w.heap.size + 1 + 1))[4]? = some _ from rfl)
 have w4c5 := (cell_of_cells X4.out 5).trans (show (lvC7 (w.heap.size + 1) (w.heap.size + 1 + 1))[5]? = some _ from rfl)
 have w4c6 := (cell_of_cells X4.out 6).trans (show (lvC7 (w.heap.size + 1) (w.heap.size + 1 + 1))[6]? = some _ from rfl)
 have w4c7 := (cell_of_cells X4.out 7).trans (show (lvC7 (w.heap.size + 1) (w.heap.size + 1 + 1))[7]? = some _ from rfl)
 have w4c8 := (cell_of_cells X4.out 8).trans (show (lvC7 (w.heap.size + 1) (w.heap.size + 1 + 1))[8]? = some _ from rfl)
 have w4c9 := (cell_of_cells X4.out 9).trans (show (lvC7 (w.heap.size + 1) (w.heap.size + 1 + 1))[9]? = some _ from rfl)
 have w4c10 := (cell_of_cells X4.out 10).trans (show (lvC7 (w.heap.size + 1) (w.heap.size + 1 + 1))[10]? = some _ from rfl)
 have w4c11 := (cell_of_cells X4.out 11).trans (show (lvC7 (w.heap.size + 1) (w.heap.size + 1 + 1))[11]? = some _ from rfl)
 have w4c12 := (cell_of_cells X4.out 12).trans (show (lvC7 (w.heap.size + 1) (w.heap.size + 1 + 1))[12]? = some _ from rfl)
 have w4c13 := (cell_of_cells X4.out 13).trans (show (lvC7 (w.heap.size + 1) (w.heap.size + 1 + 1))[13]? = some _ from rfl)
 have w4c14 := (cell_of_cells X4.out 14).trans (show (lvC7 (w.heap.size + 1) (w.heap.size + 1 + 1))[14]? = some _ from rfl)
 have w4c15 := (cell_of_cells X4.out 15).trans (show (lvC7 (w.heap.size + 1) (w.heap.size + 1 + 1))[15]? = some _ from rfl)
 have w4c16 := (cell_of_cells X4.out 16).trans (show (lvC7 (w.heap.size + 1) (w.heap.size + 1 + 1))[16]? = some _ from rfl)
 have w4f := fun o => free_of_cells X4.out o
 have w4n0 : ¬ w4.heap.size = w.heap.size + 1 + 1 + 1 := (by omega)
 have w4n1 : ¬ w4.heap.size + 1 = w.heap.size + 1 + 1 + 1 := (by omega)
 have w4n2 : ¬ w4.heap.size + 1 + 1 = w.heap.size + 1 + 1 + 1 := (by omega)
 have w4n3 : ¬ w4.heap.size + 1 + 1 + 1 = w.heap.size + 1 + 1 + 1 := (by omega)
 go_upto_region 4 with fail
 refine wp_gen (fun W => W.heap.size = w.heap.size + 1 + 1 + 1 + 1 + 1 ∧ Below w.heap.size w W ∧ W.heap[w.heap.size]? = some (.cells Z 33 (0, 0)) ∧ W.heap[w.heap.size + 1]? = some (.cells #[.string xEur, .int .i64 2] 145 (0, 0)) ∧ (∃ C, W.heap[w.heap.size + 1 + 1 + 1]? = some (.cells C 33 (0, 0)) ∧ C = lvC8 (w.heap.size + 1) (w.heap.size + 1 + 1) (w.heap.size + 1 + 1 + 1 + 1)) ∧ W.heap[w.heap.size + 1 + 1 + 1 + 1]? = some (.cells lvGl 148 (0, 0))) ⟨?_, ?_, ?_, ?_, ?_, ?_⟩ ?_
 ·simp [S4]
 ·exact B4.out.trans belT
 ·exact (by repeat (with_reducible first | exact R4.out | exact blk_new (by simp [S4]; done) | refine blk_setOther (by first | omega | (simp; done) | (simp; omega)) ?_ | refine blk_under ?_))
 ·exact (by repeat (with_reducible first | exact U4.out | exact blk_new (by simp [S4]; done) | refine blk_setOther (by first | omega | (simp; done) | (simp; omega)) ?_ | refine blk_under ?_))
 ·apply Exists.intro
  apply And.intro
  ·repeat (with_reducible first | exact X4.out | apply blk_setCell | apply blk_under)
  ·kernel_rfl
 ·exact (by repeat (with_reducible first | exact X4.out | exact blk_new (by simp [S4]; done) | refine blk_setOther (by first | omega | (simp; done) | (simp; omega)) ?_ | refine blk_under ?_))
 clear w4f w4n0 w4n1 w4n2 w4n3 w4c2 w4c3 w4c4 w4c5 w4c6 w4c7 w4c8 w4c9 w4c10 w4c11 w4c12 w4c13 w4c14 w4c15 w4c16 S4
 rintro w8 ⟨S8, B8, R8, U8, ⟨C8, X8, rfl⟩, G8⟩
 replace B8 := hide B8
 replace R8 := hide R8
 replace U8 := hide U8
 replace X8 := hide X8
 replace G8 := hide G8
 have w8c17 := (cell_of_cells X8.out 17).trans (show (lvC8 (w.heap.size + 1) (w.heap.size + 1 + 1) (w.heap.size + 1 + 1 + 1 + 1))[17]? = some _ from rfl)
 have w8f := fun o => free_of_cells X8.out o
 have w8n0 : ¬ w8.heap.size = w.heap.size + 1 + 1 + 1 := (by omega)
 have w8n1 : ¬ w8.heap.size + 1 = w.heap.size + 1 + 1 + 1 := (by omega)
 have w8n2 : ¬ w8.heap.size + 1 + 1 = w.heap.size + 1 + 1 + 1 := (by omega)
 have w8n3 : ¬ w8.heap.size + 1 + 1 + 1 = w.heap.size + 1 + 1 + 1 := (by omega)
 go_upto_region 6 with fail
 refine wp_gen (fun W => W.heap.size = w.heap.size + 1 + 1 + 1 + 1 + 1 + 1 + 1 + 1 ∧ Below w.heap.size w W ∧ W.heap[w.heap.size]? = some (.cells Z 33 (0, 0)) ∧ W.heap[w.heap.size + 1]? = some (.cells #[.string xEur, .int .i64 2] 145 (0, 0)) ∧ (∃ C, W.heap[w.heap.size + 1 + 1 + 1]? = some (.cells C 33 (0, 0)) ∧ C = lvC9 (w.heap.size + 1) (w.heap.size + 1 + 1) (w.heap.size + 1 + 1 + 1 + 1) (w.heap.size + 1 + 1 + 1 + 1 + 1 + 1 + 1)) ∧ W.heap[w.heap.size + 1 + 1 + 1 + 1]? = some (.cells lvGl 148 (0, 0)) ∧ W.heap[w.heap.size + 1 + 1 + 1 + 1 + 1]? = some (.cells #[.int .i64 0, .int .i64 36000] 165 (0, 0)) ∧ W.heap[w.heap.size + 1 + 1 + 1 + 1 + 1 + 1 + 1]? = some (.cells (lvPC (w.heap.size + 1 + 1 + 1 + 1 + 1)) 88 (0, 0))) ⟨?_, ?_, ?_, ?_, ?_, ?_, ?_, ?_⟩ ?_
 ·simp [S8]
 ·exact B8.out.trans belT
 ·exact (by repeat (with_reducible first | exact R8.out | exact blk_new (by simp [S8]; done) | refine blk_setOther (by first | omega | (simp; done) | (simp; omega)) ?_ | refine blk_under ?_))
 ·exact (by repeat (with_reducible first | exact U8.out | exact blk_new (by simp [S8]; done) | refine blk_setOther (by first | omega | (simp; done) | (simp; omega)) ?_ | refine blk_under ?_))
 ·apply Exists.intro
  apply And.intro
  ·repeat (with_reducible first | exact X8.out | apply blk_setCell | apply blk_under)
  ·kernel_rfl
 ·exact (by repeat (with_reducible first | exact G8.out | exact blk_new (by simp [S8]; done) | refine blk_setOther (by first | omega | (simp; done) | (simp; omega)) ?_ | refine blk_under ?_))
 ·exact (by repeat (with_reducible first | exact G8.out | exact blk_new (by simp [S8]; done) | refine blk_setOther (by first | omega | (simp; done) | (simp; omega)) ?_ | refine blk_under ?_))
 ·exact (by repeat (with_reducible first | exact G8.out | exact blk_new (by simp [S8]; done) | refine blk_setOther (by first | omega | (simp; done) | (simp; omega)) ?_ | refine blk_under ?_))
 clear w8f w8n0 w8n1 w8n2 w8n3 w8c17 S8
 rintro w9 ⟨S9, B9, R9, U9, ⟨C9, X9, rfl⟩, G9, T9, P9⟩
 have z9 : w.heap.size < w9.heap.size := by omega
 replace B9 := hide B9
 replace R9 := hide R9
 replace U9 := hide U9
 replace X9 := hide X9
 replace G9 := hide G9
 replace T9 := hide T9
 replace P9 := hide P9
 clear HW7 HZ7 B4 R4 U4 X4 B8 R8 U8 X8 G8
 go_wp2_with fail
 refine (number_any 1000 (by decide) (by decide) _).mono ?_
 rintro e w5 ⟨⟨s1, rfl⟩, hb⟩
 have S5 := hb.size
 have B5 := hide (B9.out.trans (hb.mono (by omega)))
 have R5 := hide (blk_below hb (by omega) R9.out)
 have U5 := hide (blk_below hb (by omega) U9.out)
 have X5 := hide (blk_below hb (by omega) X9.out)
 have G5 := hide (blk_below hb (by omega) G9.out)
 have T5 := hide (blk_below hb (by omega) T9.out)
 have P5 := hide (blk_below hb (by omega) P9.out)
 clear hb
 go_wp2_with fail
 refine (number_any 1001 (by decide) (by decide) _).mono ?_
 rintro e w6 ⟨⟨s2, rfl⟩, hb⟩
 have S6 := hb.size
 have B6 := hide (B5.out.trans (hb.mono (by omega)))
 have R6 := hide (blk_below hb (by omega) R5.out)
 have U6 := hide (blk_below hb (by omega) U5.out)
 have X6 := hide (blk_below hb (by omega) X5.out)
 have G6 := hide (blk_below hb (by omega) G5.out)
 have T6 := hide (blk_below hb (by omega) T5.out)
 have P6 := hide (blk_below hb (by omega) P5.out)
 clear hb
 have w6c18 := (cell_of_cells X6.out 18).trans (show (lvC9 (w.heap.size + 1) (w.heap.size + 1 + 1) (w.heap.size + 1 + 1 + 1 + 1) (w.heap.size + 1 + 1 + 1 + 1 + 1 + 1 + 1))[18]? = some _ from rfl)
 have w6f := fun o => free_of_cells X6.out o
 have w6n0 : ¬ w6.heap.size = w.heap.size + 1 + 1 + 1 := (by omega)
 have w6n1 : ¬ w6.heap.size + 1 = w.heap.size + 1 + 1 + 1 := (by omega)
 have w6n2 : ¬ w6.heap.size + 1 + 1 = w.heap.size + 1 + 1 + 1 := (by omega)
 have y6 : w.heap.size < w6.heap.size := by omega
 have w6s : w.heap.size + 1 + 1 + 1 < w6.heap.size := by omega
 go_upto_region 7 with fail
 refine wp_gen (fun W => Below w.heap.size w W ∧ W.heap[w.heap.size]? = some (.cells Z 33 (0, 0)) ∧ W.heap[w.heap.size + 1]? = some (.cells #[.string xEur, .int .i64 2] 145 (0, 0)) ∧ (∃ C, W.heap[w.heap.size + 1 + 1 + 1]? = some (.cells C 33 (0, 0)) ∧ C = lvC (w.heap.size + 1) (w.heap.size + 1 + 1) (w.heap.size + 1 + 1 + 1 + 1) (w.heap.size + 1 + 1 + 1 + 1 + 1 + 1 + 1) w6.heap.size) ∧ W.heap[w.heap.size + 1 + 1 + 1 + 1]? = some (.cells lvGl 148 (0, 0)) ∧ W.heap[w.heap.size + 1 + 1 + 1 + 1 + 1]? = some (.cells #[.int .i64 0, .int .i64 36000] 165 (0, 0)) ∧ W.heap[w.heap.size + 1 + 1 + 1 + 1 + 1 + 1 + 1]? = some (.cells (lvPC (w.heap.size + 1 + 1 + 1 + 1 + 1)) 88 (0, 0)) ∧ W.heap[w6.heap.size]? = some (.cells (lvAc s1 s2) 44 (0, 0))) ⟨?_, ?_, ?_, ?_, ?_, ?_, ?_, ?_⟩ ?_
 ·exact B6.out.trans belT
 ·exact (by repeat (with_reducible first | exact R6.out | exact blk_new (by simp; done) | exact blk_new rfl | refine blk_setOther (by first | omega | (simp; done) | (simp; omega)) ?_ | refine blk_under ?_))
 ·exact (by repeat (with_reducible first | exact U6.out | exact blk_new (by simp; done) | exact blk_new rfl | refine blk_setOther (by first | omega | (simp; done) | (simp; omega)) ?_ | refine blk_under ?_))
 ·apply Exists.intro
  apply And.intro
  ·repeat (with_reducible first | exact X6.out | apply blk_setCell | apply blk_under)
  ·kernel_rfl
 ·exact (by repeat (with_reducible first | exact G6.out | exact blk_new (by simp; done) | exact blk_new rfl | refine blk_setOther (by first | omega | (simp; done) | (simp; omega)) ?_ | refine blk_under ?_))
 ·exact (by repeat (with_reducible first | exact T6.out | exact blk_new (by simp; done) | exact blk_new rfl | refine blk_setOther (by first | omega | (simp; done) | (simp; omega)) ?_ | refine blk_under ?_))
 ·exact (by repeat (with_reducible first | exact P6.out | exact blk_new (by simp; done) | exact blk_new rfl | refine blk_setOther (by first | omega | (simp; done) | (simp; omega)) ?_ | refine blk_under ?_))
 ·exact (by repeat (with_reducible first | exact G6.out | exact blk_new (by simp; done) | exact blk_new rfl | refine blk_setOther (by first | omega | (simp; done) | (simp; omega)) ?_ | refine blk_under ?_))
 clear w6f w6n0 w6n1 w6n2 w6c18
 obtain ⟨CF, hCF⟩ : ∃ C, C = lvC (w.heap.size + 1) (w.heap.size + 1 + 1) (w.heap.size + 1 + 1 + 1 + 1) (w.heap.size + 1 + 1 + 1 + 1 + 1 + 1 + 1) w6.heap.size := ⟨_, rfl⟩
 rintro w7 ⟨B7, R7, U7, ⟨C7, X7, hC7⟩, G7, T7, P7, A7⟩
 rw [← hCF] at hC7
 rw [hC7] at X7
 clear hC7 C7
 have HWF := hide (HW.out CF (by rw [hCF]; rfl))
 have HZF := hide (show Z.size = CF.size from by rw [HZ.out, hCF]; rfl)
 have H1F := hide (show CF.all (·.oneCell') = true from by rw [hCF]; exact bo_one _ _ _ _ _)
 have HCF := hide hCF
 replace B7 := hide B7
 have M7 := hide (show LvM w7 (w.heap.size + 1) (w.heap.size + 1 + 1) (w.heap.size + 1 + 1 + 1 + 1) (w.heap.size + 1 + 1 + 1 + 1 + 1 + 1 + 1) w6.heap.size (w.heap.size + 1 + 1 + 1 + 1 + 1) s1 s2 from ⟨U7, G7, P7, A7, T7⟩)
 replace R7 := hide R7
 replace X7 := hide X7
 clear hCF U7 G7 P7 A7 T7
 go_wp2_with (first
  | (with_reducible refine wpList_load_row rfl 33 (.tmp 1) rfl (w.heap.size + 1 + 1 + 1) rfl 33 CF (0, 0) _ X7.out Tryz.underlying33 rfl HWF.out ?_)
  | ((with_reducible refine wpList_store_newrow2 rfl 33 (.tmp 0) (.tmp 33) rfl rfl w.heap.size CF rfl rfl 33 Z R7.out HWF.out HZF.out H1F.out ?_); intro w8 hb8 hz8 hx8 hk8))
 refine bodyPost_ret (v := .agg CF) (Go.results_cell_row (by rfl) _ _ w.heap.size 33 CF (0, 0) _ rfl hx8 Tryz.underlying33 rfl HWF.out) rfl ⟨w.heap.size + 1, w.heap.size + 1 + 1, w.heap.size + 1 + 1 + 1 + 1, w.heap.size + 1 + 1 + 1 + 1 + 1 + 1 + 1, w6.heap.size, w.heap.size + 1 + 1 + 1 + 1 + 1, s1, s2, by rw [HCF.out], ?_, B7.out.trans hb8⟩
 have M := M7.out
 exact ⟨(hk8 _ (by omega)).trans M.cu, (hk8 _ (by omega)).trans M.ch, (hk8 _ (by omega)).trans M.pr, (hk8 _ (by omega)).trans M.ac, (hk8 _ (by omega)).trans M.ti⟩
end Go.Proofs.YtpghciiifnjimaaGreatDoor
