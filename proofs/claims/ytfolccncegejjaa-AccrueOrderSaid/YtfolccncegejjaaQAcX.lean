/- Texts laid together: AcX AcY. -/
import Derived.Test.YtfolccncegejjaaQAcT
import Derived.Test.YtfolccncegejjaaQAcM
import Derived.Test.YtfolccncegejjaaQAcF
import Derived.Test.YtfolccncegejjaaQOpq
import Derived.Test.YtfolccncegejjaaQAcB
import Derived.Test.YtfolccncegejjaaQAcJ
import Derived.Test.YtfolccncegejjaaQAcK
import Derived.Test.YtfolccncegejjaaQAcU
namespace Go.Proofs.Ytfolccncegejjaa
set_option maxRecDepth 4000
set_option linter.unusedSimpArgs false
set_option linter.unusedVariables false
open Go.RowKit
abbrev tGiro : ByteArray := ⟨#[103, 105, 114, 111]⟩
abbrev tEur : ByteArray := ⟨#[69, 85, 82]⟩
abbrev tNone : ByteArray := ⟨#[]⟩
def smI (tb : Nat) : LInt := ⟨some ⟨tb, 0, none⟩, 1, 1, false, 2, 1, false, fun _ => 0, fun _ => 15000⟩
def smPC (tb : Nat) : Array Value := #[.string tGiro, .string tEur, .string tNone, .int .i64 0, .int .i64 0, .int .i64 0, .int .i64 0, .slice (some ⟨tb, 0, none⟩) 1 1, .bool false, .int .i64 2, .int .i64 1, .bool false, .slice (some ⟨tb, 0, none⟩) 1 1, .bool false, .int .i64 2, .int .i64 1, .bool false, .slice none 0 0, .slice none 0 0]
def smP (tb : Nat) : LPro := ⟨smPC tb, tGiro, 0, smI tb, smI tb⟩
def smA (s : ByteArray) : LAcc := ⟨1000, 1, 0, 0, ⟨#[97, 110, 110]⟩, tGiro, s⟩
def smL1 : Nat → LLeg
  | 0 => ⟨1000, -100000, tEur⟩
  | _ => ⟨1, 100000, tEur⟩
def smL2 : Nat → LLeg
  | 0 => ⟨1000, 200000, tEur⟩
  | _ => ⟨1, -200000, tEur⟩
def smE (b1 b2 : Nat) : Nat → LEnt
  | 0 => ⟨0, 2, 2, 0, 0, 0, tNone, tNone, some ⟨b1, 0, none⟩, 2, 2, 0, smL1⟩
  | _ => ⟨0, 4, 4, 0, 0, 0, tNone, tNone, some ⟨b2, 0, none⟩, 2, 2, 0, smL2⟩
def smB (C : Array Value) (tb pb ab jb b1 b2 : Nat) (s : ByteArray) : LBk := ⟨C, some ⟨ab, 0, none⟩, 1, 1, fun _ => smA s, some ⟨jb, 0, none⟩, 2, 2, smE b1 b2, some ⟨pb, 0, none⟩, 1, 1, fun _ => smP tb⟩
theorem sm_prc (tb : Nat) : PrC (smPC tb) (smP tb) := ⟨rfl, by unfold smPC; simp [Value.oneCell'], rfl, rfl, rfl, rfl, rfl, rfl, rfl, rfl, rfl, rfl, rfl, rfl⟩
def smCC (v4 v5 v6 : Value) : Array Value := #[.slice none 0 0, .slice none 0 0, .slice none 0 0, .int .i64 0, .int .i64 0, .int .i64 0, .int .i64 0, .int .i64 0, .int .i64 0, .int .i64 0, .int .i64 0, .int .i64 0, .int .i64 0, .int .i64 0, .int .i64 0, .int .i64 0, .int .i64 0, v4, v5, v6, .slice none 0 0, .slice none 0 0]
def smZ : Array Value := smCC (.slice none 0 0) (.slice none 0 0) (.slice none 0 0)
theorem sm_zero : ∃ (i : TypeInfo) (Z : Array Value), Try.prog.info? 33 = some i ∧ i.zero = some (.agg Z) ∧ Z.size = 22 := by
  obtain ⟨i, h1, h2⟩ := info_agg (show (Try.prog.info? 33).bind (·.zero) = some (.agg smZ) by kernel_rfl)
  exact ⟨i, smZ, h1, h2, rfl⟩
theorem sm_built (a4 a5 a6 : Option Addr) (n4 n5 n6 c4 c5 c6 : Nat) : ∃ C : Array Value, Try.prog.built 33 [(4, .slice a4 n4 c4), (5, .slice a5 n5 c5), (6, .slice a6 n6 c6)] = some C ∧ C.size = 22 ∧ C[17]? = some (.slice a4 n4 c4) ∧ C[18]? = some (.slice a5 n5 c5) ∧ C[19]? = some (.slice a6 n6 c6) ∧ C.all (·.oneCell') = true :=
  ⟨smCC (.slice a4 n4 c4) (.slice a5 n5 c5) (.slice a6 n6 c6), by kernel_rfl, rfl, rfl, rfl, rfl, by kernel_rfl⟩
theorem sm_ents (b1 b2 : Nat) (k j : Nat) (hk : k < 2) (hj : j < 10) : (#[Value.int .i64 0, .int .i64 2, .int .i64 2, .int .i64 0, .int .i64 0, .int .i64 0, .string tNone, .string tNone, .slice (some ⟨b1, 0, none⟩) 2 2, .int .u64 0, Value.int .i64 0, .int .i64 4, .int .i64 4, .int .i64 0, .int .i64 0, .int .i64 0, .string tNone, .string tNone, .slice (some ⟨b2, 0, none⟩) 2 2, .int .u64 0] : Array Value)[k * 10 + j]? = some (entC (smE b1 b2 k) j) := by
  match k, hk, j, hj with
  | 0, _, 0, _ | 0, _, 1, _ | 0, _, 2, _ | 0, _, 3, _ | 0, _, 4, _ | 0, _, 5, _ | 0, _, 6, _ | 0, _, 7, _ | 0, _, 8, _ | 0, _, 9, _ => rfl
  | 1, _, 0, _ | 1, _, 1, _ | 1, _, 2, _ | 1, _, 3, _ | 1, _, 4, _ | 1, _, 5, _ | 1, _, 6, _ | 1, _, 7, _ | 1, _, 8, _ | 1, _, 9, _ => rfl
theorem sm_leg1 (k j : Nat) (hk : k < 2) (hj : j < 3) : (#[Value.int .i64 1000, .int .i64 (-100000), .string tEur, .int .i64 1, .int .i64 100000, .string tEur] : Array Value)[k * 3 + j]? = some (legC (smL1 k) j) := by
  match k, hk, j, hj with
  | 0, _, 0, _ | 0, _, 1, _ | 0, _, 2, _ | 1, _, 0, _ | 1, _, 1, _ | 1, _, 2, _ => rfl
theorem sm_leg2 (k j : Nat) (hk : k < 2) (hj : j < 3) : (#[Value.int .i64 1000, .int .i64 200000, .string tEur, .int .i64 1, .int .i64 (-200000), .string tEur] : Array Value)[k * 3 + j]? = some (legC (smL2 k) j) := by
  match k, hk, j, hj with
  | 0, _, 0, _ | 0, _, 1, _ | 0, _, 2, _ | 1, _, 0, _ | 1, _, 1, _ | 1, _, 2, _ => rfl
theorem sm_accs (s : ByteArray) (k j : Nat) (hk : k < 1) (hj : j < 7) : (#[Value.int .i64 1000, .int .i64 1, .int .i64 0, .int .i64 0, .string ⟨#[97, 110, 110]⟩, .string tGiro, .string s] : Array Value)[k * 7 + j]? = some (accC (smA s) j) := by
  match k, hk, j, hj with
  | 0, _, 0, _ | 0, _, 1, _ | 0, _, 2, _ | 0, _, 3, _ | 0, _, 4, _ | 0, _, 5, _ | 0, _, 6, _ => rfl
theorem sm_tier {w : World} {tb : Nat} {t : TypeId} (h : w.heap[tb]? = some (.cells #[.int .i64 0, .int .i64 15000] t (0, 0))) : Row2 w (some ⟨tb, 0, none⟩) 1 (fun _ => 0) (fun _ => 15000) := fun _ =>
  ⟨tb, 0, rfl, heap_lt h, fun k hk => by
    obtain rfl : k = 0 := by omega
    exact ⟨(cell_of_cells h 0).trans rfl, (cell_of_cells h 1).trans rfl⟩⟩
theorem sm_in {w : World} {C : Array Value} {tb pb ab jb b1 b2 : Nat} {s : ByteArray} {t1 t2 t3 t4 t5 t6 : TypeId} (h1 : w.heap[tb]? = some (.cells #[.int .i64 0, .int .i64 15000] t1 (0, 0))) (h2 : w.heap[pb]? = some (.cells (smPC tb) t2 (0, 0)))
    (h3 : w.heap[ab]? = some (.cells #[Value.int .i64 1000, .int .i64 1, .int .i64 0, .int .i64 0, .string ⟨#[97, 110, 110]⟩, .string tGiro, .string s] t3 (0, 0)))
    (h4 : w.heap[jb]? = some (.cells #[Value.int .i64 0, .int .i64 2, .int .i64 2, .int .i64 0, .int .i64 0, .int .i64 0, .string tNone, .string tNone, .slice (some ⟨b1, 0, none⟩) 2 2, .int .u64 0, Value.int .i64 0, .int .i64 4, .int .i64 4, .int .i64 0, .int .i64 0, .int .i64 0, .string tNone, .string tNone, .slice (some ⟨b2, 0, none⟩) 2 2, .int .u64 0] t4 (0, 0)))
    (h5 : w.heap[b1]? = some (.cells #[Value.int .i64 1000, .int .i64 (-100000), .string tEur, .int .i64 1, .int .i64 100000, .string tEur] t5 (0, 0)))
    (h6 : w.heap[b2]? = some (.cells #[Value.int .i64 1000, .int .i64 200000, .string tEur, .int .i64 1, .int .i64 (-200000), .string tEur] t6 (0, 0))) : BkIn w (smB C tb pb ab jb b1 b2 s) :=
  ⟨rowS_of h3 (sm_accs s), ⟨⟨rowS_of h4 (sm_ents b1 b2), fun k hk => by
      match k, hk with
      | 0, _ => exact rowS_of h5 sm_leg1
      | 1, _ => exact rowS_of h6 sm_leg2⟩, fun k hk => by
      match k, hk with
      | 0, _ => show (2 : Nat) ≤ 1000000; decide
      | 1, _ => show (2 : Nat) ≤ 1000000; decide⟩,
    ⟨fun _ => ⟨pb, 0, rfl, heap_lt h2, fun k j v hk hv => by
      obtain rfl : k = 0 := by have : k < 1 := hk; omega
      have hv2 : (smPC tb)[j]? = some v := hv
      rw [cell_of_cells h2]
      simpa using hv2⟩, fun k hk => sm_tier h1, fun k hk => sm_tier h1⟩⟩
theorem sm_ok {C : Array Value} {tb pb ab jb b1 b2 : Nat} {s : ByteArray} (h1 : Bks C (some ⟨ab, 0, none⟩) 1 1 (some ⟨jb, 0, none⟩) 2 2) (h2 : C[17]? = some (.slice (some ⟨pb, 0, none⟩) 1 1)) (h3 : C.all (·.oneCell') = true) : BkOK (smB C tb pb ab jb b1 b2 s) :=
  ⟨h1, h2, by show (1 : Nat) ≤ 1000000; decide, by show (2 : Nat) ≤ 1000000; decide, by show (1 : Nat) ≤ 1000000; decide, h3, fun _ _ => sm_prc tb,
    fun _ _ => ⟨by show (1 : Nat) ≤ 1000000; decide, fun _ _ => ⟨⟨by show (-9223372036854775808 : Int) ≤ 0; decide, by show (0 : Int) ≤ 9223372036854775807; decide⟩, ⟨by show (-9223372036854775808 : Int) ≤ 15000; decide, by show (15000 : Int) ≤ 9223372036854775807; decide⟩⟩, ⟨by show (-9223372036854775808 : Int) ≤ 2; decide, by show (2 : Int) ≤ 9223372036854775807; decide⟩⟩,
    fun _ _ => ⟨by show (1 : Nat) ≤ 1000000; decide, fun _ _ => ⟨⟨by show (-9223372036854775808 : Int) ≤ 0; decide, by show (0 : Int) ≤ 9223372036854775807; decide⟩, ⟨by show (-9223372036854775808 : Int) ≤ 15000; decide, by show (15000 : Int) ≤ 9223372036854775807; decide⟩⟩, ⟨by show (-9223372036854775808 : Int) ≤ 2; decide, by show (2 : Int) ≤ 9223372036854775807; decide⟩⟩⟩
def SmRet (w : World) (e : Ending) (w' : World) : Prop := ∃ C tb pb ab jb b1 b2 s, e = .returned (.agg C) ∧ BkOK (smB C tb pb ab jb b1 b2 s) ∧ BkIn w' (smB C tb pb ab jb b1 b2 s) ∧ Below w.heap.size w w'
set_option maxRecDepth 8000 in
set_option maxHeartbeats 4000000 in
theorem sample_any (w : World) : Calls Try.prog 21 #[] w (SmRet w) := by
  obtain ⟨i0, Z, hi0, hi1, hi2⟩ := sm_zero
  have HZ := hide hi2
  have HI := hide (And.intro hi0 hi1)
  clear hi0 hi1 hi2
  go_enter Try.func21, Try.ntmps21
  go_wp2_with (with_reducible refine wpList_alloc_row rfl 33 rfl (some 0) rfl i0 HI.out.1 Z HI.out.2 w.heap.size rfl ?_)
  refine (number_any 1000 (by decide) (by decide) _).mono ?_
  rintro e w1 ⟨⟨s, rfl⟩, hb⟩
  have X1 := hide (blk_below hb (by simp; omega) (blk_under (blk_under (blk_new (k := w.heap.size) rfl))))
  have X2 := hide (blk_below hb (by simp) (blk_under (blk_new (k := w.heap.size + 1) (by simp))))
  have X3 := hide (blk_below hb (by simp) (blk_new (k := w.heap.size + 1 + 1) (by simp)))
  have q1B : Below w.heap.size w w1 := (by refine Below.trans ?_ (hb.mono (by first | omega | (simp <;> omega))); (repeat (first | (with_reducible first | exact Below.refl _ _ | assumption | refine Below.drew ?_ | refine below_drewN ?_ _) | ((with_reducible first | refine Below.alloc ?_ ?_ _ | refine Below.setCell ?_ ?_ _); rotate_left; (first | omega | (simp <;> omega))))))
  have q1z := hb.size
  try simp at q1z
  have q1t : w.heap.size ≤ w1.heap.size := (by omega)
  have q1o : ∀ b o, b < w.heap.size → w1.cell? ⟨b, o, none⟩ = w.cell? ⟨b, o, none⟩ := fun b o h => q1B.cell (p := ⟨b, o, none⟩) h
  clear hb
  have z1 : w.heap.size + 1 < w1.heap.size := by omega
  have z2 : w.heap.size < w1.heap.size := by omega
  obtain ⟨C, hC0, hC1, hC2, hC3, hC4, hC5⟩ := sm_built (some ⟨w1.heap.size + 1 + 1 + 1 + 1 + 1, 0, none⟩) (some ⟨w1.heap.size + 1 + 1 + 1 + 1 + 1 + 1, 0, none⟩) (some ⟨w1.heap.size + 1 + 1 + 1 + 1 + 1 + 1 + 1, 0, none⟩) 1 1 2 1 1 2
  have HW := hide (show (Try.prog.info? 33).map (·.size) = some C.size by rw [hC1]; kernel_rfl)
  have HSZ := hide (show Z.size = C.size by rw [hC1, HZ.out])
  have HB := hide hC0
  have HS := hide hC5
  have HBK := hide (And.intro (Bks.mk hC1 hC3 hC4) hC2)
  clear hC0 hC1 hC2 hC3 hC4 hC5
  go_wp2_with (first
    | (with_reducible refine wpList_load_row rfl 62 (.tmp 1) rfl (w.heap.size + 1 + 1) rfl 62 #[.slice (some ⟨w.heap.size + 1, 0, none⟩) 1 1, .bool false, .int .i64 2, .int .i64 1, .bool false] (0, 0) _ (by repeat (first | exact X3.out | refine blk_under ?_)) Try.underlying62 rfl (by kernel_rfl) ?_)
    | ((with_reducible refine Go.wpList_buildTo rfl 33 #[(4, .tmp 21), (5, .tmp 23), (6, .tmp 26)] rfl (some 27) rfl C ?_ ?_); (focus (refine Eq.trans (congrArg _ ?_) HB.out; simp [Act.eval])))
    | (with_reducible refine Go.wpList_store_rowTo rfl 33 (.tmp 0) (.tmp 27) rfl rfl w.heap.size C rfl rfl 33 Z (by repeat (first | exact X1.out | refine blk_under ?_)) HW.out HSZ.out HS.out ?_))
  refine bodyPost_ret (v := .agg C) (Go.results_cell_row (by rfl) _ _ w.heap.size 33 C (0, 0) _ rfl (Go.setRow_heap _ _ Z _ _ _ (by repeat (first | exact X1.out | refine blk_under ?_))) Try.underlying33 rfl HW.out) rfl ⟨C, w.heap.size + 1, w1.heap.size + 1 + 1 + 1 + 1 + 1, w1.heap.size + 1 + 1 + 1 + 1 + 1 + 1, w1.heap.size + 1 + 1 + 1 + 1 + 1 + 1 + 1, w1.heap.size + 1, w1.heap.size + 1 + 1 + 1, s, rfl, sm_ok HBK.out.1 HBK.out.2 HS.out, ?_, ?_⟩
  · refine sm_in (t1 := 90) (t2 := 66) (t3 := 70) (t4 := 59) (t5 := 93) (t6 := 93) ?_ ?_ ?_ ?_ ?_ ?_
    · exact (blk_setRow (by omega) (by repeat (first | exact X2.out | exact blk_new (by simp) | refine blk_under ?_)))
    · exact (blk_setRow (by omega) (by repeat (first | exact X2.out | exact blk_new (by simp) | refine blk_under ?_)))
    · exact (blk_setRow (by omega) (by repeat (first | exact X2.out | exact blk_new (by simp) | refine blk_under ?_)))
    · exact (blk_setRow (by omega) (by repeat (first | exact X2.out | exact blk_new (by simp) | refine blk_under ?_)))
    · exact (blk_setRow (by omega) (by repeat (first | exact X2.out | exact blk_new (by simp) | refine blk_under ?_)))
    · exact (blk_setRow (by omega) (by repeat (first | exact X2.out | exact blk_new (by simp) | refine blk_under ?_)))
  · refine below_setRow ?_ (Nat.le_refl _) _
    refine q1B.trans ?_
    (repeat (first | (with_reducible first | exact Below.refl _ _ | assumption | refine Below.drew ?_ | refine below_drewN ?_ _) | ((with_reducible first | refine Below.alloc ?_ ?_ _ | refine Below.setCell ?_ ?_ _); rotate_left; (first | omega | (simp <;> omega)))))
end Go.Proofs.Ytfolccncegejjaa
namespace Go.Proofs.Ytfolccncegejjaa
set_option maxRecDepth 4000
set_option linter.unusedSimpArgs false
set_option linter.unusedVariables false
open Go.RowKit
section
variable (C : Array Value) (tb pb ab jb b1 b2 : Nat) (s : ByteArray)
theorem sm_act {d : Int} (h : 1 ≤ d) : actB (smB C tb pb ab jb b1 b2 s) 1000 d = true := by
  show (true && (decide ((1 : Int) ≤ d) && (((0 : Int) == 0) || decide (d < 0)))) = true
  rw [decide_eq_true h]
  rfl
theorem sm_act0 : actB (smB C tb pb ab jb b1 b2 s) 1000 0 = false := rfl
theorem sm_prd {d : Int} (h : 0 ≤ d) : prdB (smB C tb pb ab jb b1 b2 s) 1000 d = some 0 := by
  show bstP (fun _ => smP tb) tGiro d 1 = some 0
  exact bst_none (by simp [smP]) h rfl
theorem sm_bal1 : balB (smB C tb pb ab jb b1 b2 s) 1000 1 = 0 := rfl
theorem sm_bal2 : balB (smB C tb pb ab jb b1 b2 s) 1000 2 = 100000 := by kernel_rfl
theorem sm_bal3 : balB (smB C tb pb ab jb b1 b2 s) 1000 3 = 100000 := by kernel_rfl
theorem sm_bal4 : balB (smB C tb pb ab jb b1 b2 s) 1000 4 = -100000 := by kernel_rfl
theorem sm_sl (b : Int) (hb : b = 100000 ∨ b = -100000) : slices 1 (fun _ => 0) (fun _ => 15000) false b (rate 1 (fun _ => 0) (fun _ => 15000) b) = [(100000, 15000)] := by
  rcases hb with rfl | rfl <;> decide +kernel
theorem sm_gr : grR 1 (fsts [(100000, 15000)]) (snds [(100000, 15000)]) 4392 = 6588000000000 := by decide +kernel
theorem sm_grn {b d : Int} (hb : b = 100000 ∨ b = -100000) (hd : vday d = true) : grn (smI tb) b d = 6588000000000 := by
  have h : grn (smI tb) b d = grR (slices 1 (fun _ => 0) (fun _ => 15000) false b (rate 1 (fun _ => 0) (fun _ => 15000) b)).length (fsts (slices 1 (fun _ => 0) (fun _ => 15000) false b (rate 1 (fun _ => 0) (fun _ => 15000) b))) (snds (slices 1 (fun _ => 0) (fun _ => 15000) false b (rate 1 (fun _ => 0) (fun _ => 15000) b))) (wgt 2 d) := rfl
  rw [h, sm_sl b hb, wgt_2 hd rfl]
  exact sm_gr
theorem sm_acr0 : acr (smB C tb pb ab jb b1 b2 s) 1000 0 = ⟨1000, 0, 0, 0, 0⟩ := acr_no (sm_act0 C tb pb ab jb b1 b2 s)
theorem sm_acr1 : acr (smB C tb pb ab jb b1 b2 s) 1000 1 = ⟨1000, 1, 0, 0, 0⟩ := by
  rw [acr_zero (sm_act C tb pb ab jb b1 b2 s (by decide)) (sm_prd C tb pb ab jb b1 b2 s (by decide)) (sm_bal1 ..), sm_bal1]
theorem sm_acr2 : acr (smB C tb pb ab jb b1 b2 s) 1000 2 = ⟨1000, 2, 100000, 6588000000000, 0⟩ := by
  rw [acr_pos (sm_act C tb pb ab jb b1 b2 s (by decide)) (sm_prd C tb pb ab jb b1 b2 s (by decide)) (by rw [sm_bal2]; decide), sm_bal2]
  show (⟨1000, 2, 100000, grn (smI tb) 100000 2, 0⟩ : LAcr) = _
  rw [sm_grn tb (.inl rfl) rfl]
theorem sm_acr3 : acr (smB C tb pb ab jb b1 b2 s) 1000 3 = ⟨1000, 3, 100000, 6588000000000, 0⟩ := by
  rw [acr_pos (sm_act C tb pb ab jb b1 b2 s (by decide)) (sm_prd C tb pb ab jb b1 b2 s (by decide)) (by rw [sm_bal3]; decide), sm_bal3]
  show (⟨1000, 3, 100000, grn (smI tb) 100000 3, 0⟩ : LAcr) = _
  rw [sm_grn tb (.inl rfl) rfl]
theorem sm_acr4 : acr (smB C tb pb ab jb b1 b2 s) 1000 4 = ⟨1000, 4, -100000, 0, 6588000000000⟩ := by
  rw [acr_neg (sm_act C tb pb ab jb b1 b2 s (by decide)) (sm_prd C tb pb ab jb b1 b2 s (by decide)) (by rw [sm_bal4]; decide), sm_bal4]
  show (⟨1000, 4, -100000, 0, grn (smI tb) (-100000) 4⟩ : LAcr) = _
  rw [sm_grn tb (.inr rfl) rfl]
def smL : List LAcr := [⟨1000, 0, 0, 0, 0⟩, ⟨1000, 1, 0, 0, 0⟩, ⟨1000, 2, 100000, 6588000000000, 0⟩, ⟨1000, 3, 100000, 6588000000000, 0⟩, ⟨1000, 4, -100000, 0, 6588000000000⟩]
theorem sm_serE : serE (smB C tb pb ab jb b1 b2 s) 1000 0 4 = 0 := rfl
theorem sm_ser : serV (smB C tb pb ab jb b1 b2 s) 1000 0 4 = smL := by
  rw [ser_ok (n := 5) (sm_serE ..) (by decide)]
  show [] ++ [acr (smB C tb pb ab jb b1 b2 s) 1000 0] ++ [acr (smB C tb pb ab jb b1 b2 s) 1000 1] ++ [acr (smB C tb pb ab jb b1 b2 s) 1000 2] ++ [acr (smB C tb pb ab jb b1 b2 s) 1000 3] ++ [acr (smB C tb pb ab jb b1 b2 s) 1000 4] = smL
  rw [sm_acr0, sm_acr1, sm_acr2, sm_acr3, sm_acr4]
  rfl
theorem sm_day3 : dayE (smB C tb pb ab jb b1 b2 s) 1000 3 = 0 ∧ dayV (smB C tb pb ab jb b1 b2 s) 1000 3 = ⟨1000, 3, 100000, 6588000000000, 0⟩ := by
  have h := day_ok (B := smB C tb pb ab jb b1 b2 s) (id := 1000) (day := 3) rfl rfl
  rw [sm_acr3] at h
  exact h
theorem sm_day1 : dayE (smB C tb pb ab jb b1 b2 s) 1001 3 = 11 ∧ dayV (smB C tb pb ab jb b1 b2 s) 1001 3 = zAcr := day_no 3 rfl
end
theorem sm_tot : totS (atR smL) 5 = some (13176000000000, 6588000000000) := by decide +kernel
end Go.Proofs.Ytfolccncegejjaa
