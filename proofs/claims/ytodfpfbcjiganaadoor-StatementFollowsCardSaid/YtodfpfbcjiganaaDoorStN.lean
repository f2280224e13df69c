/- The books of the example. -/
import Derived.Test.YtodfpfbcjiganaaDoorStO
import Derived.Test.YtodfpfbcjiganaaDoorOpq
namespace Go.Proofs.YtodfpfbcjiganaaDoor
set_option linter.unusedSimpArgs false
set_option linter.unusedVariables false
open Go.RowKit

def smC (v5 v6 : Value) : Array Value := #[.slice none 0 0, .slice none 0 0, .slice none 0 0, .int .i64 0, .int .i64 0, .int .i64 0, .int .i64 0, .int .i64 0, .int .i64 0, .int .i64 0, .int .i64 0, .int .i64 0, .int .i64 0, .int .i64 0, .int .i64 0, .int .i64 0, .int .i64 0, .slice none 0 0, v5, v6, .slice none 0 0, .slice none 0 0]
def smZ : Array Value := #[.slice none 0 0, .slice none 0 0, .slice none 0 0, .int .i64 0, .int .i64 0, .int .i64 0, .int .i64 0, .int .i64 0, .int .i64 0, .int .i64 0, .int .i64 0, .int .i64 0, .int .i64 0, .int .i64 0, .int .i64 0, .int .i64 0, .int .i64 0, .slice none 0 0, .slice none 0 0, .slice none 0 0, .slice none 0 0, .slice none 0 0]
theorem sm_zero : ∃ (i : TypeInfo) (Z : Array Value), Tryd.prog.info? 33 = some i ∧ i.zero = some (.agg Z) ∧ Z.size = 22 := by
  obtain ⟨i, h1, h2⟩ := info_agg (show (Tryd.prog.info? 33).bind (·.zero) = some (.agg smZ) by kernel_rfl)
  exact ⟨i, smZ, h1, h2, rfl⟩
theorem sm_built (a5 a6 : Option Addr) (n5 n6 c5 c6 : Nat) : ∃ C : Array Value, Tryd.prog.built 33 [(5, .slice a5 n5 c5), (6, .slice a6 n6 c6)] = some C ∧ C.size = 22 ∧ C[18]? = some (.slice a5 n5 c5) ∧ C[19]? = some (.slice a6 n6 c6) ∧ C.all (·.oneCell') = true :=
  ⟨smC (.slice a5 n5 c5) (.slice a6 n6 c6), by kernel_rfl, rfl, rfl, rfl, by kernel_rfl⟩
theorem sm_accs (k j : Nat) (hk : k < 1) (hj : j < 7) : (#[Value.int .i64 1000, .int .i64 0, .int .i64 0, .int .i64 0, .string ⟨#[]⟩, .string ⟨#[]⟩, .string ⟨#[]⟩] : Array Value)[k * 7 + j]? = some (accC (smA k) j) := by
  match k, hk, j, hj with
  | 0, _, 0, _ | 0, _, 1, _ | 0, _, 2, _ | 0, _, 3, _ | 0, _, 4, _ | 0, _, 5, _ | 0, _, 6, _ => rfl
theorem sm_leg1 (k j : Nat) (hk : k < 2) (hj : j < 3) : (#[Value.int .i64 1, .int .i64 70, .string ⟨#[69, 85, 82]⟩, .int .i64 1000, .int .i64 (-70), .string ⟨#[69, 85, 82]⟩] : Array Value)[k * 3 + j]? = some (legC (smL1 k) j) := by
  match k, hk, j, hj with
  | 0, _, 0, _ | 0, _, 1, _ | 0, _, 2, _ | 1, _, 0, _ | 1, _, 1, _ | 1, _, 2, _ => rfl
theorem sm_leg2 (k j : Nat) (hk : k < 2) (hj : j < 3) : (#[Value.int .i64 1000, .int .i64 20, .string ⟨#[69, 85, 82]⟩, .int .i64 1, .int .i64 (-20), .string ⟨#[69, 85, 82]⟩] : Array Value)[k * 3 + j]? = some (legC (smL2 k) j) := by
  match k, hk, j, hj with
  | 0, _, 0, _ | 0, _, 1, _ | 0, _, 2, _ | 1, _, 0, _ | 1, _, 1, _ | 1, _, 2, _ => rfl
theorem sm_ents (b1 b2 : Nat) (k j : Nat) (hk : k < 2) (hj : j < 10) : (#[Value.int .i64 1, .int .i64 5, .int .i64 5, .int .i64 0, .int .i64 0, .int .i64 0, .string ⟨#[]⟩, .string ⟨#[112, 97, 121]⟩, .slice (some ⟨b1, 0, none⟩) 2 2, .int .u64 0, Value.int .i64 2, .int .i64 6, .int .i64 6, .int .i64 0, .int .i64 0, .int .i64 0, .string ⟨#[]⟩, .string ⟨#[114, 101, 110, 116]⟩, .slice (some ⟨b2, 0, none⟩) 2 2, .int .u64 0] : Array Value)[k * 10 + j]? = some (entC (smE b1 b2 k) j) := by
  match k, hk, j, hj with
  | 0, _, 0, _ | 0, _, 1, _ | 0, _, 2, _ | 0, _, 3, _ | 0, _, 4, _ | 0, _, 5, _ | 0, _, 6, _ | 0, _, 7, _ | 0, _, 8, _ | 0, _, 9, _ => rfl
  | 1, _, 0, _ | 1, _, 1, _ | 1, _, 2, _ | 1, _, 3, _ | 1, _, 4, _ | 1, _, 5, _ | 1, _, 6, _ | 1, _, 7, _ | 1, _, 8, _ | 1, _, 9, _ => rfl
theorem sm_jrn {w : World} {b1 b2 b3 : Nat} {t1 t2 t3 : TypeId}
    (h1 : w.heap[b1]? = some (.cells #[Value.int .i64 1, .int .i64 70, .string ⟨#[69, 85, 82]⟩, .int .i64 1000, .int .i64 (-70), .string ⟨#[69, 85, 82]⟩] t1 (0, 0)))
    (h2 : w.heap[b2]? = some (.cells #[Value.int .i64 1000, .int .i64 20, .string ⟨#[69, 85, 82]⟩, .int .i64 1, .int .i64 (-20), .string ⟨#[69, 85, 82]⟩] t2 (0, 0)))
    (h3 : w.heap[b3]? = some (.cells #[Value.int .i64 1, .int .i64 5, .int .i64 5, .int .i64 0, .int .i64 0, .int .i64 0, .string ⟨#[]⟩, .string ⟨#[112, 97, 121]⟩, .slice (some ⟨b1, 0, none⟩) 2 2, .int .u64 0, Value.int .i64 2, .int .i64 6, .int .i64 6, .int .i64 0, .int .i64 0, .int .i64 0, .string ⟨#[]⟩, .string ⟨#[114, 101, 110, 116]⟩, .slice (some ⟨b2, 0, none⟩) 2 2, .int .u64 0] t3 (0, 0))) :
    Jrn w (some ⟨b3, 0, none⟩) 2 (smE b1 b2) :=
  ⟨⟨rowS_of h3 (sm_ents b1 b2), fun k hk => by
    match k, hk with
    | 0, _ => exact rowS_of h1 sm_leg1
    | 1, _ => exact rowS_of h2 sm_leg2⟩, fun k hk => by
    match k, hk with
    | 0, _ => show (2 : Nat) ≤ 1000000; decide
    | 1, _ => show (2 : Nat) ≤ 1000000; decide⟩
def SmRet (w : World) (e : Ending) (w' : World) : Prop := ∃ C aA jA b1 b2, e = .returned (.agg C) ∧ Bks C aA 1 1 jA 2 2 ∧ RowAcc w' aA 1 smA ∧ Jrn w' jA 2 (smE b1 b2) ∧ Below w.heap.size w w'
set_option maxRecDepth 4000 in
set_option maxHeartbeats 2000000 in
theorem sample_any (w : World) : Calls Tryd.prog 22 #[] w (SmRet w) := by
  obtain ⟨C, hC0, hC1, hC2, hC3, hC4⟩ := sm_built (some ⟨w.heap.size + 1 + 1 + 1 + 1 + 1, 0, none⟩) (some ⟨w.heap.size + 1 + 1 + 1 + 1 + 1 + 1, 0, none⟩) 1 2 1 2
  obtain ⟨i0, Z, hi0, hi1, hi2⟩ := sm_zero
  have HW := hide (show (Tryd.prog.info? 33).map (·.size) = some C.size by rw [hC1]; kernel_rfl)
  have HZ := hide (show Z.size = C.size by rw [hC1, hi2])
  have HB := hide hC0
  have HS := hide hC4
  have HBK := hide (Bks.mk hC1 hC2 hC3)
  have HI := hide (And.intro hi0 hi1)
  clear hC0 hC1 hC2 hC3 hC4 hi0 hi1 hi2
  go_enter Tryd.func22, Tryd.ntmps22
  go_wp2_with (first
    | (with_reducible refine wpList_alloc_row rfl 33 rfl (some 0) rfl i0 HI.out.1 Z HI.out.2 w.heap.size rfl ?_)
    | ((with_reducible refine Go.wpList_buildTo rfl 33 #[(5, .tmp 12), (6, .tmp 15)] rfl (some 16) rfl C ?_ ?_); (focus (refine Eq.trans (congrArg _ ?_) HB.out; simp [Act.eval])))
    | (with_reducible refine Go.wpList_store_rowTo rfl 33 (.tmp 0) (.tmp 16) rfl rfl w.heap.size C rfl rfl 33 Z (by repeat (first | exact blk_new rfl | refine blk_under ?_)) HW.out HZ.out HS.out ?_))
  refine bodyPost_ret (v := .agg C) (Go.results_cell_row (by rfl) _ _ w.heap.size 33 C (0, 0) _ rfl (Go.setRow_heap _ _ Z _ _ _ (by repeat (first | exact blk_new rfl | refine blk_under ?_))) Tryd.underlying33 rfl HW.out) rfl ⟨C, _, _, w.heap.size + 1, w.heap.size + 1 + 1 + 1, rfl, HBK.out, ?_, ?_, ?_⟩
  · exact rowS_of (blk_setRow (by omega) (by repeat (first | exact blk_new (by simp) | refine blk_under ?_))) sm_accs
  · exact sm_jrn (blk_setRow (by omega) (by repeat (first | exact blk_new (by simp) | refine blk_under ?_))) (blk_setRow (by omega) (by repeat (first | exact blk_new (by simp) | refine blk_under ?_))) (blk_setRow (by omega) (by repeat (first | exact blk_new (by simp) | refine blk_under ?_)))
  · refine below_setRow ?_ (Nat.le_refl _) _
    (repeat (first | (with_reducible exact Below.refl _ _) | (with_reducible assumption) | ((with_reducible refine Below.alloc ?_ ?_ _); (rotate_left); (first | omega | (simp <;> omega))) | ((with_reducible refine Below.setCell ?_ ?_ _); (rotate_left); (first | omega | (simp <;> omega))) | (with_reducible refine Below.drew ?_) | (with_reducible refine below_drewN ?_ _)))
end Go.Proofs.YtodfpfbcjiganaaDoor
