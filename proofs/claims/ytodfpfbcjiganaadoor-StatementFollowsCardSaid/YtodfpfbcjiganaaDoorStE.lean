/- R45.before. -/
import Derived.Test.YtodfpfbcjiganaaDoorStD
namespace Go.Proofs.YtodfpfbcjiganaaDoor
set_option linter.unusedSimpArgs false
set_option linter.unusedVariables false
open Go.RowKit

theorem ent_info : (Tryd.prog.info? 54).map (fun i => (i.zero, i.size, i.bytes)) = some (some (.agg #[.int .i64 0, .int .i64 0, .int .i64 0, .int .i64 0, .int .i64 0, .int .i64 0, .string ⟨#[]⟩, .string ⟨#[]⟩, .slice none 0 0, .int .u64 0]), 10, 112) := by kernel_rfl
theorem pos_info : (Tryd.prog.info? 66).map (fun i => (i.zero, i.size, i.bytes)) = some (some (.agg #[.int .i64 0, .int .i64 0, .int .i64 0, .string ⟨#[]⟩]), 4, 40) := by kernel_rfl
theorem info3 {p : Option TypeInfo} {z : Value} {s b : Nat} (h : p.map (fun i => (i.zero, i.size, i.bytes)) = some (some z, s, b)) : ∃ i, p = some i ∧ i.zero = some z ∧ i.size = s ∧ i.bytes = b := by
  cases p with
  | none => cases h
  | some i => simp at h; exact ⟨i, rfl, h.1, h.2.1, h.2.2⟩
theorem flatE_snoc (l : List LEnt) (e : LEnt) : (l ++ [e]).flatMap entL = l.flatMap entL ++ entL e := by simp
def BfInv (E : Nat → LEnt) (day : Int) (n : Nat) (t : TypeId) (w : World) (v5 v : Value) (wr : World) : Prop :=
  ∃ (k : Nat) (l : List LEnt), k ≤ n ∧ v = .int .i64 k ∧ wr.ownsRow w.heap.size t 10 v5 l.length (l.flatMap entL) ∧ l.length ≤ k ∧
    (∀ i, i < l.length → RowLeg w (atE l i).lA (atE l i).ln (atE l i).legs ∧ (atE l i).ln ≤ 1000000) ∧ (∀ id, sumE (atE l) id (fun _ => true) l.length = sumE E id (fun e => decide (e.bk ≤ day)) k) ∧ Below w.heap.size w wr
theorem bf_legs {w : World} {l : List LEnt} {e : LEnt} (h : ∀ i, i < l.length → RowLeg w (atE l i).lA (atE l i).ln (atE l i).legs ∧ (atE l i).ln ≤ 1000000) (he : RowLeg w e.lA e.ln e.legs ∧ e.ln ≤ 1000000) :
    ∀ i, i < (l ++ [e]).length → RowLeg w (atE (l ++ [e]) i).lA (atE (l ++ [e]) i).ln (atE (l ++ [e]) i).legs ∧ (atE (l ++ [e]) i).ln ≤ 1000000 := by
  intro i hi
  rw [List.length_append, List.length_singleton] at hi
  by_cases h1 : i < l.length
  · rw [atE_left h1]; exact h i h1
  · obtain rfl : i = l.length := by omega
    rw [atE_last]; exact he
theorem bf_sum {E : Nat → LEnt} {day : Int} {k : Nat} {l : List LEnt} (hs : ∀ id, sumE (atE l) id (fun _ => true) l.length = sumE E id (fun e => decide (e.bk ≤ day)) k) (hc : (E k).bk ≤ day) (id : Int) :
    sumE (atE (l ++ [E k])) id (fun _ => true) (l ++ [E k]).length = sumE E id (fun e => decide (e.bk ≤ day)) (k + 1) := by
  rw [sumE_snoc, hs id]
  exact (if_pos (show (decide ((E k).bk ≤ day)) = true by simpa using hc)).symm
theorem bf_skip {E : Nat → LEnt} {day : Int} {k : Nat} {l : List LEnt} (hs : ∀ id, sumE (atE l) id (fun _ => true) l.length = sumE E id (fun e => decide (e.bk ≤ day)) k) (hc : ¬ (E k).bk ≤ day) (id : Int) :
    sumE (atE l) id (fun _ => true) l.length = sumE E id (fun e => decide (e.bk ≤ day)) (k + 1) := by
  rw [hs id]
  exact (if_neg (show ¬ (decide ((E k).bk ≤ day)) = true by simpa using hc)).symm
theorem bf_own {w : World} {base : Nat} {e : TypeId} {A : Option Addr} {c : Nat} {l : List LEnt} {a : LEnt} {xs : List Value} (hx : xs = entL a) (h : w.ownsRow base e 10 (.slice A (l.length + 1) c) (l.length + 1) (l.flatMap entL ++ xs)) :
    w.ownsRow base e 10 (.slice A (l.length + 1) c) (l ++ [a]).length ((l ++ [a]).flatMap entL) := by
  rw [List.length_append, List.length_singleton, flatE_snoc, ← hx]; exact h
set_option maxRecDepth 2000 in
set_option maxHeartbeats 1000000 in
theorem before_any (A : Option Addr) (n c : Nat) (E : Nat → LEnt) (day : Int) (hn : n ≤ 1000000) (w : World) (hj : Jrn w A n E) :
    Calls Tryd.prog 28 #[.slice A n c, .int .i64 day] w fun e w' => ∃ A' m c' F, e = .returned (.slice A' m c') ∧ m ≤ n ∧ Jrn w' A' m F ∧ (∀ id, sumE F id (fun _ => true) m = sumE E id (fun e => decide (e.bk ≤ day)) n) ∧ Below w.heap.size w w' := by
  obtain ⟨i0, hi0, hz0, hz1, hz2⟩ := info3 ent_info
  have I0 := hide hi0
  have I1 := hide hz0
  have I2 := hide hz1
  have I3 := hide hz2
  clear hi0 hz0 hz1 hz2
  have HR := hide hj
  clear hj
  go_enter Tryd.func28, Tryd.ntmps28
  go_wp2_with fail
  go_loopw [5, 6] (fun v5 v wr => BfInv E day n 54 w v5 v wr) (fun _ v _ => n - (intOf v).toNat)
  case atStart => exact ⟨0, [], by omega, rfl, ⟨rfl, .inl ⟨rfl, rfl⟩⟩, by simp, fun i hi => by simp at hi, fun id => rfl, by (repeat (first | (with_reducible exact Below.refl _ _) | (with_reducible assumption) | ((with_reducible refine Below.alloc ?_ ?_ _); (rotate_left); (first | omega | (simp <;> omega))) | ((with_reducible refine Below.setCell ?_ ?_ _); (rotate_left); (first | omega | (simp <;> omega))) | (with_reducible refine Below.drew ?_) | (with_reducible refine below_drewN ?_ _)))⟩
  case round =>
    obtain ⟨k, l, hk, rfl, hown, hlk, hl, hs, hb⟩ := hrel
    have HL := hide hl
    have HS := hide hs
    have HZ := hide hlk
    clear hl hs
    by_cases hlt : k < n
    · have hm : (k : Int) < n := by omega
      obtain ⟨b, off, rfl, hbl, c0, c1, c2, c3, c4, c5, c6, c7, c8, c9⟩ := (HR.out.below hb).row.at hlt
      have HK := hide hlt
      have hk0 : (0 : Int) ≤ k := by omega
      by_cases hc : (E k).bk ≤ day
      · have HC := hide hc
        have hzb := hb.size
        have hln : l.length ≤ 999999 := by omega
        clear hlt hk hlk
        go_wp2_with (at_builtin; go_loud (refine wpList_append_own2 _ rfl (.tmp 20) (.tmp 25) 29 rfl w.heap.size 54 i0 (.agg #[.int .i64 0, .int .i64 0, .int .i64 0, .int .i64 0, .int .i64 0, .int .i64 0, .string ⟨#[]⟩, .string ⟨#[]⟩, .slice none 0 0, .int .u64 0]) 10 112 Tryd.underlying29 I0.out I1.out I2.out I3.out rfl (by decide) _ _ _ rfl (hown.alloc _) ⟨wr.heap.size, 0, none⟩ 1 1 (entL (E k)) rfl rfl (news_cells (cs := ⟨entL (E k)⟩) (Go.Deep.blk_alloc_new _ _)) (ones_all rfl) (by simp only [maxLen]; omega) (by omega) (by simp; omega) ?_); intro A1 c1 w2 ho hg hv)
        go_roundw
        case rel => exact ⟨k + 1, l ++ [E k], HK.out, by go_num, bf_own rfl ho, by have := HZ.out; simp; omega, bf_legs HL.out ⟨HR.out.row.2 k HK.out, HR.out.legs k HK.out⟩, bf_sum HS.out HC.out, (hb.alloc (by omega) _).grown hg (by simp; omega) (own_ge hown)⟩
        case measure => have := HK.out; simp [intOf]; omega
      · have HC := hide hc
        have hc2 := Int.not_le.1 hc
        clear hc hlt hk hlk
        go_wp2_with fail
        go_roundw
        case rel => exact ⟨k + 1, l, HK.out, by go_num, hown, by have := HZ.out; omega, HL.out, bf_skip HS.out HC.out, hb⟩
        case measure => have := HK.out; simp [intOf]; omega
    · obtain rfl : k = n := by omega
      clear hlt hk
      go_wp2_with fail
      go_ret
      obtain ⟨A', c', hv', hrow⟩ := own_rowEnt hown (fun i hi => (HL.out i hi).1.below hb)
      exact ⟨A', l.length, c', atE l, by rw [← hv']; rfl, HZ.out, ⟨hrow, fun i hi => (HL.out i hi).2⟩, HS.out, hb⟩
end Go.Proofs.YtodfpfbcjiganaaDoor
