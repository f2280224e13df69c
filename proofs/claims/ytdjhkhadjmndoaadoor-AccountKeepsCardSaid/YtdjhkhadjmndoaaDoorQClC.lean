/- Texts laid together: ClC. -/
import Derived.Test.YtdjhkhadjmndoaaDoorQClB
import Derived.Test.YtdjhkhadjmndoaaDoorQReg
namespace Go.Proofs.YtdjhkhadjmndoaaDoor
set_option maxRecDepth 4000
set_option linter.unusedSimpArgs false
set_option linter.unusedVariables false
open Go.RowKit
def KnOK (e : Nat) (ck : Nat → Tr) : Prop := ∀ j, j < (tbl e).length → (ck j).wt ((tbl e).getD j .i)
theorem rd_any {S S' : Nat → Prop} {w w' : World} {T : Tr} {x : Value} {k : Kd} (hk : leafK k = true) (h : T.rd S w x) (ht : T.wt k) : T.rd S' w' x := by rw [rd_leaf hk h ht]; rfl
theorem rd_of_lf {S : Nat → Prop} {w : World} {T : Tr} {v x : Value} (h : T = .lf v) (hx : x = v) : T.rd S w x := by subst h hx; rfl
theorem row_fin {B N : Nat} {w1 W' : World} {e n cap : Nat} {c : Nat → Nat → Tr} {A : Option Addr} {C : Nat → Nat → Value} {T : Tr} (hT : T = .row n (tbl e).length c) (hcap : n ≤ cap) (h : RowT (New N w1) w1 e A n c C) (hB : B ≤ N)
    (hs : w1.heap.size ≤ W'.heap.size) (hw : ∀ b, N ≤ b → b < w1.heap.size → W'.heap[b]? = w1.heap[b]?) : T.rd (New B W') W' (.slice A n cap) := by
  subst hT
  exact row_mk hcap (h.mono (fun b hb => ⟨Nat.le_trans hB hb.1, Nat.lt_of_lt_of_le hb.2 hs⟩) (fun b hb => hw b hb.1 hb.2))
theorem el_fin {B N : Nat} {w1 W' : World} {T : Tr} {x : Value} (h : T.rd (New N w1) w1 x) (hB : B ≤ N) (hs : w1.heap.size ≤ W'.heap.size) (hw : ∀ b, N ≤ b → b < w1.heap.size → W'.heap[b]? = w1.heap[b]?) : T.rd (New B W') W' x :=
  h.mono (fun b hb => ⟨Nat.le_trans hB hb.1, Nat.lt_of_lt_of_le hb.2 hs⟩) (fun b hb => hw b hb.1 hb.2)
theorem el_sub {S : Nat → Prop} {w : World} {e e' o : Nat} {ck : Nat → Tr} {X : Array Value} (h : ElT S w e ck X) (hl : o + (tbl e').length ≤ (tbl e).length) : ElT S w e' (fun j => ck (o + j)) (X.extract o (o + (tbl e').length)) := by
  have hs : (X.extract o (o + (tbl e').length)).size = (tbl e').length := by rw [Array.size_extract, h.size]; omega
  refine ⟨hs, ?_, fun j hj => ?_⟩
  · rw [Array.all_eq_true]
    intro j hj
    rw [Array.getElem_extract]
    exact Array.all_eq_true.1 h.ones _ _
  · have := h.rd (o + j) (by omega)
    have e1 : (X.extract o (o + (tbl e').length)).getD j undef = X.getD (o + j) undef := by
      rw [Array.getD, dif_pos (by omega), Array.getD, dif_pos (by rw [h.size]; omega)]
      simp
    rw [e1]; exact this
theorem arr3 {α : Type} {cs : Array α} (h : cs.size = 3) : ∃ x0 x1 x2, cs = #[x0, x1, x2] := by
  obtain ⟨l⟩ := cs
  match l, h with
  | [x0, x1, x2], _ => exact ⟨x0, x1, x2, rfl⟩
theorem arr4 {α : Type} {cs : Array α} (h : cs.size = 4) : ∃ x0 x1 x2 x3, cs = #[x0, x1, x2, x3] := by
  obtain ⟨l⟩ := cs
  match l, h with
  | [x0, x1, x2, x3], _ => exact ⟨x0, x1, x2, x3, rfl⟩
theorem arr5 {α : Type} {cs : Array α} (h : cs.size = 5) : ∃ x0 x1 x2 x3 x4, cs = #[x0, x1, x2, x3, x4] := by
  obtain ⟨l⟩ := cs
  match l, h with
  | [x0, x1, x2, x3, x4], _ => exact ⟨x0, x1, x2, x3, x4, rfl⟩
theorem arr6 {α : Type} {cs : Array α} (h : cs.size = 6) : ∃ x0 x1 x2 x3 x4 x5, cs = #[x0, x1, x2, x3, x4, x5] := by
  obtain ⟨l⟩ := cs
  match l, h with
  | [x0, x1, x2, x3, x4, x5], _ => exact ⟨x0, x1, x2, x3, x4, x5, rfl⟩
theorem arr10 {α : Type} {cs : Array α} (h : cs.size = 10) : ∃ x0 x1 x2 x3 x4 x5 x6 x7 x8 x9, cs = #[x0, x1, x2, x3, x4, x5, x6, x7, x8, x9] := by
  obtain ⟨l⟩ := cs
  match l, h with
  | [x0, x1, x2, x3, x4, x5, x6, x7, x8, x9], _ => exact ⟨x0, x1, x2, x3, x4, x5, x6, x7, x8, x9, rfl⟩
set_option maxRecDepth 20000 in
set_option maxHeartbeats 4000000 in
theorem fn_expr (ck : Nat → Tr) (hw : KnOK 5 ck) (hE : ∀ n c, ck 3 = .row n (tbl 5).length c → ∀ k, k < n → FnOK Tryd.prog 5 (c k) 88) : FnOK Tryd.prog 5 ck 88 := by
  intro w X hX
  obtain ⟨x0, x1, x2, x3, rfl⟩ := arr4 (show X.size = 4 from hX.size)
  obtain ⟨vx0, px0, qx0, _⟩ := rd_int (hX.rd 0 (by decide)) (hw 0 (by decide))
  have ex0 : x0 = .int .i64 vx0 := qx0
  subst ex0
  have Qx0 := hide px0
  clear qx0 px0
  obtain ⟨vx1, px1, qx1, _⟩ := rd_int (hX.rd 1 (by decide)) (hw 1 (by decide))
  have ex1 : x1 = .int .i64 vx1 := qx1
  subst ex1
  have Qx1 := hide px1
  clear qx1 px1
  obtain ⟨vx2, px2, qx2, _⟩ := rd_str (hX.rd 2 (by decide)) (hw 2 (by decide))
  have ex2 : x2 = .string vx2 := qx2
  subst ex2
  have Qx2 := hide px2
  clear qx2 px2
  have HX := hide hX
  have HW := hide hw
  obtain ⟨n0, c0, hc0, hk0, A0, cap0, C0, h0, _, hrow0⟩ := rd_row (e := 5) (HX.out.rd 3 (by decide)) (HW.out 3 (by decide))
  have h0' : x3 = .slice A0 n0 cap0 := h0
  subst h0'
  have HC0 := hide (fun (W : World) (h : RowT (Old W) W 5 A0 n0 c0 C0) => each_Expr n0 c0 (fun k hk => hE n0 c0 hc0 k hk) hk0 A0 cap0 C0 W h)
  have HR0 := hide hrow0
  have HQ0 := hide hc0
  clear h0 hrow0 hc0
  clear hX hw
  go_enter Tryd.func88, Tryd.ntmps88
  go_wp2_with fail
  refine (HC0.out _ (HR0.out.below (by (repeat (first | (with_reducible first | exact Below.refl _ _ | assumption | refine Below.drew ?_) | ((with_reducible first | refine Below.alloc ?_ ?_ _ | refine Below.setCell ?_ ?_ _); rotate_left; (first | omega | (simp <;> omega)))))))).mono ?_
  rintro r w1 ⟨B0, bap0, D0, rfl, hcap0, hN, hb⟩
  have HN0 := hide hN
  clear hN
  have q1B : Below w.heap.size w w1 := (by refine Below.trans ?_ (hb.mono (by first | omega | (simp <;> omega))); (repeat (first | (with_reducible first | exact Below.refl _ _ | assumption | refine Below.drew ?_) | ((with_reducible first | refine Below.alloc ?_ ?_ _ | refine Below.setCell ?_ ?_ _); rotate_left; (first | omega | (simp <;> omega))))))
  have q1z := hb.size
  try simp at q1z
  have q1t : w.heap.size ≤ w1.heap.size := (by omega)
  have q1s0 : w.heap.size < w1.heap.size := (by omega)
  have q1n0_0 : ¬ w1.heap.size = w.heap.size := (by omega)
  have q1n0_1 : ¬ w1.heap.size + 1 = w.heap.size := (by omega)
  have q1n0_2 : ¬ w1.heap.size + 2 = w.heap.size := (by omega)
  have q1c0_0 := hb.cell (p := ⟨w.heap.size, 0, none⟩) (by first | omega | (simp <;> omega))
  simp [go_sem, *] at q1c0_0
  have q1c0_1 := hb.cell (p := ⟨w.heap.size, 1, none⟩) (by first | omega | (simp <;> omega))
  simp [go_sem, *] at q1c0_1
  have q1c0_2 := hb.cell (p := ⟨w.heap.size, 2, none⟩) (by first | omega | (simp <;> omega))
  simp [go_sem, *] at q1c0_2
  have q1c0_3 := hb.cell (p := ⟨w.heap.size, 3, none⟩) (by first | omega | (simp <;> omega))
  simp [go_sem, *] at q1c0_3
  have q1f0 := fun o => hb.frozen (p := ⟨w.heap.size, o, none⟩) (by first | omega | (simp <;> omega))
  simp [go_sem, *] at q1f0
  have q1s1 : w.heap.size + 1 < w1.heap.size := (by omega)
  have q1n1_0 : ¬ w1.heap.size = w.heap.size + 1 := (by omega)
  have q1n1_1 : ¬ w1.heap.size + 1 = w.heap.size + 1 := (by omega)
  have q1n1_2 : ¬ w1.heap.size + 2 = w.heap.size + 1 := (by omega)
  have q1c1_0 := hb.cell (p := ⟨w.heap.size + 1, 0, none⟩) (by first | omega | (simp <;> omega))
  simp [go_sem, *] at q1c1_0
  have q1c1_1 := hb.cell (p := ⟨w.heap.size + 1, 1, none⟩) (by first | omega | (simp <;> omega))
  simp [go_sem, *] at q1c1_1
  have q1c1_2 := hb.cell (p := ⟨w.heap.size + 1, 2, none⟩) (by first | omega | (simp <;> omega))
  simp [go_sem, *] at q1c1_2
  have q1c1_3 := hb.cell (p := ⟨w.heap.size + 1, 3, none⟩) (by first | omega | (simp <;> omega))
  simp [go_sem, *] at q1c1_3
  have q1f1 := fun o => hb.frozen (p := ⟨w.heap.size + 1, o, none⟩) (by first | omega | (simp <;> omega))
  simp [go_sem, *] at q1f1
  have q1o : ∀ b o, b < w.heap.size → w1.cell? ⟨b, o, none⟩ = w.cell? ⟨b, o, none⟩ := fun b o h => q1B.cell (p := ⟨b, o, none⟩) h
  clear hb
  go_wp2_with fail
  refine bodyPost_ret (by simp [results, Tryd.results88, go_sem, *] <;> rfl) rfl ?_
  refine ⟨#[.int .i64 vx0, .int .i64 vx1, .string vx2, .slice B0 n0 bap0], rfl, ⟨rfl, ?_, fun j hj => ?_⟩, ?_⟩
  · simp [Value.oneCell']
  · have hj4 : j < 4 := hj; clear hj; match j, hj4 with | 0, _ => exact rd_of_lf Qx0.out rfl | 1, _ => exact rd_of_lf Qx1.out rfl | 2, _ => exact rd_of_lf Qx2.out rfl | 3, _ => exact row_fin HQ0.out hcap0 HN0.out (by first | omega | (simp <;> omega)) (by first | omega | (simp <;> omega)) (fun b h1 h2 => by repeat (first | (with_reducible exact rfl) | (refine (Go.Deep.blk_setCell_other _ _ _ _ (by have h3 := h1; (try simp at h3); (first | omega | (simp; omega)))).trans ?_)))
  · refine q1B.trans ?_; (repeat (first | (with_reducible first | exact Below.refl _ _ | assumption | refine Below.drew ?_) | ((with_reducible first | refine Below.alloc ?_ ?_ _ | refine Below.setCell ?_ ?_ _); rotate_left; (first | omega | (simp <;> omega)))))
set_option maxRecDepth 20000 in
set_option maxHeartbeats 4000000 in
theorem fn_interest (ck : Nat → Tr) (hw : KnOK 14 ck)  : FnOK Tryd.prog 14 ck 85 := by
  intro w X hX
  obtain ⟨x0, x1, x2, x3, x4, rfl⟩ := arr5 (show X.size = 5 from hX.size)
  obtain ⟨vx1, px1, qx1⟩ := rd_bool (hX.rd 1 (by decide)) (hw 1 (by decide))
  have ex1 : x1 = .bool vx1 := qx1
  subst ex1
  have Qx1 := hide px1
  clear qx1 px1
  obtain ⟨vx2, px2, qx2, _⟩ := rd_int (hX.rd 2 (by decide)) (hw 2 (by decide))
  have ex2 : x2 = .int .i64 vx2 := qx2
  subst ex2
  have Qx2 := hide px2
  clear qx2 px2
  obtain ⟨vx3, px3, qx3, _⟩ := rd_int (hX.rd 3 (by decide)) (hw 3 (by decide))
  have ex3 : x3 = .int .i64 vx3 := qx3
  subst ex3
  have Qx3 := hide px3
  clear qx3 px3
  obtain ⟨vx4, px4, qx4⟩ := rd_bool (hX.rd 4 (by decide)) (hw 4 (by decide))
  have ex4 : x4 = .bool vx4 := qx4
  subst ex4
  have Qx4 := hide px4
  clear qx4 px4
  have HX := hide hX
  have HW := hide hw
  obtain ⟨n0, c0, hc0, hk0, A0, cap0, C0, h0, _, hrow0⟩ := rd_row (e := 4) (HX.out.rd 0 (by decide)) (HW.out 0 (by decide))
  have h0' : x0 = .slice A0 n0 cap0 := h0
  subst h0'
  have HC0 := hide (fun (W : World) (h : RowT (Old W) W 4 A0 n0 c0 C0) => cl_Tier cap0 h hk0)
  have HR0 := hide hrow0
  have HQ0 := hide hc0
  clear h0 hrow0 hc0
  clear hX hw
  go_enter Tryd.func85, Tryd.ntmps85
  go_wp2_with fail
  refine (HC0.out _ (HR0.out.below (by (repeat (first | (with_reducible first | exact Below.refl _ _ | assumption | refine Below.drew ?_) | ((with_reducible first | refine Below.alloc ?_ ?_ _ | refine Below.setCell ?_ ?_ _); rotate_left; (first | omega | (simp <;> omega)))))))).mono ?_
  rintro r w1 ⟨B0, bap0, D0, rfl, hcap0, hN, hb⟩
  have HN0 := hide hN
  clear hN
  have q1B : Below w.heap.size w w1 := (by refine Below.trans ?_ (hb.mono (by first | omega | (simp <;> omega))); (repeat (first | (with_reducible first | exact Below.refl _ _ | assumption | refine Below.drew ?_) | ((with_reducible first | refine Below.alloc ?_ ?_ _ | refine Below.setCell ?_ ?_ _); rotate_left; (first | omega | (simp <;> omega))))))
  have q1z := hb.size
  try simp at q1z
  have q1t : w.heap.size ≤ w1.heap.size := (by omega)
  have q1s0 : w.heap.size < w1.heap.size := (by omega)
  have q1n0_0 : ¬ w1.heap.size = w.heap.size := (by omega)
  have q1n0_1 : ¬ w1.heap.size + 1 = w.heap.size := (by omega)
  have q1n0_2 : ¬ w1.heap.size + 2 = w.heap.size := (by omega)
  have q1c0_0 := hb.cell (p := ⟨w.heap.size, 0, none⟩) (by first | omega | (simp <;> omega))
  simp [go_sem, *] at q1c0_0
  have q1c0_1 := hb.cell (p := ⟨w.heap.size, 1, none⟩) (by first | omega | (simp <;> omega))
  simp [go_sem, *] at q1c0_1
  have q1c0_2 := hb.cell (p := ⟨w.heap.size, 2, none⟩) (by first | omega | (simp <;> omega))
  simp [go_sem, *] at q1c0_2
  have q1c0_3 := hb.cell (p := ⟨w.heap.size, 3, none⟩) (by first | omega | (simp <;> omega))
  simp [go_sem, *] at q1c0_3
  have q1c0_4 := hb.cell (p := ⟨w.heap.size, 4, none⟩) (by first | omega | (simp <;> omega))
  simp [go_sem, *] at q1c0_4
  have q1f0 := fun o => hb.frozen (p := ⟨w.heap.size, o, none⟩) (by first | omega | (simp <;> omega))
  simp [go_sem, *] at q1f0
  have q1s1 : w.heap.size + 1 < w1.heap.size := (by omega)
  have q1n1_0 : ¬ w1.heap.size = w.heap.size + 1 := (by omega)
  have q1n1_1 : ¬ w1.heap.size + 1 = w.heap.size + 1 := (by omega)
  have q1n1_2 : ¬ w1.heap.size + 2 = w.heap.size + 1 := (by omega)
  have q1c1_0 := hb.cell (p := ⟨w.heap.size + 1, 0, none⟩) (by first | omega | (simp <;> omega))
  simp [go_sem, *] at q1c1_0
  have q1c1_1 := hb.cell (p := ⟨w.heap.size + 1, 1, none⟩) (by first | omega | (simp <;> omega))
  simp [go_sem, *] at q1c1_1
  have q1c1_2 := hb.cell (p := ⟨w.heap.size + 1, 2, none⟩) (by first | omega | (simp <;> omega))
  simp [go_sem, *] at q1c1_2
  have q1c1_3 := hb.cell (p := ⟨w.heap.size + 1, 3, none⟩) (by first | omega | (simp <;> omega))
  simp [go_sem, *] at q1c1_3
  have q1c1_4 := hb.cell (p := ⟨w.heap.size + 1, 4, none⟩) (by first | omega | (simp <;> omega))
  simp [go_sem, *] at q1c1_4
  have q1f1 := fun o => hb.frozen (p := ⟨w.heap.size + 1, o, none⟩) (by first | omega | (simp <;> omega))
  simp [go_sem, *] at q1f1
  have q1o : ∀ b o, b < w.heap.size → w1.cell? ⟨b, o, none⟩ = w.cell? ⟨b, o, none⟩ := fun b o h => q1B.cell (p := ⟨b, o, none⟩) h
  clear hb
  go_wp2_with fail
  refine bodyPost_ret (by simp [results, Tryd.results85, go_sem, *] <;> rfl) rfl ?_
  refine ⟨#[.slice B0 n0 bap0, .bool vx1, .int .i64 vx2, .int .i64 vx3, .bool vx4], rfl, ⟨rfl, ?_, fun j hj => ?_⟩, ?_⟩
  · simp [Value.oneCell']
  · have hj4 : j < 5 := hj; clear hj; match j, hj4 with | 0, _ => exact row_fin HQ0.out hcap0 HN0.out (by first | omega | (simp <;> omega)) (by first | omega | (simp <;> omega)) (fun b h1 h2 => by repeat (first | (with_reducible exact rfl) | (refine (Go.Deep.blk_setCell_other _ _ _ _ (by have h3 := h1; (try simp at h3); (first | omega | (simp; omega)))).trans ?_))) | 1, _ => exact rd_of_lf Qx1.out rfl | 2, _ => exact rd_of_lf Qx2.out rfl | 3, _ => exact rd_of_lf Qx3.out rfl | 4, _ => exact rd_of_lf Qx4.out rfl
  · refine q1B.trans ?_; (repeat (first | (with_reducible first | exact Below.refl _ _ | assumption | refine Below.drew ?_) | ((with_reducible first | refine Below.alloc ?_ ?_ _ | refine Below.setCell ?_ ?_ _); rotate_left; (first | omega | (simp <;> omega)))))
set_option maxRecDepth 20000 in
set_option maxHeartbeats 4000000 in
theorem fn_Entry (ck : Nat → Tr) (hw : KnOK 11 ck)  : FnOK Tryd.prog 11 ck 92 := by
  intro w X hX
  obtain ⟨x0, x1, x2, x3, x4, x5, x6, x7, x8, x9, rfl⟩ := arr10 (show X.size = 10 from hX.size)
  obtain ⟨vx0, px0, qx0, _⟩ := rd_int (hX.rd 0 (by decide)) (hw 0 (by decide))
  have ex0 : x0 = .int .i64 vx0 := qx0
  subst ex0
  have Qx0 := hide px0
  clear qx0 px0
  obtain ⟨vx1, px1, qx1, _⟩ := rd_int (hX.rd 1 (by decide)) (hw 1 (by decide))
  have ex1 : x1 = .int .i64 vx1 := qx1
  subst ex1
  have Qx1 := hide px1
  clear qx1 px1
  obtain ⟨vx2, px2, qx2, _⟩ := rd_int (hX.rd 2 (by decide)) (hw 2 (by decide))
  have ex2 : x2 = .int .i64 vx2 := qx2
  subst ex2
  have Qx2 := hide px2
  clear qx2 px2
  obtain ⟨vx3, px3, qx3, _⟩ := rd_int (hX.rd 3 (by decide)) (hw 3 (by decide))
  have ex3 : x3 = .int .i64 vx3 := qx3
  subst ex3
  have Qx3 := hide px3
  clear qx3 px3
  obtain ⟨vx4, px4, qx4, _⟩ := rd_int (hX.rd 4 (by decide)) (hw 4 (by decide))
  have ex4 : x4 = .int .i64 vx4 := qx4
  subst ex4
  have Qx4 := hide px4
  clear qx4 px4
  obtain ⟨vx5, px5, qx5, _⟩ := rd_int (hX.rd 5 (by decide)) (hw 5 (by decide))
  have ex5 : x5 = .int .i64 vx5 := qx5
  subst ex5
  have Qx5 := hide px5
  clear qx5 px5
  obtain ⟨vx6, px6, qx6, _⟩ := rd_str (hX.rd 6 (by decide)) (hw 6 (by decide))
  have ex6 : x6 = .string vx6 := qx6
  subst ex6
  have Qx6 := hide px6
  clear qx6 px6
  obtain ⟨vx7, px7, qx7, _⟩ := rd_str (hX.rd 7 (by decide)) (hw 7 (by decide))
  have ex7 : x7 = .string vx7 := qx7
  subst ex7
  have Qx7 := hide px7
  clear qx7 px7
  obtain ⟨vx9, px9, qx9, _⟩ := rd_u64 (hX.rd 9 (by decide)) (hw 9 (by decide))
  have ex9 : x9 = .int .u64 vx9 := qx9
  subst ex9
  have Qx9 := hide px9
  clear qx9 px9
  have HX := hide hX
  have HW := hide hw
  obtain ⟨n0, c0, hc0, hk0, A0, cap0, C0, h0, _, hrow0⟩ := rd_row (e := 10) (HX.out.rd 8 (by decide)) (HW.out 8 (by decide))
  have h0' : x8 = .slice A0 n0 cap0 := h0
  subst h0'
  have HC0 := hide (fun (W : World) (h : RowT (Old W) W 10 A0 n0 c0 C0) => cl_Leg cap0 h hk0)
  have HR0 := hide hrow0
  have HQ0 := hide hc0
  clear h0 hrow0 hc0
  clear hX hw
  go_enter Tryd.func92, Tryd.ntmps92
  go_wp2_with fail
  refine (HC0.out _ (HR0.out.below (by (repeat (first | (with_reducible first | exact Below.refl _ _ | assumption | refine Below.drew ?_) | ((with_reducible first | refine Below.alloc ?_ ?_ _ | refine Below.setCell ?_ ?_ _); rotate_left; (first | omega | (simp <;> omega)))))))).mono ?_
  rintro r w1 ⟨B0, bap0, D0, rfl, hcap0, hN, hb⟩
  have HN0 := hide hN
  clear hN
  have q1B : Below w.heap.size w w1 := (by refine Below.trans ?_ (hb.mono (by first | omega | (simp <;> omega))); (repeat (first | (with_reducible first | exact Below.refl _ _ | assumption | refine Below.drew ?_) | ((with_reducible first | refine Below.alloc ?_ ?_ _ | refine Below.setCell ?_ ?_ _); rotate_left; (first | omega | (simp <;> omega))))))
  have q1z := hb.size
  try simp at q1z
  have q1t : w.heap.size ≤ w1.heap.size := (by omega)
  have q1s0 : w.heap.size < w1.heap.size := (by omega)
  have q1n0_0 : ¬ w1.heap.size = w.heap.size := (by omega)
  have q1n0_1 : ¬ w1.heap.size + 1 = w.heap.size := (by omega)
  have q1n0_2 : ¬ w1.heap.size + 2 = w.heap.size := (by omega)
  have q1c0_0 := hb.cell (p := ⟨w.heap.size, 0, none⟩) (by first | omega | (simp <;> omega))
  simp [go_sem, *] at q1c0_0
  have q1c0_1 := hb.cell (p := ⟨w.heap.size, 1, none⟩) (by first | omega | (simp <;> omega))
  simp [go_sem, *] at q1c0_1
  have q1c0_2 := hb.cell (p := ⟨w.heap.size, 2, none⟩) (by first | omega | (simp <;> omega))
  simp [go_sem, *] at q1c0_2
  have q1c0_3 := hb.cell (p := ⟨w.heap.size, 3, none⟩) (by first | omega | (simp <;> omega))
  simp [go_sem, *] at q1c0_3
  have q1c0_4 := hb.cell (p := ⟨w.heap.size, 4, none⟩) (by first | omega | (simp <;> omega))
  simp [go_sem, *] at q1c0_4
  have q1c0_5 := hb.cell (p := ⟨w.heap.size, 5, none⟩) (by first | omega | (simp <;> omega))
  simp [go_sem, *] at q1c0_5
  have q1c0_6 := hb.cell (p := ⟨w.heap.size, 6, none⟩) (by first | omega | (simp <;> omega))
  simp [go_sem, *] at q1c0_6
  have q1c0_7 := hb.cell (p := ⟨w.heap.size, 7, none⟩) (by first | omega | (simp <;> omega))
  simp [go_sem, *] at q1c0_7
  have q1c0_8 := hb.cell (p := ⟨w.heap.size, 8, none⟩) (by first | omega | (simp <;> omega))
  simp [go_sem, *] at q1c0_8
  have q1c0_9 := hb.cell (p := ⟨w.heap.size, 9, none⟩) (by first | omega | (simp <;> omega))
  simp [go_sem, *] at q1c0_9
  have q1f0 := fun o => hb.frozen (p := ⟨w.heap.size, o, none⟩) (by first | omega | (simp <;> omega))
  simp [go_sem, *] at q1f0
  have q1s1 : w.heap.size + 1 < w1.heap.size := (by omega)
  have q1n1_0 : ¬ w1.heap.size = w.heap.size + 1 := (by omega)
  have q1n1_1 : ¬ w1.heap.size + 1 = w.heap.size + 1 := (by omega)
  have q1n1_2 : ¬ w1.heap.size + 2 = w.heap.size + 1 := (by omega)
  have q1c1_0 := hb.cell (p := ⟨w.heap.size + 1, 0, none⟩) (by first | omega | (simp <;> omega))
  simp [go_sem, *] at q1c1_0
  have q1c1_1 := hb.cell (p := ⟨w.heap.size + 1, 1, none⟩) (by first | omega | (simp <;> omega))
  simp [go_sem, *] at q1c1_1
  have q1c1_2 := hb.cell (p := ⟨w.heap.size + 1, 2, none⟩) (by first | omega | (simp <;> omega))
  simp [go_sem, *] at q1c1_2
  have q1c1_3 := hb.cell (p := ⟨w.heap.size + 1, 3, none⟩) (by first | omega | (simp <;> omega))
  simp [go_sem, *] at q1c1_3
  have q1c1_4 := hb.cell (p := ⟨w.heap.size + 1, 4, none⟩) (by first | omega | (simp <;> omega))
  simp [go_sem, *] at q1c1_4
  have q1c1_5 := hb.cell (p := ⟨w.heap.size + 1, 5, none⟩) (by first | omega | (simp <;> omega))
  simp [go_sem, *] at q1c1_5
  have q1c1_6 := hb.cell (p := ⟨w.heap.size + 1, 6, none⟩) (by first | omega | (simp <;> omega))
  simp [go_sem, *] at q1c1_6
  have q1c1_7 := hb.cell (p := ⟨w.heap.size + 1, 7, none⟩) (by first | omega | (simp <;> omega))
  simp [go_sem, *] at q1c1_7
  have q1c1_8 := hb.cell (p := ⟨w.heap.size + 1, 8, none⟩) (by first | omega | (simp <;> omega))
  simp [go_sem, *] at q1c1_8
  have q1c1_9 := hb.cell (p := ⟨w.heap.size + 1, 9, none⟩) (by first | omega | (simp <;> omega))
  simp [go_sem, *] at q1c1_9
  have q1f1 := fun o => hb.frozen (p := ⟨w.heap.size + 1, o, none⟩) (by first | omega | (simp <;> omega))
  simp [go_sem, *] at q1f1
  have q1o : ∀ b o, b < w.heap.size → w1.cell? ⟨b, o, none⟩ = w.cell? ⟨b, o, none⟩ := fun b o h => q1B.cell (p := ⟨b, o, none⟩) h
  clear hb
  go_wp2_with fail
  refine bodyPost_ret (by simp [results, Tryd.results92, go_sem, *] <;> rfl) rfl ?_
  refine ⟨#[.int .i64 vx0, .int .i64 vx1, .int .i64 vx2, .int .i64 vx3, .int .i64 vx4, .int .i64 vx5, .string vx6, .string vx7, .slice B0 n0 bap0, .int .u64 vx9], rfl, ⟨rfl, ?_, fun j hj => ?_⟩, ?_⟩
  · simp [Value.oneCell']
  · have hj4 : j < 10 := hj; clear hj; match j, hj4 with | 0, _ => exact rd_of_lf Qx0.out rfl | 1, _ => exact rd_of_lf Qx1.out rfl | 2, _ => exact rd_of_lf Qx2.out rfl | 3, _ => exact rd_of_lf Qx3.out rfl | 4, _ => exact rd_of_lf Qx4.out rfl | 5, _ => exact rd_of_lf Qx5.out rfl | 6, _ => exact rd_of_lf Qx6.out rfl | 7, _ => exact rd_of_lf Qx7.out rfl | 8, _ => exact row_fin HQ0.out hcap0 HN0.out (by first | omega | (simp <;> omega)) (by first | omega | (simp <;> omega)) (fun b h1 h2 => by repeat (first | (with_reducible exact rfl) | (refine (Go.Deep.blk_setCell_other _ _ _ _ (by have h3 := h1; (try simp at h3); (first | omega | (simp; omega)))).trans ?_))) | 9, _ => exact rd_of_lf Qx9.out rfl
  · refine q1B.trans ?_; (repeat (first | (with_reducible first | exact Below.refl _ _ | assumption | refine Below.drew ?_) | ((with_reducible first | refine Below.alloc ?_ ?_ _ | refine Below.setCell ?_ ?_ _); rotate_left; (first | omega | (simp <;> omega)))))
set_option maxRecDepth 20000 in
set_option maxHeartbeats 4000000 in
theorem fn_Product2 (ck : Nat → Tr) (hw : KnOK 7 ck) (hE : FnOK Tryd.prog 5 (fun j => ck (2 + j)) 88) : FnOK Tryd.prog 7 ck 90 := by
  intro w X hX
  obtain ⟨x0, x1, x2, x3, x4, x5, rfl⟩ := arr6 (show X.size = 6 from hX.size)
  obtain ⟨vx0, px0, qx0, _⟩ := rd_str (hX.rd 0 (by decide)) (hw 0 (by decide))
  have ex0 : x0 = .string vx0 := qx0
  subst ex0
  have Qx0 := hide px0
  clear qx0 px0
  obtain ⟨vx1, px1, qx1, _⟩ := rd_int (hX.rd 1 (by decide)) (hw 1 (by decide))
  have ex1 : x1 = .int .i64 vx1 := qx1
  subst ex1
  have Qx1 := hide px1
  clear qx1 px1
  obtain ⟨vx2, px2, qx2, _⟩ := rd_int (hX.rd 2 (by decide)) (hw 2 (by decide))
  have ex2 : x2 = .int .i64 vx2 := qx2
  subst ex2
  have Qx2 := hide px2
  clear qx2 px2
  obtain ⟨vx3, px3, qx3, _⟩ := rd_int (hX.rd 3 (by decide)) (hw 3 (by decide))
  have ex3 : x3 = .int .i64 vx3 := qx3
  subst ex3
  have Qx3 := hide px3
  clear qx3 px3
  obtain ⟨vx4, px4, qx4, _⟩ := rd_str (hX.rd 4 (by decide)) (hw 4 (by decide))
  have ex4 : x4 = .string vx4 := qx4
  subst ex4
  have Qx4 := hide px4
  clear qx4 px4
  have HX := hide hX
  have HW := hide hw
  have HR0 := hide (show ElT (Old w) w 5 (fun j => ck (2 + j)) #[.int .i64 vx2, .int .i64 vx3, .string vx4, x5] from el_sub (o := 2) HX.out (by decide))
  have HC0 := hide (hE)
  clear hX hw
  go_enter Tryd.func90, Tryd.ntmps90
  go_wp2_with fail
  refine (HC0.out _ _ (HR0.out.below (by (repeat (first | (with_reducible first | exact Below.refl _ _ | assumption | refine Below.drew ?_) | ((with_reducible first | refine Below.alloc ?_ ?_ _ | refine Below.setCell ?_ ?_ _); rotate_left; (first | omega | (simp <;> omega)))))))).mono ?_
  rintro r w1 ⟨D0, rfl, hN, hb⟩
  obtain ⟨y0_0, y0_1, y0_2, y0_3, rfl⟩ := arr4 (show D0.size = 4 from hN.size); obtain ⟨vy0_0, py0_0, qy0_0, _⟩ := rd_int (hN.rd 0 (by decide)) (HW.out 2 (by decide)); have ey0_0 : y0_0 = .int .i64 vy0_0 := qy0_0; subst ey0_0; have Qy0_0 := hide py0_0; clear qy0_0 py0_0; obtain ⟨vy0_1, py0_1, qy0_1, _⟩ := rd_int (hN.rd 1 (by decide)) (HW.out 3 (by decide)); have ey0_1 : y0_1 = .int .i64 vy0_1 := qy0_1; subst ey0_1; have Qy0_1 := hide py0_1; clear qy0_1 py0_1; obtain ⟨vy0_2, py0_2, qy0_2, _⟩ := rd_str (hN.rd 2 (by decide)) (HW.out 4 (by decide)); have ey0_2 : y0_2 = .string vy0_2 := qy0_2; subst ey0_2; have Qy0_2 := hide py0_2; clear qy0_2 py0_2; obtain ⟨aN0, _, _, _, aA0, aC0, _, ey0_3, _⟩ := rd_row (e := 5) (hN.rd 3 (by decide)) (HW.out 5 (by decide)); have fy0_3 : y0_3 = .slice aA0 aN0 aC0 := ey0_3; subst fy0_3; clear ey0_3
  have HN0 := hide hN
  clear hN
  have q1B : Below w.heap.size w w1 := (by refine Below.trans ?_ (hb.mono (by first | omega | (simp <;> omega))); (repeat (first | (with_reducible first | exact Below.refl _ _ | assumption | refine Below.drew ?_) | ((with_reducible first | refine Below.alloc ?_ ?_ _ | refine Below.setCell ?_ ?_ _); rotate_left; (first | omega | (simp <;> omega))))))
  have q1z := hb.size
  try simp at q1z
  have q1t : w.heap.size ≤ w1.heap.size := (by omega)
  have q1s0 : w.heap.size < w1.heap.size := (by omega)
  have q1n0_0 : ¬ w1.heap.size = w.heap.size := (by omega)
  have q1n0_1 : ¬ w1.heap.size + 1 = w.heap.size := (by omega)
  have q1n0_2 : ¬ w1.heap.size + 2 = w.heap.size := (by omega)
  have q1c0_0 := hb.cell (p := ⟨w.heap.size, 0, none⟩) (by first | omega | (simp <;> omega))
  simp [go_sem, *] at q1c0_0
  have q1c0_1 := hb.cell (p := ⟨w.heap.size, 1, none⟩) (by first | omega | (simp <;> omega))
  simp [go_sem, *] at q1c0_1
  have q1c0_2 := hb.cell (p := ⟨w.heap.size, 2, none⟩) (by first | omega | (simp <;> omega))
  simp [go_sem, *] at q1c0_2
  have q1c0_3 := hb.cell (p := ⟨w.heap.size, 3, none⟩) (by first | omega | (simp <;> omega))
  simp [go_sem, *] at q1c0_3
  have q1c0_4 := hb.cell (p := ⟨w.heap.size, 4, none⟩) (by first | omega | (simp <;> omega))
  simp [go_sem, *] at q1c0_4
  have q1c0_5 := hb.cell (p := ⟨w.heap.size, 5, none⟩) (by first | omega | (simp <;> omega))
  simp [go_sem, *] at q1c0_5
  have q1f0 := fun o => hb.frozen (p := ⟨w.heap.size, o, none⟩) (by first | omega | (simp <;> omega))
  simp [go_sem, *] at q1f0
  have q1s1 : w.heap.size + 1 < w1.heap.size := (by omega)
  have q1n1_0 : ¬ w1.heap.size = w.heap.size + 1 := (by omega)
  have q1n1_1 : ¬ w1.heap.size + 1 = w.heap.size + 1 := (by omega)
  have q1n1_2 : ¬ w1.heap.size + 2 = w.heap.size + 1 := (by omega)
  have q1c1_0 := hb.cell (p := ⟨w.heap.size + 1, 0, none⟩) (by first | omega | (simp <;> omega))
  simp [go_sem, *] at q1c1_0
  have q1c1_1 := hb.cell (p := ⟨w.heap.size + 1, 1, none⟩) (by first | omega | (simp <;> omega))
  simp [go_sem, *] at q1c1_1
  have q1c1_2 := hb.cell (p := ⟨w.heap.size + 1, 2, none⟩) (by first | omega | (simp <;> omega))
  simp [go_sem, *] at q1c1_2
  have q1c1_3 := hb.cell (p := ⟨w.heap.size + 1, 3, none⟩) (by first | omega | (simp <;> omega))
  simp [go_sem, *] at q1c1_3
  have q1c1_4 := hb.cell (p := ⟨w.heap.size + 1, 4, none⟩) (by first | omega | (simp <;> omega))
  simp [go_sem, *] at q1c1_4
  have q1c1_5 := hb.cell (p := ⟨w.heap.size + 1, 5, none⟩) (by first | omega | (simp <;> omega))
  simp [go_sem, *] at q1c1_5
  have q1f1 := fun o => hb.frozen (p := ⟨w.heap.size + 1, o, none⟩) (by first | omega | (simp <;> omega))
  simp [go_sem, *] at q1f1
  have q1o : ∀ b o, b < w.heap.size → w1.cell? ⟨b, o, none⟩ = w.cell? ⟨b, o, none⟩ := fun b o h => q1B.cell (p := ⟨b, o, none⟩) h
  clear hb
  go_wp2_with fail
  refine bodyPost_ret (by simp [results, Tryd.results90, go_sem, *] <;> rfl) rfl ?_
  refine ⟨#[.string vx0, .int .i64 vx1, .int .i64 vy0_0, .int .i64 vy0_1, .string vy0_2, .slice aA0 aN0 aC0], rfl, ⟨rfl, ?_, fun j hj => ?_⟩, ?_⟩
  · simp [Value.oneCell']
  · have hj4 : j < 6 := hj; clear hj; match j, hj4 with | 0, _ => exact rd_of_lf Qx0.out rfl | 1, _ => exact rd_of_lf Qx1.out rfl | 2, _ => exact rd_of_lf Qy0_0.out rfl | 3, _ => exact rd_of_lf Qy0_1.out rfl | 4, _ => exact rd_of_lf Qy0_2.out rfl | 5, _ => exact el_fin (HN0.out.rd 3 (by decide)) (by first | omega | (simp <;> omega)) (by first | omega | (simp <;> omega)) (fun b h1 h2 => by repeat (first | (with_reducible exact rfl) | (refine (Go.Deep.blk_setCell_other _ _ _ _ (by have h3 := h1; (try simp at h3); (first | omega | (simp; omega)))).trans ?_)))
  · refine q1B.trans ?_; (repeat (first | (with_reducible first | exact Below.refl _ _ | assumption | refine Below.drew ?_) | ((with_reducible first | refine Below.alloc ?_ ?_ _ | refine Below.setCell ?_ ?_ _); rotate_left; (first | omega | (simp <;> omega)))))

set_option maxRecDepth 20000 in
set_option maxHeartbeats 4000000 in
theorem fn_Books1 (ck : Nat → Tr) (hw : KnOK 2 ck)  : FnOK Tryd.prog 2 ck 71 := by
  intro w X hX
  obtain ⟨x0, x1, x2, rfl⟩ := arr3 (show X.size = 3 from hX.size)
  obtain ⟨vx0, px0, qx0, _⟩ := rd_str (hX.rd 0 (by decide)) (hw 0 (by decide))
  have ex0 : x0 = .string vx0 := qx0
  subst ex0
  have Qx0 := hide px0
  clear qx0 px0
  have HX := hide hX
  have HW := hide hw
  obtain ⟨n0, c0, hc0, hk0, A0, cap0, C0, h0, _, hrow0⟩ := rd_row (e := 0) (HX.out.rd 1 (by decide)) (HW.out 1 (by decide))
  have h0' : x1 = .slice A0 n0 cap0 := h0
  subst h0'
  have HC0 := hide (fun (W : World) (h : RowT (Old W) W 0 A0 n0 c0 C0) => cl_int cap0 h hk0)
  have HR0 := hide hrow0
  have HQ0 := hide hc0
  clear h0 hrow0 hc0
  obtain ⟨n1, c1, hc1, hk1, A1, cap1, C1, h1, _, hrow1⟩ := rd_row (e := 0) (HX.out.rd 2 (by decide)) (HW.out 2 (by decide))
  have h1' : x2 = .slice A1 n1 cap1 := h1
  subst h1'
  have HC1 := hide (fun (W : World) (h : RowT (Old W) W 0 A1 n1 c1 C1) => cl_int cap1 h hk1)
  have HR1 := hide hrow1
  have HQ1 := hide hc1
  clear h1 hrow1 hc1
  clear hX hw
  go_enter Tryd.func71, Tryd.ntmps71
  go_wp2_with fail
  refine ord_start (SB (0) [] _) 10 (preB 0 10) (by kernel_rfl) (by kernel_rfl) (by kernel_rfl) SB.refl.drew (fun hHeld => ?_)
  refine ord_take (i := 0) (preB 1 9) ?_ rfl (by kernel_rfl) (by kernel_rfl) (by kernel_rfl) (by kernel_rfl) (fun _ _ _ h => h) hHeld (by rfl) (fun wx hSx => ?_) ?_
  rotate_left
  · (unfold SB at hSx; go_simp; (try with_reducible rfl))
  (try simp only [Act.put, putA, putB, putC])
  refine ord_take (i := 3) #[true, false, false, true, false, false, false, false, false, false] ?_ rfl (by kernel_rfl) (by kernel_rfl) (by kernel_rfl) (by kernel_rfl) (fun _ _ _ h => h) hHeld (by rfl) (fun wx hSx => ?_) ?_
  rotate_left
  · (unfold SB at hSx; go_simp; (try with_reducible rfl))
  (try simp only [Act.put, putA, putB, putC])
  refine wpAnyH_ready (rs := [1, 4]) (by kernel_rfl) (by simp) ?_
  refine ord_run (i := 1) #[true, true, false, true, false, false, false, false, false, false] rfl (by kernel_rfl) (by rfl) (fun K hK => ?_) ?_
  · go_simp
    refine hK.out _ _ ?_ (fun hHeld => ?_)
    · exact fun _ _ h => absurd h (Nat.not_lt_zero _)
    clear hK K
    (try simp only [Act.put, putA, putB, putC])
    refine wpAnyH_ready (rs := [2, 4]) (by kernel_rfl) (by simp) ?_
    refine ord_run (i := 2) (preB 4 6) rfl (by kernel_rfl) (by rfl) (fun K hK => ?_) ?_
    · go_simp
      go_wp2_with (go_at_call 72; refine (HC0.out _ (HR0.out.below (by (repeat (first | (with_reducible first | exact Below.refl _ _ | assumption | refine Below.drew ?_) | ((with_reducible first | refine Below.alloc ?_ ?_ _ | refine Below.setCell ?_ ?_ _); rotate_left; (first | omega | (simp <;> omega)))))))).mono ?_; rintro r w1 ⟨B0, bap0, D0, rfl, hcap0, hN, hb⟩; have HN0 := hide hN; clear hN; (have q1B : Below w.heap.size w w1 := (by refine Below.trans ?_ (hb.mono (by first | omega | (simp <;> omega))); (repeat (first | (with_reducible first | exact Below.refl _ _ | assumption | refine Below.drew ?_) | ((with_reducible first | refine Below.alloc ?_ ?_ _ | refine Below.setCell ?_ ?_ _); rotate_left; (first | omega | (simp <;> omega)))))); have q1z := hb.size; (try simp at q1z); have q1t : w.heap.size ≤ w1.heap.size := (by omega); have q1s0 : w.heap.size < w1.heap.size := (by omega); have q1n0_0 : ¬ w1.heap.size = w.heap.size := (by omega); have q1n0_1 : ¬ w1.heap.size + 1 = w.heap.size := (by omega); have q1n0_2 : ¬ w1.heap.size + 2 = w.heap.size := (by omega); have q1c0_0 := hb.cell (p := ⟨w.heap.size, 0, none⟩) (by first | omega | (simp <;> omega)); simp [go_sem, *] at q1c0_0; have q1c0_1 := hb.cell (p := ⟨w.heap.size, 1, none⟩) (by first | omega | (simp <;> omega)); simp [go_sem, *] at q1c0_1; have q1c0_2 := hb.cell (p := ⟨w.heap.size, 2, none⟩) (by first | omega | (simp <;> omega)); simp [go_sem, *] at q1c0_2; have q1f0 := fun o => hb.frozen (p := ⟨w.heap.size, o, none⟩) (by first | omega | (simp <;> omega)); simp [go_sem, *] at q1f0; have q1s1 : w.heap.size + 1 < w1.heap.size := (by omega); have q1n1_0 : ¬ w1.heap.size = w.heap.size + 1 := (by omega); have q1n1_1 : ¬ w1.heap.size + 1 = w.heap.size + 1 := (by omega); have q1n1_2 : ¬ w1.heap.size + 2 = w.heap.size + 1 := (by omega); have q1c1_0 := hb.cell (p := ⟨w.heap.size + 1, 0, none⟩) (by first | omega | (simp <;> omega)); simp [go_sem, *] at q1c1_0; have q1c1_1 := hb.cell (p := ⟨w.heap.size + 1, 1, none⟩) (by first | omega | (simp <;> omega)); simp [go_sem, *] at q1c1_1; have q1c1_2 := hb.cell (p := ⟨w.heap.size + 1, 2, none⟩) (by first | omega | (simp <;> omega)); simp [go_sem, *] at q1c1_2; have q1f1 := fun o => hb.frozen (p := ⟨w.heap.size + 1, o, none⟩) (by first | omega | (simp <;> omega)); simp [go_sem, *] at q1f1; have q1o : ∀ b o, b < w.heap.size → w1.cell? ⟨b, o, none⟩ = w.cell? ⟨b, o, none⟩ := fun b o h => q1B.cell (p := ⟨b, o, none⟩) h; have hbS := hb; have hbS1 := hb; clear hb); have HB1 := hide q1B)
      refine hK.out _ _ ?_ (fun hHeld => ?_)
      · exact fun _ _ h => absurd h (Nat.not_lt_zero _)
      clear hK K
      (try simp only [Act.put, putA, putB, putC])
      refine wpAnyH_ready (rs := [4]) (by kernel_rfl) (by simp) ?_
      refine ord_run (i := 4) (preB 5 5) rfl (by kernel_rfl) (by rfl) (fun K hK => ?_) AllReadyH.nil
      go_simp
      refine hK.out _ _ ?_ (fun hHeld => ?_)
      · exact fun _ _ h => absurd h (Nat.not_lt_zero _)
      clear hK K
      (try simp only [Act.put, putA, putB, putC])
      refine ord_take (i := 6) #[true, true, true, true, true, false, true, false, false, false] ?_ rfl (by kernel_rfl) (by kernel_rfl) (by kernel_rfl) (by kernel_rfl) (fun _ _ _ h => h) hHeld (by rfl) (fun wx hSx => ?_) ?_
      rotate_left
      · (unfold SB at hSx; go_simp; (try with_reducible rfl))
      (try simp only [Act.put, putA, putB, putC])
      refine wpAnyH_ready (rs := [5]) (by kernel_rfl) (by simp) ?_
      refine ord_run (i := 5) (preB 7 3) rfl (by kernel_rfl) (by rfl) (fun K hK => ?_) AllReadyH.nil
      go_simp
      go_wp2_with (go_at_call 72; refine (HC1.out _ (HR1.out.below (HB1.out.trans (by (repeat (first | (with_reducible first | exact Below.refl _ _ | assumption | refine Below.drew ?_) | ((with_reducible first | refine Below.alloc ?_ ?_ _ | refine Below.setCell ?_ ?_ _); rotate_left; (first | omega | (simp <;> omega))))))))).mono ?_; rintro r w2 ⟨B1, bap1, D1, rfl, hcap1, hN, hb⟩; have HN1 := hide hN; clear hN; (have q2B : Below w1.heap.size w1 w2 := (by refine Below.trans ?_ (hb.mono (by first | omega | (simp <;> omega))); (repeat (first | (with_reducible first | exact Below.refl _ _ | assumption | refine Below.drew ?_) | ((with_reducible first | refine Below.alloc ?_ ?_ _ | refine Below.setCell ?_ ?_ _); rotate_left; (first | omega | (simp <;> omega)))))); have q2z := hb.size; (try simp at q2z); have q2t : w1.heap.size ≤ w2.heap.size := (by omega); have q2s0 : w.heap.size < w2.heap.size := (by omega); have q2n0_0 : ¬ w2.heap.size = w.heap.size := (by omega); have q2n0_1 : ¬ w2.heap.size + 1 = w.heap.size := (by omega); have q2n0_2 : ¬ w2.heap.size + 2 = w.heap.size := (by omega); have q2c0_0 := hb.cell (p := ⟨w.heap.size, 0, none⟩) (by first | omega | (simp <;> omega)); simp [go_sem, *] at q2c0_0; have q2c0_1 := hb.cell (p := ⟨w.heap.size, 1, none⟩) (by first | omega | (simp <;> omega)); simp [go_sem, *] at q2c0_1; have q2c0_2 := hb.cell (p := ⟨w.heap.size, 2, none⟩) (by first | omega | (simp <;> omega)); simp [go_sem, *] at q2c0_2; have q2f0 := fun o => hb.frozen (p := ⟨w.heap.size, o, none⟩) (by first | omega | (simp <;> omega)); simp [go_sem, *] at q2f0; have q2s1 : w.heap.size + 1 < w2.heap.size := (by omega); have q2n1_0 : ¬ w2.heap.size = w.heap.size + 1 := (by omega); have q2n1_1 : ¬ w2.heap.size + 1 = w.heap.size + 1 := (by omega); have q2n1_2 : ¬ w2.heap.size + 2 = w.heap.size + 1 := (by omega); have q2c1_0 := hb.cell (p := ⟨w.heap.size + 1, 0, none⟩) (by first | omega | (simp <;> omega)); simp [go_sem, *] at q2c1_0; have q2c1_1 := hb.cell (p := ⟨w.heap.size + 1, 1, none⟩) (by first | omega | (simp <;> omega)); simp [go_sem, *] at q2c1_1; have q2c1_2 := hb.cell (p := ⟨w.heap.size + 1, 2, none⟩) (by first | omega | (simp <;> omega)); simp [go_sem, *] at q2c1_2; have q2f1 := fun o => hb.frozen (p := ⟨w.heap.size + 1, o, none⟩) (by first | omega | (simp <;> omega)); simp [go_sem, *] at q2f1; have q2o : ∀ b o, b < w1.heap.size → w2.cell? ⟨b, o, none⟩ = w1.cell? ⟨b, o, none⟩ := fun b o h => q2B.cell (p := ⟨b, o, none⟩) h; have hbS := hb; have hbS2 := hb; clear hb))
      refine hK.out _ _ ?_ (fun hHeld => ?_)
      · exact fun _ _ h => absurd h (Nat.not_lt_zero _)
      clear hK K
      (try simp only [Act.put, putA, putB, putC])
      refine wpAnyH_ready (rs := [7]) (by kernel_rfl) (by simp) ?_
      refine ord_run (i := 7) (preB 8 2) rfl (by kernel_rfl) (by rfl) (fun K hK => ?_) AllReadyH.nil
      go_simp
      refine hK.out _ _ ?_ (fun hHeld => ?_)
      · exact fun _ _ h => absurd h (Nat.not_lt_zero _)
      clear hK K
      (try simp only [Act.put, putA, putB, putC])
      refine ord_take (i := 8) (preB 9 1) ?_ rfl (by kernel_rfl) (by kernel_rfl) (by kernel_rfl) (by kernel_rfl) (fun _ _ _ h => h) hHeld (by rfl) (fun wx hSx => ?_) ?_
      rotate_left
      · (unfold SB at hSx; go_simp; (try with_reducible rfl))
      (try simp only [Act.put, putA, putB, putC])
      refine wpAnyH_ready (rs := [9]) (by kernel_rfl) (by simp) ?_
      refine ord_run (i := 9) (preB 10 0) rfl (by kernel_rfl) (by rfl) (fun K hK => ?_) AllReadyH.nil
      go_simp
      refine hK.out _ _ ?_ (fun hHeld => ?_)
      · exact fun _ _ h => absurd h (Nat.not_lt_zero _)
      clear hK K
      (try simp only [Act.put, putA, putB, putC])
      refine wpAnyH_done (by kernel_rfl) ?_ _
      go_wp2_with fail
      have HN0 := hide (HN0.out.mono (S' := New _ w2) (fun b h => ⟨h.1, Nat.lt_of_lt_of_le h.2 (by omega)⟩) (fun b h => q2B.block b h.2))
      refine bodyPost_ret (by simp [results, Tryd.results71, go_sem, *] <;> rfl) rfl ?_
      refine ⟨#[.string vx0, .slice B0 n0 bap0, .slice B1 n1 bap1], rfl, ⟨rfl, ?_, fun j hj => ?_⟩, ?_⟩
      · simp [Value.oneCell']
      · have hj4 : j < 3 := hj; clear hj; match j, hj4 with | 0, _ => exact rd_of_lf Qx0.out rfl | 1, _ => exact row_fin HQ0.out hcap0 HN0.out (by first | omega | (simp <;> omega)) (by first | omega | (simp <;> omega)) (fun b h1 h2 => by repeat (first | (with_reducible exact rfl) | (refine (Go.Deep.blk_setCell_other _ _ _ _ (by have h3 := h1; (try simp at h3); (first | omega | (simp; omega)))).trans ?_))) | 2, _ => exact row_fin HQ1.out hcap1 HN1.out (by first | omega | (simp <;> omega)) (by first | omega | (simp <;> omega)) (fun b h1 h2 => by repeat (first | (with_reducible exact rfl) | (refine (Go.Deep.blk_setCell_other _ _ _ _ (by have h3 := h1; (try simp at h3); (first | omega | (simp; omega)))).trans ?_)))
      · refine HB1.out.trans ((q2B.mono HB1.out.size).trans ?_); (repeat (first | (with_reducible first | exact Below.refl _ _ | assumption | refine Below.drew ?_) | ((with_reducible first | refine Below.alloc ?_ ?_ _ | refine Below.setCell ?_ ?_ _); rotate_left; (first | omega | (simp <;> omega)))))
    refine ord_run (i := 4) #[true, true, false, true, true, false, false, false, false, false] rfl (by kernel_rfl) (by rfl) (fun K hK => ?_) ?_
    · go_simp
      refine hK.out _ _ ?_ (fun hHeld => ?_)
      · exact fun _ _ h => absurd h (Nat.not_lt_zero _)
      clear hK K
      (try simp only [Act.put, putA, putB, putC])
      refine wpAnyH_ready (rs := [2]) (by kernel_rfl) (by simp) ?_
      refine ord_run (i := 2) (preB 5 5) rfl (by kernel_rfl) (by rfl) (fun K hK => ?_) AllReadyH.nil
      go_simp
      go_wp2_with (go_at_call 72; refine (HC0.out _ (HR0.out.below (by (repeat (first | (with_reducible first | exact Below.refl _ _ | assumption | refine Below.drew ?_) | ((with_reducible first | refine Below.alloc ?_ ?_ _ | refine Below.setCell ?_ ?_ _); rotate_left; (first | omega | (simp <;> omega)))))))).mono ?_; rintro r w1 ⟨B0, bap0, D0, rfl, hcap0, hN, hb⟩; have HN0 := hide hN; clear hN; (have q1B : Below w.heap.size w w1 := (by refine Below.trans ?_ (hb.mono (by first | omega | (simp <;> omega))); (repeat (first | (with_reducible first | exact Below.refl _ _ | assumption | refine Below.drew ?_) | ((with_reducible first | refine Below.alloc ?_ ?_ _ | refine Below.setCell ?_ ?_ _); rotate_left; (first | omega | (simp <;> omega)))))); have q1z := hb.size; (try simp at q1z); have q1t : w.heap.size ≤ w1.heap.size := (by omega); have q1s0 : w.heap.size < w1.heap.size := (by omega); have q1n0_0 : ¬ w1.heap.size = w.heap.size := (by omega); have q1n0_1 : ¬ w1.heap.size + 1 = w.heap.size := (by omega); have q1n0_2 : ¬ w1.heap.size + 2 = w.heap.size := (by omega); have q1c0_0 := hb.cell (p := ⟨w.heap.size, 0, none⟩) (by first | omega | (simp <;> omega)); simp [go_sem, *] at q1c0_0; have q1c0_1 := hb.cell (p := ⟨w.heap.size, 1, none⟩) (by first | omega | (simp <;> omega)); simp [go_sem, *] at q1c0_1; have q1c0_2 := hb.cell (p := ⟨w.heap.size, 2, none⟩) (by first | omega | (simp <;> omega)); simp [go_sem, *] at q1c0_2; have q1f0 := fun o => hb.frozen (p := ⟨w.heap.size, o, none⟩) (by first | omega | (simp <;> omega)); simp [go_sem, *] at q1f0; have q1s1 : w.heap.size + 1 < w1.heap.size := (by omega); have q1n1_0 : ¬ w1.heap.size = w.heap.size + 1 := (by omega); have q1n1_1 : ¬ w1.heap.size + 1 = w.heap.size + 1 := (by omega); have q1n1_2 : ¬ w1.heap.size + 2 = w.heap.size + 1 := (by omega); have q1c1_0 := hb.cell (p := ⟨w.heap.size + 1, 0, none⟩) (by first | omega | (simp <;> omega)); simp [go_sem, *] at q1c1_0; have q1c1_1 := hb.cell (p := ⟨w.heap.size + 1, 1, none⟩) (by first | omega | (simp <;> omega)); simp [go_sem, *] at q1c1_1; have q1c1_2 := hb.cell (p := ⟨w.heap.size + 1, 2, none⟩) (by first | omega | (simp <;> omega)); simp [go_sem, *] at q1c1_2; have q1f1 := fun o => hb.frozen (p := ⟨w.heap.size + 1, o, none⟩) (by first | omega | (simp <;> omega)); simp [go_sem, *] at q1f1; have q1o : ∀ b o, b < w.heap.size → w1.cell? ⟨b, o, none⟩ = w.cell? ⟨b, o, none⟩ := fun b o h => q1B.cell (p := ⟨b, o, none⟩) h; have hbS := hb; have hbS1 := hb; clear hb); have HB1 := hide q1B)
      refine hK.out _ _ ?_ (fun hHeld => ?_)
      · exact fun _ _ h => absurd h (Nat.not_lt_zero _)
      clear hK K
      (try simp only [Act.put, putA, putB, putC])
      refine ord_take (i := 6) #[true, true, true, true, true, false, true, false, false, false] ?_ rfl (by kernel_rfl) (by kernel_rfl) (by kernel_rfl) (by kernel_rfl) (fun _ _ _ h => h) hHeld (by rfl) (fun wx hSx => ?_) ?_
      rotate_left
      · (unfold SB at hSx; go_simp; (try with_reducible rfl))
      (try simp only [Act.put, putA, putB, putC])
      refine wpAnyH_ready (rs := [5]) (by kernel_rfl) (by simp) ?_
      refine ord_run (i := 5) (preB 7 3) rfl (by kernel_rfl) (by rfl) (fun K hK => ?_) AllReadyH.nil
      go_simp
      go_wp2_with (go_at_call 72; refine (HC1.out _ (HR1.out.below (HB1.out.trans (by (repeat (first | (with_reducible first | exact Below.refl _ _ | assumption | refine Below.drew ?_) | ((with_reducible first | refine Below.alloc ?_ ?_ _ | refine Below.setCell ?_ ?_ _); rotate_left; (first | omega | (simp <;> omega))))))))).mono ?_; rintro r w2 ⟨B1, bap1, D1, rfl, hcap1, hN, hb⟩; have HN1 := hide hN; clear hN; (have q2B : Below w1.heap.size w1 w2 := (by refine Below.trans ?_ (hb.mono (by first | omega | (simp <;> omega))); (repeat (first | (with_reducible first | exact Below.refl _ _ | assumption | refine Below.drew ?_) | ((with_reducible first | refine Below.alloc ?_ ?_ _ | refine Below.setCell ?_ ?_ _); rotate_left; (first | omega | (simp <;> omega)))))); have q2z := hb.size; (try simp at q2z); have q2t : w1.heap.size ≤ w2.heap.size := (by omega); have q2s0 : w.heap.size < w2.heap.size := (by omega); have q2n0_0 : ¬ w2.heap.size = w.heap.size := (by omega); have q2n0_1 : ¬ w2.heap.size + 1 = w.heap.size := (by omega); have q2n0_2 : ¬ w2.heap.size + 2 = w.heap.size := (by omega); have q2c0_0 := hb.cell (p := ⟨w.heap.size, 0, none⟩) (by first | omega | (simp <;> omega)); simp [go_sem, *] at q2c0_0; have q2c0_1 := hb.cell (p := ⟨w.heap.size, 1, none⟩) (by first | omega | (simp <;> omega)); simp [go_sem, *] at q2c0_1; have q2c0_2 := hb.cell (p := ⟨w.heap.size, 2, none⟩) (by first | omega | (simp <;> omega)); simp [go_sem, *] at q2c0_2; have q2f0 := fun o => hb.frozen (p := ⟨w.heap.size, o, none⟩) (by first | omega | (simp <;> omega)); simp [go_sem, *] at q2f0; have q2s1 : w.heap.size + 1 < w2.heap.size := (by omega); have q2n1_0 : ¬ w2.heap.size = w.heap.size + 1 := (by omega); have q2n1_1 : ¬ w2.heap.size + 1 = w.heap.size + 1 := (by omega); have q2n1_2 : ¬ w2.heap.size + 2 = w.heap.size + 1 := (by omega); have q2c1_0 := hb.cell (p := ⟨w.heap.size + 1, 0, none⟩) (by first | omega | (simp <;> omega)); simp [go_sem, *] at q2c1_0; have q2c1_1 := hb.cell (p := ⟨w.heap.size + 1, 1, none⟩) (by first | omega | (simp <;> omega)); simp [go_sem, *] at q2c1_1; have q2c1_2 := hb.cell (p := ⟨w.heap.size + 1, 2, none⟩) (by first | omega | (simp <;> omega)); simp [go_sem, *] at q2c1_2; have q2f1 := fun o => hb.frozen (p := ⟨w.heap.size + 1, o, none⟩) (by first | omega | (simp <;> omega)); simp [go_sem, *] at q2f1; have q2o : ∀ b o, b < w1.heap.size → w2.cell? ⟨b, o, none⟩ = w1.cell? ⟨b, o, none⟩ := fun b o h => q2B.cell (p := ⟨b, o, none⟩) h; have hbS := hb; have hbS2 := hb; clear hb))
      refine hK.out _ _ ?_ (fun hHeld => ?_)
      · exact fun _ _ h => absurd h (Nat.not_lt_zero _)
      clear hK K
      (try simp only [Act.put, putA, putB, putC])
      refine wpAnyH_ready (rs := [7]) (by kernel_rfl) (by simp) ?_
      refine ord_run (i := 7) (preB 8 2) rfl (by kernel_rfl) (by rfl) (fun K hK => ?_) AllReadyH.nil
      go_simp
      refine hK.out _ _ ?_ (fun hHeld => ?_)
      · exact fun _ _ h => absurd h (Nat.not_lt_zero _)
      clear hK K
      (try simp only [Act.put, putA, putB, putC])
      refine ord_take (i := 8) (preB 9 1) ?_ rfl (by kernel_rfl) (by kernel_rfl) (by kernel_rfl) (by kernel_rfl) (fun _ _ _ h => h) hHeld (by rfl) (fun wx hSx => ?_) ?_
      rotate_left
      · (unfold SB at hSx; go_simp; (try with_reducible rfl))
      (try simp only [Act.put, putA, putB, putC])
      refine wpAnyH_ready (rs := [9]) (by kernel_rfl) (by simp) ?_
      refine ord_run (i := 9) (preB 10 0) rfl (by kernel_rfl) (by rfl) (fun K hK => ?_) AllReadyH.nil
      go_simp
      refine hK.out _ _ ?_ (fun hHeld => ?_)
      · exact fun _ _ h => absurd h (Nat.not_lt_zero _)
      clear hK K
      (try simp only [Act.put, putA, putB, putC])
      refine wpAnyH_done (by kernel_rfl) ?_ _
      go_wp2_with fail
      have HN0 := hide (HN0.out.mono (S' := New _ w2) (fun b h => ⟨h.1, Nat.lt_of_lt_of_le h.2 (by omega)⟩) (fun b h => q2B.block b h.2))
      refine bodyPost_ret (by simp [results, Tryd.results71, go_sem, *] <;> rfl) rfl ?_
      refine ⟨#[.string vx0, .slice B0 n0 bap0, .slice B1 n1 bap1], rfl, ⟨rfl, ?_, fun j hj => ?_⟩, ?_⟩
      · simp [Value.oneCell']
      · have hj4 : j < 3 := hj; clear hj; match j, hj4 with | 0, _ => exact rd_of_lf Qx0.out rfl | 1, _ => exact row_fin HQ0.out hcap0 HN0.out (by first | omega | (simp <;> omega)) (by first | omega | (simp <;> omega)) (fun b h1 h2 => by repeat (first | (with_reducible exact rfl) | (refine (Go.Deep.blk_setCell_other _ _ _ _ (by have h3 := h1; (try simp at h3); (first | omega | (simp; omega)))).trans ?_))) | 2, _ => exact row_fin HQ1.out hcap1 HN1.out (by first | omega | (simp <;> omega)) (by first | omega | (simp <;> omega)) (fun b h1 h2 => by repeat (first | (with_reducible exact rfl) | (refine (Go.Deep.blk_setCell_other _ _ _ _ (by have h3 := h1; (try simp at h3); (first | omega | (simp; omega)))).trans ?_)))
      · refine HB1.out.trans ((q2B.mono HB1.out.size).trans ?_); (repeat (first | (with_reducible first | exact Below.refl _ _ | assumption | refine Below.drew ?_) | ((with_reducible first | refine Below.alloc ?_ ?_ _ | refine Below.setCell ?_ ?_ _); rotate_left; (first | omega | (simp <;> omega)))))
    exact AllReadyH.nil
  refine ord_run (i := 4) #[true, false, false, true, true, false, false, false, false, false] rfl (by kernel_rfl) (by rfl) (fun K hK => ?_) ?_
  · go_simp
    refine hK.out _ _ ?_ (fun hHeld => ?_)
    · exact fun _ _ h => absurd h (Nat.not_lt_zero _)
    clear hK K
    (try simp only [Act.put, putA, putB, putC])
    refine wpAnyH_ready (rs := [1]) (by kernel_rfl) (by simp) ?_
    refine ord_run (i := 1) #[true, true, false, true, true, false, false, false, false, false] rfl (by kernel_rfl) (by rfl) (fun K hK => ?_) AllReadyH.nil
    go_simp
    refine hK.out _ _ ?_ (fun hHeld => ?_)
    · exact fun _ _ h => absurd h (Nat.not_lt_zero _)
    clear hK K
    (try simp only [Act.put, putA, putB, putC])
    refine wpAnyH_ready (rs := [2]) (by kernel_rfl) (by simp) ?_
    refine ord_run (i := 2) (preB 5 5) rfl (by kernel_rfl) (by rfl) (fun K hK => ?_) AllReadyH.nil
    go_simp
    go_wp2_with (go_at_call 72; refine (HC0.out _ (HR0.out.below (by (repeat (first | (with_reducible first | exact Below.refl _ _ | assumption | refine Below.drew ?_) | ((with_reducible first | refine Below.alloc ?_ ?_ _ | refine Below.setCell ?_ ?_ _); rotate_left; (first | omega | (simp <;> omega)))))))).mono ?_; rintro r w1 ⟨B0, bap0, D0, rfl, hcap0, hN, hb⟩; have HN0 := hide hN; clear hN; (have q1B : Below w.heap.size w w1 := (by refine Below.trans ?_ (hb.mono (by first | omega | (simp <;> omega))); (repeat (first | (with_reducible first | exact Below.refl _ _ | assumption | refine Below.drew ?_) | ((with_reducible first | refine Below.alloc ?_ ?_ _ | refine Below.setCell ?_ ?_ _); rotate_left; (first | omega | (simp <;> omega)))))); have q1z := hb.size; (try simp at q1z); have q1t : w.heap.size ≤ w1.heap.size := (by omega); have q1s0 : w.heap.size < w1.heap.size := (by omega); have q1n0_0 : ¬ w1.heap.size = w.heap.size := (by omega); have q1n0_1 : ¬ w1.heap.size + 1 = w.heap.size := (by omega); have q1n0_2 : ¬ w1.heap.size + 2 = w.heap.size := (by omega); have q1c0_0 := hb.cell (p := ⟨w.heap.size, 0, none⟩) (by first | omega | (simp <;> omega)); simp [go_sem, *] at q1c0_0; have q1c0_1 := hb.cell (p := ⟨w.heap.size, 1, none⟩) (by first | omega | (simp <;> omega)); simp [go_sem, *] at q1c0_1; have q1c0_2 := hb.cell (p := ⟨w.heap.size, 2, none⟩) (by first | omega | (simp <;> omega)); simp [go_sem, *] at q1c0_2; have q1f0 := fun o => hb.frozen (p := ⟨w.heap.size, o, none⟩) (by first | omega | (simp <;> omega)); simp [go_sem, *] at q1f0; have q1s1 : w.heap.size + 1 < w1.heap.size := (by omega); have q1n1_0 : ¬ w1.heap.size = w.heap.size + 1 := (by omega); have q1n1_1 : ¬ w1.heap.size + 1 = w.heap.size + 1 := (by omega); have q1n1_2 : ¬ w1.heap.size + 2 = w.heap.size + 1 := (by omega); have q1c1_0 := hb.cell (p := ⟨w.heap.size + 1, 0, none⟩) (by first | omega | (simp <;> omega)); simp [go_sem, *] at q1c1_0; have q1c1_1 := hb.cell (p := ⟨w.heap.size + 1, 1, none⟩) (by first | omega | (simp <;> omega)); simp [go_sem, *] at q1c1_1; have q1c1_2 := hb.cell (p := ⟨w.heap.size + 1, 2, none⟩) (by first | omega | (simp <;> omega)); simp [go_sem, *] at q1c1_2; have q1f1 := fun o => hb.frozen (p := ⟨w.heap.size + 1, o, none⟩) (by first | omega | (simp <;> omega)); simp [go_sem, *] at q1f1; have q1o : ∀ b o, b < w.heap.size → w1.cell? ⟨b, o, none⟩ = w.cell? ⟨b, o, none⟩ := fun b o h => q1B.cell (p := ⟨b, o, none⟩) h; have hbS := hb; have hbS1 := hb; clear hb); have HB1 := hide q1B)
    refine hK.out _ _ ?_ (fun hHeld => ?_)
    · exact fun _ _ h => absurd h (Nat.not_lt_zero _)
    clear hK K
    (try simp only [Act.put, putA, putB, putC])
    refine ord_take (i := 6) #[true, true, true, true, true, false, true, false, false, false] ?_ rfl (by kernel_rfl) (by kernel_rfl) (by kernel_rfl) (by kernel_rfl) (fun _ _ _ h => h) hHeld (by rfl) (fun wx hSx => ?_) ?_
    rotate_left
    · (unfold SB at hSx; go_simp; (try with_reducible rfl))
    (try simp only [Act.put, putA, putB, putC])
    refine wpAnyH_ready (rs := [5]) (by kernel_rfl) (by simp) ?_
    refine ord_run (i := 5) (preB 7 3) rfl (by kernel_rfl) (by rfl) (fun K hK => ?_) AllReadyH.nil
    go_simp
    go_wp2_with (go_at_call 72; refine (HC1.out _ (HR1.out.below (HB1.out.trans (by (repeat (first | (with_reducible first | exact Below.refl _ _ | assumption | refine Below.drew ?_) | ((with_reducible first | refine Below.alloc ?_ ?_ _ | refine Below.setCell ?_ ?_ _); rotate_left; (first | omega | (simp <;> omega))))))))).mono ?_; rintro r w2 ⟨B1, bap1, D1, rfl, hcap1, hN, hb⟩; have HN1 := hide hN; clear hN; (have q2B : Below w1.heap.size w1 w2 := (by refine Below.trans ?_ (hb.mono (by first | omega | (simp <;> omega))); (repeat (first | (with_reducible first | exact Below.refl _ _ | assumption | refine Below.drew ?_) | ((with_reducible first | refine Below.alloc ?_ ?_ _ | refine Below.setCell ?_ ?_ _); rotate_left; (first | omega | (simp <;> omega)))))); have q2z := hb.size; (try simp at q2z); have q2t : w1.heap.size ≤ w2.heap.size := (by omega); have q2s0 : w.heap.size < w2.heap.size := (by omega); have q2n0_0 : ¬ w2.heap.size = w.heap.size := (by omega); have q2n0_1 : ¬ w2.heap.size + 1 = w.heap.size := (by omega); have q2n0_2 : ¬ w2.heap.size + 2 = w.heap.size := (by omega); have q2c0_0 := hb.cell (p := ⟨w.heap.size, 0, none⟩) (by first | omega | (simp <;> omega)); simp [go_sem, *] at q2c0_0; have q2c0_1 := hb.cell (p := ⟨w.heap.size, 1, none⟩) (by first | omega | (simp <;> omega)); simp [go_sem, *] at q2c0_1; have q2c0_2 := hb.cell (p := ⟨w.heap.size, 2, none⟩) (by first | omega | (simp <;> omega)); simp [go_sem, *] at q2c0_2; have q2f0 := fun o => hb.frozen (p := ⟨w.heap.size, o, none⟩) (by first | omega | (simp <;> omega)); simp [go_sem, *] at q2f0; have q2s1 : w.heap.size + 1 < w2.heap.size := (by omega); have q2n1_0 : ¬ w2.heap.size = w.heap.size + 1 := (by omega); have q2n1_1 : ¬ w2.heap.size + 1 = w.heap.size + 1 := (by omega); have q2n1_2 : ¬ w2.heap.size + 2 = w.heap.size + 1 := (by omega); have q2c1_0 := hb.cell (p := ⟨w.heap.size + 1, 0, none⟩) (by first | omega | (simp <;> omega)); simp [go_sem, *] at q2c1_0; have q2c1_1 := hb.cell (p := ⟨w.heap.size + 1, 1, none⟩) (by first | omega | (simp <;> omega)); simp [go_sem, *] at q2c1_1; have q2c1_2 := hb.cell (p := ⟨w.heap.size + 1, 2, none⟩) (by first | omega | (simp <;> omega)); simp [go_sem, *] at q2c1_2; have q2f1 := fun o => hb.frozen (p := ⟨w.heap.size + 1, o, none⟩) (by first | omega | (simp <;> omega)); simp [go_sem, *] at q2f1; have q2o : ∀ b o, b < w1.heap.size → w2.cell? ⟨b, o, none⟩ = w1.cell? ⟨b, o, none⟩ := fun b o h => q2B.cell (p := ⟨b, o, none⟩) h; have hbS := hb; have hbS2 := hb; clear hb))
    refine hK.out _ _ ?_ (fun hHeld => ?_)
    · exact fun _ _ h => absurd h (Nat.not_lt_zero _)
    clear hK K
    (try simp only [Act.put, putA, putB, putC])
    refine wpAnyH_ready (rs := [7]) (by kernel_rfl) (by simp) ?_
    refine ord_run (i := 7) (preB 8 2) rfl (by kernel_rfl) (by rfl) (fun K hK => ?_) AllReadyH.nil
    go_simp
    refine hK.out _ _ ?_ (fun hHeld => ?_)
    · exact fun _ _ h => absurd h (Nat.not_lt_zero _)
    clear hK K
    (try simp only [Act.put, putA, putB, putC])
    refine ord_take (i := 8) (preB 9 1) ?_ rfl (by kernel_rfl) (by kernel_rfl) (by kernel_rfl) (by kernel_rfl) (fun _ _ _ h => h) hHeld (by rfl) (fun wx hSx => ?_) ?_
    rotate_left
    · (unfold SB at hSx; go_simp; (try with_reducible rfl))
    (try simp only [Act.put, putA, putB, putC])
    refine wpAnyH_ready (rs := [9]) (by kernel_rfl) (by simp) ?_
    refine ord_run (i := 9) (preB 10 0) rfl (by kernel_rfl) (by rfl) (fun K hK => ?_) AllReadyH.nil
    go_simp
    refine hK.out _ _ ?_ (fun hHeld => ?_)
    · exact fun _ _ h => absurd h (Nat.not_lt_zero _)
    clear hK K
    (try simp only [Act.put, putA, putB, putC])
    refine wpAnyH_done (by kernel_rfl) ?_ _
    go_wp2_with fail
    have HN0 := hide (HN0.out.mono (S' := New _ w2) (fun b h => ⟨h.1, Nat.lt_of_lt_of_le h.2 (by omega)⟩) (fun b h => q2B.block b h.2))
    refine bodyPost_ret (by simp [results, Tryd.results71, go_sem, *] <;> rfl) rfl ?_
    refine ⟨#[.string vx0, .slice B0 n0 bap0, .slice B1 n1 bap1], rfl, ⟨rfl, ?_, fun j hj => ?_⟩, ?_⟩
    · simp [Value.oneCell']
    · have hj4 : j < 3 := hj; clear hj; match j, hj4 with | 0, _ => exact rd_of_lf Qx0.out rfl | 1, _ => exact row_fin HQ0.out hcap0 HN0.out (by first | omega | (simp <;> omega)) (by first | omega | (simp <;> omega)) (fun b h1 h2 => by repeat (first | (with_reducible exact rfl) | (refine (Go.Deep.blk_setCell_other _ _ _ _ (by have h3 := h1; (try simp at h3); (first | omega | (simp; omega)))).trans ?_))) | 2, _ => exact row_fin HQ1.out hcap1 HN1.out (by first | omega | (simp <;> omega)) (by first | omega | (simp <;> omega)) (fun b h1 h2 => by repeat (first | (with_reducible exact rfl) | (refine (Go.Deep.blk_setCell_other _ _ _ _ (by have h3 := h1; (try simp at h3); (first | omega | (simp; omega)))).trans ?_)))
    · refine HB1.out.trans ((q2B.mono HB1.out.size).trans ?_); (repeat (first | (with_reducible first | exact Below.refl _ _ | assumption | refine Below.drew ?_) | ((with_reducible first | refine Below.alloc ?_ ?_ _ | refine Below.setCell ?_ ?_ _); rotate_left; (first | omega | (simp <;> omega)))))
  exact AllReadyH.nil

set_option maxRecDepth 20000 in
set_option maxHeartbeats 4000000 in
theorem fn_Product1 (ck : Nat → Tr) (hw : KnOK 6 ck) (hE : FnOK Tryd.prog 5 (fun j => ck (2 + j)) 88) (hF : FnOK Tryd.prog 5 (fun j => ck (6 + j)) 88) : FnOK Tryd.prog 6 ck 87 := by
  intro w X hX
  obtain ⟨x0, x1, x2, x3, x4, x5, x6, x7, x8, x9, rfl⟩ := arr10 (show X.size = 10 from hX.size)
  obtain ⟨vx0, px0, qx0, _⟩ := rd_str (hX.rd 0 (by decide)) (hw 0 (by decide))
  have ex0 : x0 = .string vx0 := qx0
  subst ex0
  have Qx0 := hide px0
  clear qx0 px0
  obtain ⟨vx1, px1, qx1, _⟩ := rd_int (hX.rd 1 (by decide)) (hw 1 (by decide))
  have ex1 : x1 = .int .i64 vx1 := qx1
  subst ex1
  have Qx1 := hide px1
  clear qx1 px1
  obtain ⟨vx2, px2, qx2, _⟩ := rd_int (hX.rd 2 (by decide)) (hw 2 (by decide))
  have ex2 : x2 = .int .i64 vx2 := qx2
  subst ex2
  have Qx2 := hide px2
  clear qx2 px2
  obtain ⟨vx3, px3, qx3, _⟩ := rd_int (hX.rd 3 (by decide)) (hw 3 (by decide))
  have ex3 : x3 = .int .i64 vx3 := qx3
  subst ex3
  have Qx3 := hide px3
  clear qx3 px3
  obtain ⟨vx4, px4, qx4, _⟩ := rd_str (hX.rd 4 (by decide)) (hw 4 (by decide))
  have ex4 : x4 = .string vx4 := qx4
  subst ex4
  have Qx4 := hide px4
  clear qx4 px4
  obtain ⟨vx6, px6, qx6, _⟩ := rd_int (hX.rd 6 (by decide)) (hw 6 (by decide))
  have ex6 : x6 = .int .i64 vx6 := qx6
  subst ex6
  have Qx6 := hide px6
  clear qx6 px6
  obtain ⟨vx7, px7, qx7, _⟩ := rd_int (hX.rd 7 (by decide)) (hw 7 (by decide))
  have ex7 : x7 = .int .i64 vx7 := qx7
  subst ex7
  have Qx7 := hide px7
  clear qx7 px7
  obtain ⟨vx8, px8, qx8, _⟩ := rd_str (hX.rd 8 (by decide)) (hw 8 (by decide))
  have ex8 : x8 = .string vx8 := qx8
  subst ex8
  have Qx8 := hide px8
  clear qx8 px8
  have HX := hide hX
  have HW := hide hw
  have HR0 := hide (show ElT (Old w) w 5 (fun j => ck (2 + j)) #[.int .i64 vx2, .int .i64 vx3, .string vx4, x5] from el_sub (o := 2) HX.out (by decide))
  have HC0 := hide (hE)
  have HR1 := hide (show ElT (Old w) w 5 (fun j => ck (6 + j)) #[.int .i64 vx6, .int .i64 vx7, .string vx8, x9] from el_sub (o := 6) HX.out (by decide))
  have HC1 := hide (hF)
  clear hX hw
  go_enter Tryd.func87, Tryd.ntmps87
  go_wp2_with fail
  refine ord_start (SB (0) [] _) 10 (preB 0 10) (by kernel_rfl) (by kernel_rfl) (by kernel_rfl) SB.refl.drew (fun hHeld => ?_)
  refine ord_take (i := 0) (preB 1 9) ?_ rfl (by kernel_rfl) (by kernel_rfl) (by kernel_rfl) (by kernel_rfl) (fun _ _ _ h => h) hHeld (by rfl) (fun wx hSx => ?_) ?_
  rotate_left
  · (unfold SB at hSx; go_simp; (try with_reducible rfl))
  (try simp only [Act.put, putA, putB, putC])
  refine ord_take (i := 3) #[true, false, false, true, false, false, false, false, false, false] ?_ rfl (by kernel_rfl) (by kernel_rfl) (by kernel_rfl) (by kernel_rfl) (fun _ _ _ h => h) hHeld (by rfl) (fun wx hSx => ?_) ?_
  rotate_left
  · (unfold SB at hSx; go_simp; (try with_reducible rfl))
  (try simp only [Act.put, putA, putB, putC])
  refine wpAnyH_ready (rs := [1, 4]) (by kernel_rfl) (by simp) ?_
  refine ord_run (i := 1) #[true, true, false, true, false, false, false, false, false, false] rfl (by kernel_rfl) (by rfl) (fun K hK => ?_) ?_
  · go_simp
    refine hK.out _ _ ?_ (fun hHeld => ?_)
    · exact fun _ _ h => absurd h (Nat.not_lt_zero _)
    clear hK K
    (try simp only [Act.put, putA, putB, putC])
    refine wpAnyH_ready (rs := [2, 4]) (by kernel_rfl) (by simp) ?_
    refine ord_run (i := 2) (preB 4 6) rfl (by kernel_rfl) (by rfl) (fun K hK => ?_) ?_
    · go_simp
      go_wp2_with (go_at_call 88; refine (HC0.out _ _ (HR0.out.below (by (repeat (first | (with_reducible first | exact Below.refl _ _ | assumption | refine Below.drew ?_) | ((with_reducible first | refine Below.alloc ?_ ?_ _ | refine Below.setCell ?_ ?_ _); rotate_left; (first | omega | (simp <;> omega)))))))).mono ?_; rintro r w1 ⟨D0, rfl, hN, hb⟩; obtain ⟨y0_0, y0_1, y0_2, y0_3, rfl⟩ := arr4 (show D0.size = 4 from hN.size); obtain ⟨vy0_0, py0_0, qy0_0, _⟩ := rd_int (hN.rd 0 (by decide)) (HW.out 2 (by decide)); have ey0_0 : y0_0 = .int .i64 vy0_0 := qy0_0; subst ey0_0; have Qy0_0 := hide py0_0; clear qy0_0 py0_0; obtain ⟨vy0_1, py0_1, qy0_1, _⟩ := rd_int (hN.rd 1 (by decide)) (HW.out 3 (by decide)); have ey0_1 : y0_1 = .int .i64 vy0_1 := qy0_1; subst ey0_1; have Qy0_1 := hide py0_1; clear qy0_1 py0_1; obtain ⟨vy0_2, py0_2, qy0_2, _⟩ := rd_str (hN.rd 2 (by decide)) (HW.out 4 (by decide)); have ey0_2 : y0_2 = .string vy0_2 := qy0_2; subst ey0_2; have Qy0_2 := hide py0_2; clear qy0_2 py0_2; obtain ⟨aN0, _, _, _, aA0, aC0, _, ey0_3, _⟩ := rd_row (e := 5) (hN.rd 3 (by decide)) (HW.out 5 (by decide)); have fy0_3 : y0_3 = .slice aA0 aN0 aC0 := ey0_3; subst fy0_3; clear ey0_3; have HN0 := hide hN; clear hN; (have q1B : Below w.heap.size w w1 := (by refine Below.trans ?_ (hb.mono (by first | omega | (simp <;> omega))); (repeat (first | (with_reducible first | exact Below.refl _ _ | assumption | refine Below.drew ?_) | ((with_reducible first | refine Below.alloc ?_ ?_ _ | refine Below.setCell ?_ ?_ _); rotate_left; (first | omega | (simp <;> omega)))))); have q1z := hb.size; (try simp at q1z); have q1t : w.heap.size ≤ w1.heap.size := (by omega); have q1s0 : w.heap.size < w1.heap.size := (by omega); have q1n0_0 : ¬ w1.heap.size = w.heap.size := (by omega); have q1n0_1 : ¬ w1.heap.size + 1 = w.heap.size := (by omega); have q1n0_2 : ¬ w1.heap.size + 2 = w.heap.size := (by omega); have q1c0_0 := hb.cell (p := ⟨w.heap.size, 0, none⟩) (by first | omega | (simp <;> omega)); simp [go_sem, *] at q1c0_0; have q1c0_1 := hb.cell (p := ⟨w.heap.size, 1, none⟩) (by first | omega | (simp <;> omega)); simp [go_sem, *] at q1c0_1; have q1c0_2 := hb.cell (p := ⟨w.heap.size, 2, none⟩) (by first | omega | (simp <;> omega)); simp [go_sem, *] at q1c0_2; have q1c0_3 := hb.cell (p := ⟨w.heap.size, 3, none⟩) (by first | omega | (simp <;> omega)); simp [go_sem, *] at q1c0_3; have q1c0_4 := hb.cell (p := ⟨w.heap.size, 4, none⟩) (by first | omega | (simp <;> omega)); simp [go_sem, *] at q1c0_4; have q1c0_5 := hb.cell (p := ⟨w.heap.size, 5, none⟩) (by first | omega | (simp <;> omega)); simp [go_sem, *] at q1c0_5; have q1c0_6 := hb.cell (p := ⟨w.heap.size, 6, none⟩) (by first | omega | (simp <;> omega)); simp [go_sem, *] at q1c0_6; have q1c0_7 := hb.cell (p := ⟨w.heap.size, 7, none⟩) (by first | omega | (simp <;> omega)); simp [go_sem, *] at q1c0_7; have q1c0_8 := hb.cell (p := ⟨w.heap.size, 8, none⟩) (by first | omega | (simp <;> omega)); simp [go_sem, *] at q1c0_8; have q1c0_9 := hb.cell (p := ⟨w.heap.size, 9, none⟩) (by first | omega | (simp <;> omega)); simp [go_sem, *] at q1c0_9; have q1f0 := fun o => hb.frozen (p := ⟨w.heap.size, o, none⟩) (by first | omega | (simp <;> omega)); simp [go_sem, *] at q1f0; have q1s1 : w.heap.size + 1 < w1.heap.size := (by omega); have q1n1_0 : ¬ w1.heap.size = w.heap.size + 1 := (by omega); have q1n1_1 : ¬ w1.heap.size + 1 = w.heap.size + 1 := (by omega); have q1n1_2 : ¬ w1.heap.size + 2 = w.heap.size + 1 := (by omega); have q1c1_0 := hb.cell (p := ⟨w.heap.size + 1, 0, none⟩) (by first | omega | (simp <;> omega)); simp [go_sem, *] at q1c1_0; have q1c1_1 := hb.cell (p := ⟨w.heap.size + 1, 1, none⟩) (by first | omega | (simp <;> omega)); simp [go_sem, *] at q1c1_1; have q1c1_2 := hb.cell (p := ⟨w.heap.size + 1, 2, none⟩) (by first | omega | (simp <;> omega)); simp [go_sem, *] at q1c1_2; have q1c1_3 := hb.cell (p := ⟨w.heap.size + 1, 3, none⟩) (by first | omega | (simp <;> omega)); simp [go_sem, *] at q1c1_3; have q1c1_4 := hb.cell (p := ⟨w.heap.size + 1, 4, none⟩) (by first | omega | (simp <;> omega)); simp [go_sem, *] at q1c1_4; have q1c1_5 := hb.cell (p := ⟨w.heap.size + 1, 5, none⟩) (by first | omega | (simp <;> omega)); simp [go_sem, *] at q1c1_5; have q1c1_6 := hb.cell (p := ⟨w.heap.size + 1, 6, none⟩) (by first | omega | (simp <;> omega)); simp [go_sem, *] at q1c1_6; have q1c1_7 := hb.cell (p := ⟨w.heap.size + 1, 7, none⟩) (by first | omega | (simp <;> omega)); simp [go_sem, *] at q1c1_7; have q1c1_8 := hb.cell (p := ⟨w.heap.size + 1, 8, none⟩) (by first | omega | (simp <;> omega)); simp [go_sem, *] at q1c1_8; have q1c1_9 := hb.cell (p := ⟨w.heap.size + 1, 9, none⟩) (by first | omega | (simp <;> omega)); simp [go_sem, *] at q1c1_9; have q1f1 := fun o => hb.frozen (p := ⟨w.heap.size + 1, o, none⟩) (by first | omega | (simp <;> omega)); simp [go_sem, *] at q1f1; have q1o : ∀ b o, b < w.heap.size → w1.cell? ⟨b, o, none⟩ = w.cell? ⟨b, o, none⟩ := fun b o h => q1B.cell (p := ⟨b, o, none⟩) h; have hbS := hb; have hbS1 := hb; clear hb); have HB1 := hide q1B)
      refine hK.out _ _ ?_ (fun hHeld => ?_)
      · exact fun _ _ h => absurd h (Nat.not_lt_zero _)
      clear hK K
      (try simp only [Act.put, putA, putB, putC])
      refine wpAnyH_ready (rs := [4]) (by kernel_rfl) (by simp) ?_
      refine ord_run (i := 4) (preB 5 5) rfl (by kernel_rfl) (by rfl) (fun K hK => ?_) AllReadyH.nil
      go_simp
      refine hK.out _ _ ?_ (fun hHeld => ?_)
      · exact fun _ _ h => absurd h (Nat.not_lt_zero _)
      clear hK K
      (try simp only [Act.put, putA, putB, putC])
      refine ord_take (i := 6) #[true, true, true, true, true, false, true, false, false, false] ?_ rfl (by kernel_rfl) (by kernel_rfl) (by kernel_rfl) (by kernel_rfl) (fun _ _ _ h => h) hHeld (by rfl) (fun wx hSx => ?_) ?_
      rotate_left
      · (unfold SB at hSx; go_simp; (try with_reducible rfl))
      (try simp only [Act.put, putA, putB, putC])
      refine wpAnyH_ready (rs := [5]) (by kernel_rfl) (by simp) ?_
      refine ord_run (i := 5) (preB 7 3) rfl (by kernel_rfl) (by rfl) (fun K hK => ?_) AllReadyH.nil
      go_simp
      go_wp2_with (go_at_call 88; refine (HC1.out _ _ (HR1.out.below (HB1.out.trans (by (repeat (first | (with_reducible first | exact Below.refl _ _ | assumption | refine Below.drew ?_) | ((with_reducible first | refine Below.alloc ?_ ?_ _ | refine Below.setCell ?_ ?_ _); rotate_left; (first | omega | (simp <;> omega))))))))).mono ?_; rintro r w2 ⟨D1, rfl, hN, hb⟩; obtain ⟨y1_0, y1_1, y1_2, y1_3, rfl⟩ := arr4 (show D1.size = 4 from hN.size); obtain ⟨vy1_0, py1_0, qy1_0, _⟩ := rd_int (hN.rd 0 (by decide)) (HW.out 6 (by decide)); have ey1_0 : y1_0 = .int .i64 vy1_0 := qy1_0; subst ey1_0; have Qy1_0 := hide py1_0; clear qy1_0 py1_0; obtain ⟨vy1_1, py1_1, qy1_1, _⟩ := rd_int (hN.rd 1 (by decide)) (HW.out 7 (by decide)); have ey1_1 : y1_1 = .int .i64 vy1_1 := qy1_1; subst ey1_1; have Qy1_1 := hide py1_1; clear qy1_1 py1_1; obtain ⟨vy1_2, py1_2, qy1_2, _⟩ := rd_str (hN.rd 2 (by decide)) (HW.out 8 (by decide)); have ey1_2 : y1_2 = .string vy1_2 := qy1_2; subst ey1_2; have Qy1_2 := hide py1_2; clear qy1_2 py1_2; obtain ⟨aN1, _, _, _, aA1, aC1, _, ey1_3, _⟩ := rd_row (e := 5) (hN.rd 3 (by decide)) (HW.out 9 (by decide)); have fy1_3 : y1_3 = .slice aA1 aN1 aC1 := ey1_3; subst fy1_3; clear ey1_3; have HN1 := hide hN; clear hN; (have q2B : Below w1.heap.size w1 w2 := (by refine Below.trans ?_ (hb.mono (by first | omega | (simp <;> omega))); (repeat (first | (with_reducible first | exact Below.refl _ _ | assumption | refine Below.drew ?_) | ((with_reducible first | refine Below.alloc ?_ ?_ _ | refine Below.setCell ?_ ?_ _); rotate_left; (first | omega | (simp <;> omega)))))); have q2z := hb.size; (try simp at q2z); have q2t : w1.heap.size ≤ w2.heap.size := (by omega); have q2s0 : w.heap.size < w2.heap.size := (by omega); have q2n0_0 : ¬ w2.heap.size = w.heap.size := (by omega); have q2n0_1 : ¬ w2.heap.size + 1 = w.heap.size := (by omega); have q2n0_2 : ¬ w2.heap.size + 2 = w.heap.size := (by omega); have q2c0_0 := hb.cell (p := ⟨w.heap.size, 0, none⟩) (by first | omega | (simp <;> omega)); simp [go_sem, *] at q2c0_0; have q2c0_1 := hb.cell (p := ⟨w.heap.size, 1, none⟩) (by first | omega | (simp <;> omega)); simp [go_sem, *] at q2c0_1; have q2c0_2 := hb.cell (p := ⟨w.heap.size, 2, none⟩) (by first | omega | (simp <;> omega)); simp [go_sem, *] at q2c0_2; have q2c0_3 := hb.cell (p := ⟨w.heap.size, 3, none⟩) (by first | omega | (simp <;> omega)); simp [go_sem, *] at q2c0_3; have q2c0_4 := hb.cell (p := ⟨w.heap.size, 4, none⟩) (by first | omega | (simp <;> omega)); simp [go_sem, *] at q2c0_4; have q2c0_5 := hb.cell (p := ⟨w.heap.size, 5, none⟩) (by first | omega | (simp <;> omega)); simp [go_sem, *] at q2c0_5; have q2c0_6 := hb.cell (p := ⟨w.heap.size, 6, none⟩) (by first | omega | (simp <;> omega)); simp [go_sem, *] at q2c0_6; have q2c0_7 := hb.cell (p := ⟨w.heap.size, 7, none⟩) (by first | omega | (simp <;> omega)); simp [go_sem, *] at q2c0_7; have q2c0_8 := hb.cell (p := ⟨w.heap.size, 8, none⟩) (by first | omega | (simp <;> omega)); simp [go_sem, *] at q2c0_8; have q2c0_9 := hb.cell (p := ⟨w.heap.size, 9, none⟩) (by first | omega | (simp <;> omega)); simp [go_sem, *] at q2c0_9; have q2f0 := fun o => hb.frozen (p := ⟨w.heap.size, o, none⟩) (by first | omega | (simp <;> omega)); simp [go_sem, *] at q2f0; have q2s1 : w.heap.size + 1 < w2.heap.size := (by omega); have q2n1_0 : ¬ w2.heap.size = w.heap.size + 1 := (by omega); have q2n1_1 : ¬ w2.heap.size + 1 = w.heap.size + 1 := (by omega); have q2n1_2 : ¬ w2.heap.size + 2 = w.heap.size + 1 := (by omega); have q2c1_0 := hb.cell (p := ⟨w.heap.size + 1, 0, none⟩) (by first | omega | (simp <;> omega)); simp [go_sem, *] at q2c1_0; have q2c1_1 := hb.cell (p := ⟨w.heap.size + 1, 1, none⟩) (by first | omega | (simp <;> omega)); simp [go_sem, *] at q2c1_1; have q2c1_2 := hb.cell (p := ⟨w.heap.size + 1, 2, none⟩) (by first | omega | (simp <;> omega)); simp [go_sem, *] at q2c1_2; have q2c1_3 := hb.cell (p := ⟨w.heap.size + 1, 3, none⟩) (by first | omega | (simp <;> omega)); simp [go_sem, *] at q2c1_3; have q2c1_4 := hb.cell (p := ⟨w.heap.size + 1, 4, none⟩) (by first | omega | (simp <;> omega)); simp [go_sem, *] at q2c1_4; have q2c1_5 := hb.cell (p := ⟨w.heap.size + 1, 5, none⟩) (by first | omega | (simp <;> omega)); simp [go_sem, *] at q2c1_5; have q2c1_6 := hb.cell (p := ⟨w.heap.size + 1, 6, none⟩) (by first | omega | (simp <;> omega)); simp [go_sem, *] at q2c1_6; have q2c1_7 := hb.cell (p := ⟨w.heap.size + 1, 7, none⟩) (by first | omega | (simp <;> omega)); simp [go_sem, *] at q2c1_7; have q2c1_8 := hb.cell (p := ⟨w.heap.size + 1, 8, none⟩) (by first | omega | (simp <;> omega)); simp [go_sem, *] at q2c1_8; have q2c1_9 := hb.cell (p := ⟨w.heap.size + 1, 9, none⟩) (by first | omega | (simp <;> omega)); simp [go_sem, *] at q2c1_9; have q2f1 := fun o => hb.frozen (p := ⟨w.heap.size + 1, o, none⟩) (by first | omega | (simp <;> omega)); simp [go_sem, *] at q2f1; have q2o : ∀ b o, b < w1.heap.size → w2.cell? ⟨b, o, none⟩ = w1.cell? ⟨b, o, none⟩ := fun b o h => q2B.cell (p := ⟨b, o, none⟩) h; have hbS := hb; have hbS2 := hb; clear hb))
      refine hK.out _ _ ?_ (fun hHeld => ?_)
      · exact fun _ _ h => absurd h (Nat.not_lt_zero _)
      clear hK K
      (try simp only [Act.put, putA, putB, putC])
      refine wpAnyH_ready (rs := [7]) (by kernel_rfl) (by simp) ?_
      refine ord_run (i := 7) (preB 8 2) rfl (by kernel_rfl) (by rfl) (fun K hK => ?_) AllReadyH.nil
      go_simp
      refine hK.out _ _ ?_ (fun hHeld => ?_)
      · exact fun _ _ h => absurd h (Nat.not_lt_zero _)
      clear hK K
      (try simp only [Act.put, putA, putB, putC])
      refine ord_take (i := 8) (preB 9 1) ?_ rfl (by kernel_rfl) (by kernel_rfl) (by kernel_rfl) (by kernel_rfl) (fun _ _ _ h => h) hHeld (by rfl) (fun wx hSx => ?_) ?_
      rotate_left
      · (unfold SB at hSx; go_simp; (try with_reducible rfl))
      (try simp only [Act.put, putA, putB, putC])
      refine wpAnyH_ready (rs := [9]) (by kernel_rfl) (by simp) ?_
      refine ord_run (i := 9) (preB 10 0) rfl (by kernel_rfl) (by rfl) (fun K hK => ?_) AllReadyH.nil
      go_simp
      refine hK.out _ _ ?_ (fun hHeld => ?_)
      · exact fun _ _ h => absurd h (Nat.not_lt_zero _)
      clear hK K
      (try simp only [Act.put, putA, putB, putC])
      refine wpAnyH_done (by kernel_rfl) ?_ _
      go_wp2_with fail
      have HN0 := hide (HN0.out.mono (S' := New _ w2) (fun b h => ⟨h.1, Nat.lt_of_lt_of_le h.2 (by omega)⟩) (fun b h => q2B.block b h.2))
      refine bodyPost_ret (by simp [results, Tryd.results87, go_sem, *] <;> rfl) rfl ?_
      refine ⟨#[.string vx0, .int .i64 vx1, .int .i64 vy0_0, .int .i64 vy0_1, .string vy0_2, .slice aA0 aN0 aC0, .int .i64 vy1_0, .int .i64 vy1_1, .string vy1_2, .slice aA1 aN1 aC1], rfl, ⟨rfl, ?_, fun j hj => ?_⟩, ?_⟩
      · simp [Value.oneCell']
      · have hj4 : j < 10 := hj; clear hj; match j, hj4 with | 0, _ => exact rd_of_lf Qx0.out rfl | 1, _ => exact rd_of_lf Qx1.out rfl | 2, _ => exact rd_of_lf Qy0_0.out rfl | 3, _ => exact rd_of_lf Qy0_1.out rfl | 4, _ => exact rd_of_lf Qy0_2.out rfl | 5, _ => exact el_fin (HN0.out.rd 3 (by decide)) (by first | omega | (simp <;> omega)) (by first | omega | (simp <;> omega)) (fun b h1 h2 => by repeat (first | (with_reducible exact rfl) | (refine (Go.Deep.blk_setCell_other _ _ _ _ (by have h3 := h1; (try simp at h3); (first | omega | (simp; omega)))).trans ?_))) | 6, _ => exact rd_of_lf Qy1_0.out rfl | 7, _ => exact rd_of_lf Qy1_1.out rfl | 8, _ => exact rd_of_lf Qy1_2.out rfl | 9, _ => exact el_fin (HN1.out.rd 3 (by decide)) (by first | omega | (simp <;> omega)) (by first | omega | (simp <;> omega)) (fun b h1 h2 => by repeat (first | (with_reducible exact rfl) | (refine (Go.Deep.blk_setCell_other _ _ _ _ (by have h3 := h1; (try simp at h3); (first | omega | (simp; omega)))).trans ?_)))
      · refine HB1.out.trans ((q2B.mono HB1.out.size).trans ?_); (repeat (first | (with_reducible first | exact Below.refl _ _ | assumption | refine Below.drew ?_) | ((with_reducible first | refine Below.alloc ?_ ?_ _ | refine Below.setCell ?_ ?_ _); rotate_left; (first | omega | (simp <;> omega)))))
    refine ord_run (i := 4) #[true, true, false, true, true, false, false, false, false, false] rfl (by kernel_rfl) (by rfl) (fun K hK => ?_) ?_
    · go_simp
      refine hK.out _ _ ?_ (fun hHeld => ?_)
      · exact fun _ _ h => absurd h (Nat.not_lt_zero _)
      clear hK K
      (try simp only [Act.put, putA, putB, putC])
      refine wpAnyH_ready (rs := [2]) (by kernel_rfl) (by simp) ?_
      refine ord_run (i := 2) (preB 5 5) rfl (by kernel_rfl) (by rfl) (fun K hK => ?_) AllReadyH.nil
      go_simp
      go_wp2_with (go_at_call 88; refine (HC0.out _ _ (HR0.out.below (by (repeat (first | (with_reducible first | exact Below.refl _ _ | assumption | refine Below.drew ?_) | ((with_reducible first | refine Below.alloc ?_ ?_ _ | refine Below.setCell ?_ ?_ _); rotate_left; (first | omega | (simp <;> omega)))))))).mono ?_; rintro r w1 ⟨D0, rfl, hN, hb⟩; obtain ⟨y0_0, y0_1, y0_2, y0_3, rfl⟩ := arr4 (show D0.size = 4 from hN.size); obtain ⟨vy0_0, py0_0, qy0_0, _⟩ := rd_int (hN.rd 0 (by decide)) (HW.out 2 (by decide)); have ey0_0 : y0_0 = .int .i64 vy0_0 := qy0_0; subst ey0_0; have Qy0_0 := hide py0_0; clear qy0_0 py0_0; obtain ⟨vy0_1, py0_1, qy0_1, _⟩ := rd_int (hN.rd 1 (by decide)) (HW.out 3 (by decide)); have ey0_1 : y0_1 = .int .i64 vy0_1 := qy0_1; subst ey0_1; have Qy0_1 := hide py0_1; clear qy0_1 py0_1; obtain ⟨vy0_2, py0_2, qy0_2, _⟩ := rd_str (hN.rd 2 (by decide)) (HW.out 4 (by decide)); have ey0_2 : y0_2 = .string vy0_2 := qy0_2; subst ey0_2; have Qy0_2 := hide py0_2; clear qy0_2 py0_2; obtain ⟨aN0, _, _, _, aA0, aC0, _, ey0_3, _⟩ := rd_row (e := 5) (hN.rd 3 (by decide)) (HW.out 5 (by decide)); have fy0_3 : y0_3 = .slice aA0 aN0 aC0 := ey0_3; subst fy0_3; clear ey0_3; have HN0 := hide hN; clear hN; (have q1B : Below w.heap.size w w1 := (by refine Below.trans ?_ (hb.mono (by first | omega | (simp <;> omega))); (repeat (first | (with_reducible first | exact Below.refl _ _ | assumption | refine Below.drew ?_) | ((with_reducible first | refine Below.alloc ?_ ?_ _ | refine Below.setCell ?_ ?_ _); rotate_left; (first | omega | (simp <;> omega)))))); have q1z := hb.size; (try simp at q1z); have q1t : w.heap.size ≤ w1.heap.size := (by omega); have q1s0 : w.heap.size < w1.heap.size := (by omega); have q1n0_0 : ¬ w1.heap.size = w.heap.size := (by omega); have q1n0_1 : ¬ w1.heap.size + 1 = w.heap.size := (by omega); have q1n0_2 : ¬ w1.heap.size + 2 = w.heap.size := (by omega); have q1c0_0 := hb.cell (p := ⟨w.heap.size, 0, none⟩) (by first | omega | (simp <;> omega)); simp [go_sem, *] at q1c0_0; have q1c0_1 := hb.cell (p := ⟨w.heap.size, 1, none⟩) (by first | omega | (simp <;> omega)); simp [go_sem, *] at q1c0_1; have q1c0_2 := hb.cell (p := ⟨w.heap.size, 2, none⟩) (by first | omega | (simp <;> omega)); simp [go_sem, *] at q1c0_2; have q1c0_3 := hb.cell (p := ⟨w.heap.size, 3, none⟩) (by first | omega | (simp <;> omega)); simp [go_sem, *] at q1c0_3; have q1c0_4 := hb.cell (p := ⟨w.heap.size, 4, none⟩) (by first | omega | (simp <;> omega)); simp [go_sem, *] at q1c0_4; have q1c0_5 := hb.cell (p := ⟨w.heap.size, 5, none⟩) (by first | omega | (simp <;> omega)); simp [go_sem, *] at q1c0_5; have q1c0_6 := hb.cell (p := ⟨w.heap.size, 6, none⟩) (by first | omega | (simp <;> omega)); simp [go_sem, *] at q1c0_6; have q1c0_7 := hb.cell (p := ⟨w.heap.size, 7, none⟩) (by first | omega | (simp <;> omega)); simp [go_sem, *] at q1c0_7; have q1c0_8 := hb.cell (p := ⟨w.heap.size, 8, none⟩) (by first | omega | (simp <;> omega)); simp [go_sem, *] at q1c0_8; have q1c0_9 := hb.cell (p := ⟨w.heap.size, 9, none⟩) (by first | omega | (simp <;> omega)); simp [go_sem, *] at q1c0_9; have q1f0 := fun o => hb.frozen (p := ⟨w.heap.size, o, none⟩) (by first | omega | (simp <;> omega)); simp [go_sem, *] at q1f0; have q1s1 : w.heap.size + 1 < w1.heap.size := (by omega); have q1n1_0 : ¬ w1.heap.size = w.heap.size + 1 := (by omega); have q1n1_1 : ¬ w1.heap.size + 1 = w.heap.size + 1 := (by omega); have q1n1_2 : ¬ w1.heap.size + 2 = w.heap.size + 1 := (by omega); have q1c1_0 := hb.cell (p := ⟨w.heap.size + 1, 0, none⟩) (by first | omega | (simp <;> omega)); simp [go_sem, *] at q1c1_0; have q1c1_1 := hb.cell (p := ⟨w.heap.size + 1, 1, none⟩) (by first | omega | (simp <;> omega)); simp [go_sem, *] at q1c1_1; have q1c1_2 := hb.cell (p := ⟨w.heap.size + 1, 2, none⟩) (by first | omega | (simp <;> omega)); simp [go_sem, *] at q1c1_2; have q1c1_3 := hb.cell (p := ⟨w.heap.size + 1, 3, none⟩) (by first | omega | (simp <;> omega)); simp [go_sem, *] at q1c1_3; have q1c1_4 := hb.cell (p := ⟨w.heap.size + 1, 4, none⟩) (by first | omega | (simp <;> omega)); simp [go_sem, *] at q1c1_4; have q1c1_5 := hb.cell (p := ⟨w.heap.size + 1, 5, none⟩) (by first | omega | (simp <;> omega)); simp [go_sem, *] at q1c1_5; have q1c1_6 := hb.cell (p := ⟨w.heap.size + 1, 6, none⟩) (by first | omega | (simp <;> omega)); simp [go_sem, *] at q1c1_6; have q1c1_7 := hb.cell (p := ⟨w.heap.size + 1, 7, none⟩) (by first | omega | (simp <;> omega)); simp [go_sem, *] at q1c1_7; have q1c1_8 := hb.cell (p := ⟨w.heap.size + 1, 8, none⟩) (by first | omega | (simp <;> omega)); simp [go_sem, *] at q1c1_8; have q1c1_9 := hb.cell (p := ⟨w.heap.size + 1, 9, none⟩) (by first | omega | (simp <;> omega)); simp [go_sem, *] at q1c1_9; have q1f1 := fun o => hb.frozen (p := ⟨w.heap.size + 1, o, none⟩) (by first | omega | (simp <;> omega)); simp [go_sem, *] at q1f1; have q1o : ∀ b o, b < w.heap.size → w1.cell? ⟨b, o, none⟩ = w.cell? ⟨b, o, none⟩ := fun b o h => q1B.cell (p := ⟨b, o, none⟩) h; have hbS := hb; have hbS1 := hb; clear hb); have HB1 := hide q1B)
      refine hK.out _ _ ?_ (fun hHeld => ?_)
      · exact fun _ _ h => absurd h (Nat.not_lt_zero _)
      clear hK K
      (try simp only [Act.put, putA, putB, putC])
      refine ord_take (i := 6) #[true, true, true, true, true, false, true, false, false, false] ?_ rfl (by kernel_rfl) (by kernel_rfl) (by kernel_rfl) (by kernel_rfl) (fun _ _ _ h => h) hHeld (by rfl) (fun wx hSx => ?_) ?_
      rotate_left
      · (unfold SB at hSx; go_simp; (try with_reducible rfl))
      (try simp only [Act.put, putA, putB, putC])
      refine wpAnyH_ready (rs := [5]) (by kernel_rfl) (by simp) ?_
      refine ord_run (i := 5) (preB 7 3) rfl (by kernel_rfl) (by rfl) (fun K hK => ?_) AllReadyH.nil
      go_simp
      go_wp2_with (go_at_call 88; refine (HC1.out _ _ (HR1.out.below (HB1.out.trans (by (repeat (first | (with_reducible first | exact Below.refl _ _ | assumption | refine Below.drew ?_) | ((with_reducible first | refine Below.alloc ?_ ?_ _ | refine Below.setCell ?_ ?_ _); rotate_left; (first | omega | (simp <;> omega))))))))).mono ?_; rintro r w2 ⟨D1, rfl, hN, hb⟩; obtain ⟨y1_0, y1_1, y1_2, y1_3, rfl⟩ := arr4 (show D1.size = 4 from hN.size); obtain ⟨vy1_0, py1_0, qy1_0, _⟩ := rd_int (hN.rd 0 (by decide)) (HW.out 6 (by decide)); have ey1_0 : y1_0 = .int .i64 vy1_0 := qy1_0; subst ey1_0; have Qy1_0 := hide py1_0; clear qy1_0 py1_0; obtain ⟨vy1_1, py1_1, qy1_1, _⟩ := rd_int (hN.rd 1 (by decide)) (HW.out 7 (by decide)); have ey1_1 : y1_1 = .int .i64 vy1_1 := qy1_1; subst ey1_1; have Qy1_1 := hide py1_1; clear qy1_1 py1_1; obtain ⟨vy1_2, py1_2, qy1_2, _⟩ := rd_str (hN.rd 2 (by decide)) (HW.out 8 (by decide)); have ey1_2 : y1_2 = .string vy1_2 := qy1_2; subst ey1_2; have Qy1_2 := hide py1_2; clear qy1_2 py1_2; obtain ⟨aN1, _, _, _, aA1, aC1, _, ey1_3, _⟩ := rd_row (e := 5) (hN.rd 3 (by decide)) (HW.out 9 (by decide)); have fy1_3 : y1_3 = .slice aA1 aN1 aC1 := ey1_3; subst fy1_3; clear ey1_3; have HN1 := hide hN; clear hN; (have q2B : Below w1.heap.size w1 w2 := (by refine Below.trans ?_ (hb.mono (by first | omega | (simp <;> omega))); (repeat (first | (with_reducible first | exact Below.refl _ _ | assumption | refine Below.drew ?_) | ((with_reducible first | refine Below.alloc ?_ ?_ _ | refine Below.setCell ?_ ?_ _); rotate_left; (first | omega | (simp <;> omega)))))); have q2z := hb.size; (try simp at q2z); have q2t : w1.heap.size ≤ w2.heap.size := (by omega); have q2s0 : w.heap.size < w2.heap.size := (by omega); have q2n0_0 : ¬ w2.heap.size = w.heap.size := (by omega); have q2n0_1 : ¬ w2.heap.size + 1 = w.heap.size := (by omega); have q2n0_2 : ¬ w2.heap.size + 2 = w.heap.size := (by omega); have q2c0_0 := hb.cell (p := ⟨w.heap.size, 0, none⟩) (by first | omega | (simp <;> omega)); simp [go_sem, *] at q2c0_0; have q2c0_1 := hb.cell (p := ⟨w.heap.size, 1, none⟩) (by first | omega | (simp <;> omega)); simp [go_sem, *] at q2c0_1; have q2c0_2 := hb.cell (p := ⟨w.heap.size, 2, none⟩) (by first | omega | (simp <;> omega)); simp [go_sem, *] at q2c0_2; have q2c0_3 := hb.cell (p := ⟨w.heap.size, 3, none⟩) (by first | omega | (simp <;> omega)); simp [go_sem, *] at q2c0_3; have q2c0_4 := hb.cell (p := ⟨w.heap.size, 4, none⟩) (by first | omega | (simp <;> omega)); simp [go_sem, *] at q2c0_4; have q2c0_5 := hb.cell (p := ⟨w.heap.size, 5, none⟩) (by first | omega | (simp <;> omega)); simp [go_sem, *] at q2c0_5; have q2c0_6 := hb.cell (p := ⟨w.heap.size, 6, none⟩) (by first | omega | (simp <;> omega)); simp [go_sem, *] at q2c0_6; have q2c0_7 := hb.cell (p := ⟨w.heap.size, 7, none⟩) (by first | omega | (simp <;> omega)); simp [go_sem, *] at q2c0_7; have q2c0_8 := hb.cell (p := ⟨w.heap.size, 8, none⟩) (by first | omega | (simp <;> omega)); simp [go_sem, *] at q2c0_8; have q2c0_9 := hb.cell (p := ⟨w.heap.size, 9, none⟩) (by first | omega | (simp <;> omega)); simp [go_sem, *] at q2c0_9; have q2f0 := fun o => hb.frozen (p := ⟨w.heap.size, o, none⟩) (by first | omega | (simp <;> omega)); simp [go_sem, *] at q2f0; have q2s1 : w.heap.size + 1 < w2.heap.size := (by omega); have q2n1_0 : ¬ w2.heap.size = w.heap.size + 1 := (by omega); have q2n1_1 : ¬ w2.heap.size + 1 = w.heap.size + 1 := (by omega); have q2n1_2 : ¬ w2.heap.size + 2 = w.heap.size + 1 := (by omega); have q2c1_0 := hb.cell (p := ⟨w.heap.size + 1, 0, none⟩) (by first | omega | (simp <;> omega)); simp [go_sem, *] at q2c1_0; have q2c1_1 := hb.cell (p := ⟨w.heap.size + 1, 1, none⟩) (by first | omega | (simp <;> omega)); simp [go_sem, *] at q2c1_1; have q2c1_2 := hb.cell (p := ⟨w.heap.size + 1, 2, none⟩) (by first | omega | (simp <;> omega)); simp [go_sem, *] at q2c1_2; have q2c1_3 := hb.cell (p := ⟨w.heap.size + 1, 3, none⟩) (by first | omega | (simp <;> omega)); simp [go_sem, *] at q2c1_3; have q2c1_4 := hb.cell (p := ⟨w.heap.size + 1, 4, none⟩) (by first | omega | (simp <;> omega)); simp [go_sem, *] at q2c1_4; have q2c1_5 := hb.cell (p := ⟨w.heap.size + 1, 5, none⟩) (by first | omega | (simp <;> omega)); simp [go_sem, *] at q2c1_5; have q2c1_6 := hb.cell (p := ⟨w.heap.size + 1, 6, none⟩) (by first | omega | (simp <;> omega)); simp [go_sem, *] at q2c1_6; have q2c1_7 := hb.cell (p := ⟨w.heap.size + 1, 7, none⟩) (by first | omega | (simp <;> omega)); simp [go_sem, *] at q2c1_7; have q2c1_8 := hb.cell (p := ⟨w.heap.size + 1, 8, none⟩) (by first | omega | (simp <;> omega)); simp [go_sem, *] at q2c1_8; have q2c1_9 := hb.cell (p := ⟨w.heap.size + 1, 9, none⟩) (by first | omega | (simp <;> omega)); simp [go_sem, *] at q2c1_9; have q2f1 := fun o => hb.frozen (p := ⟨w.heap.size + 1, o, none⟩) (by first | omega | (simp <;> omega)); simp [go_sem, *] at q2f1; have q2o : ∀ b o, b < w1.heap.size → w2.cell? ⟨b, o, none⟩ = w1.cell? ⟨b, o, none⟩ := fun b o h => q2B.cell (p := ⟨b, o, none⟩) h; have hbS := hb; have hbS2 := hb; clear hb))
      refine hK.out _ _ ?_ (fun hHeld => ?_)
      · exact fun _ _ h => absurd h (Nat.not_lt_zero _)
      clear hK K
      (try simp only [Act.put, putA, putB, putC])
      refine wpAnyH_ready (rs := [7]) (by kernel_rfl) (by simp) ?_
      refine ord_run (i := 7) (preB 8 2) rfl (by kernel_rfl) (by rfl) (fun K hK => ?_) AllReadyH.nil
      go_simp
      refine hK.out _ _ ?_ (fun hHeld => ?_)
      · exact fun _ _ h => absurd h (Nat.not_lt_zero _)
      clear hK K
      (try simp only [Act.put, putA, putB, putC])
      refine ord_take (i := 8) (preB 9 1) ?_ rfl (by kernel_rfl) (by kernel_rfl) (by kernel_rfl) (by kernel_rfl) (fun _ _ _ h => h) hHeld (by rfl) (fun wx hSx => ?_) ?_
      rotate_left
      · (unfold SB at hSx; go_simp; (try with_reducible rfl))
      (try simp only [Act.put, putA, putB, putC])
      refine wpAnyH_ready (rs := [9]) (by kernel_rfl) (by simp) ?_
      refine ord_run (i := 9) (preB 10 0) rfl (by kernel_rfl) (by rfl) (fun K hK => ?_) AllReadyH.nil
      go_simp
      refine hK.out _ _ ?_ (fun hHeld => ?_)
      · exact fun _ _ h => absurd h (Nat.not_lt_zero _)
      clear hK K
      (try simp only [Act.put, putA, putB, putC])
      refine wpAnyH_done (by kernel_rfl) ?_ _
      go_wp2_with fail
      have HN0 := hide (HN0.out.mono (S' := New _ w2) (fun b h => ⟨h.1, Nat.lt_of_lt_of_le h.2 (by omega)⟩) (fun b h => q2B.block b h.2))
      refine bodyPost_ret (by simp [results, Tryd.results87, go_sem, *] <;> rfl) rfl ?_
      refine ⟨#[.string vx0, .int .i64 vx1, .int .i64 vy0_0, .int .i64 vy0_1, .string vy0_2, .slice aA0 aN0 aC0, .int .i64 vy1_0, .int .i64 vy1_1, .string vy1_2, .slice aA1 aN1 aC1], rfl, ⟨rfl, ?_, fun j hj => ?_⟩, ?_⟩
      · simp [Value.oneCell']
      · have hj4 : j < 10 := hj; clear hj; match j, hj4 with | 0, _ => exact rd_of_lf Qx0.out rfl | 1, _ => exact rd_of_lf Qx1.out rfl | 2, _ => exact rd_of_lf Qy0_0.out rfl | 3, _ => exact rd_of_lf Qy0_1.out rfl | 4, _ => exact rd_of_lf Qy0_2.out rfl | 5, _ => exact el_fin (HN0.out.rd 3 (by decide)) (by first | omega | (simp <;> omega)) (by first | omega | (simp <;> omega)) (fun b h1 h2 => by repeat (first | (with_reducible exact rfl) | (refine (Go.Deep.blk_setCell_other _ _ _ _ (by have h3 := h1; (try simp at h3); (first | omega | (simp; omega)))).trans ?_))) | 6, _ => exact rd_of_lf Qy1_0.out rfl | 7, _ => exact rd_of_lf Qy1_1.out rfl | 8, _ => exact rd_of_lf Qy1_2.out rfl | 9, _ => exact el_fin (HN1.out.rd 3 (by decide)) (by first | omega | (simp <;> omega)) (by first | omega | (simp <;> omega)) (fun b h1 h2 => by repeat (first | (with_reducible exact rfl) | (refine (Go.Deep.blk_setCell_other _ _ _ _ (by have h3 := h1; (try simp at h3); (first | omega | (simp; omega)))).trans ?_)))
      · refine HB1.out.trans ((q2B.mono HB1.out.size).trans ?_); (repeat (first | (with_reducible first | exact Below.refl _ _ | assumption | refine Below.drew ?_) | ((with_reducible first | refine Below.alloc ?_ ?_ _ | refine Below.setCell ?_ ?_ _); rotate_left; (first | omega | (simp <;> omega)))))
    exact AllReadyH.nil
  refine ord_run (i := 4) #[true, false, false, true, true, false, false, false, false, false] rfl (by kernel_rfl) (by rfl) (fun K hK => ?_) ?_
  · go_simp
    refine hK.out _ _ ?_ (fun hHeld => ?_)
    · exact fun _ _ h => absurd h (Nat.not_lt_zero _)
    clear hK K
    (try simp only [Act.put, putA, putB, putC])
    refine wpAnyH_ready (rs := [1]) (by kernel_rfl) (by simp) ?_
    refine ord_run (i := 1) #[true, true, false, true, true, false, false, false, false, false] rfl (by kernel_rfl) (by rfl) (fun K hK => ?_) AllReadyH.nil
    go_simp
    refine hK.out _ _ ?_ (fun hHeld => ?_)
    · exact fun _ _ h => absurd h (Nat.not_lt_zero _)
    clear hK K
    (try simp only [Act.put, putA, putB, putC])
    refine wpAnyH_ready (rs := [2]) (by kernel_rfl) (by simp) ?_
    refine ord_run (i := 2) (preB 5 5) rfl (by kernel_rfl) (by rfl) (fun K hK => ?_) AllReadyH.nil
    go_simp
    go_wp2_with (go_at_call 88; refine (HC0.out _ _ (HR0.out.below (by (repeat (first | (with_reducible first | exact Below.refl _ _ | assumption | refine Below.drew ?_) | ((with_reducible first | refine Below.alloc ?_ ?_ _ | refine Below.setCell ?_ ?_ _); rotate_left; (first | omega | (simp <;> omega)))))))).mono ?_; rintro r w1 ⟨D0, rfl, hN, hb⟩; obtain ⟨y0_0, y0_1, y0_2, y0_3, rfl⟩ := arr4 (show D0.size = 4 from hN.size); obtain ⟨vy0_0, py0_0, qy0_0, _⟩ := rd_int (hN.rd 0 (by decide)) (HW.out 2 (by decide)); have ey0_0 : y0_0 = .int .i64 vy0_0 := qy0_0; subst ey0_0; have Qy0_0 := hide py0_0; clear qy0_0 py0_0; obtain ⟨vy0_1, py0_1, qy0_1, _⟩ := rd_int (hN.rd 1 (by decide)) (HW.out 3 (by decide)); have ey0_1 : y0_1 = .int .i64 vy0_1 := qy0_1; subst ey0_1; have Qy0_1 := hide py0_1; clear qy0_1 py0_1; obtain ⟨vy0_2, py0_2, qy0_2, _⟩ := rd_str (hN.rd 2 (by decide)) (HW.out 4 (by decide)); have ey0_2 : y0_2 = .string vy0_2 := qy0_2; subst ey0_2; have Qy0_2 := hide py0_2; clear qy0_2 py0_2; obtain ⟨aN0, _, _, _, aA0, aC0, _, ey0_3, _⟩ := rd_row (e := 5) (hN.rd 3 (by decide)) (HW.out 5 (by decide)); have fy0_3 : y0_3 = .slice aA0 aN0 aC0 := ey0_3; subst fy0_3; clear ey0_3; have HN0 := hide hN; clear hN; (have q1B : Below w.heap.size w w1 := (by refine Below.trans ?_ (hb.mono (by first | omega | (simp <;> omega))); (repeat (first | (with_reducible first | exact Below.refl _ _ | assumption | refine Below.drew ?_) | ((with_reducible first | refine Below.alloc ?_ ?_ _ | refine Below.setCell ?_ ?_ _); rotate_left; (first | omega | (simp <;> omega)))))); have q1z := hb.size; (try simp at q1z); have q1t : w.heap.size ≤ w1.heap.size := (by omega); have q1s0 : w.heap.size < w1.heap.size := (by omega); have q1n0_0 : ¬ w1.heap.size = w.heap.size := (by omega); have q1n0_1 : ¬ w1.heap.size + 1 = w.heap.size := (by omega); have q1n0_2 : ¬ w1.heap.size + 2 = w.heap.size := (by omega); have q1c0_0 := hb.cell (p := ⟨w.heap.size, 0, none⟩) (by first | omega | (simp <;> omega)); simp [go_sem, *] at q1c0_0; have q1c0_1 := hb.cell (p := ⟨w.heap.size, 1, none⟩) (by first | omega | (simp <;> omega)); simp [go_sem, *] at q1c0_1; have q1c0_2 := hb.cell (p := ⟨w.heap.size, 2, none⟩) (by first | omega | (simp <;> omega)); simp [go_sem, *] at q1c0_2; have q1c0_3 := hb.cell (p := ⟨w.heap.size, 3, none⟩) (by first | omega | (simp <;> omega)); simp [go_sem, *] at q1c0_3; have q1c0_4 := hb.cell (p := ⟨w.heap.size, 4, none⟩) (by first | omega | (simp <;> omega)); simp [go_sem, *] at q1c0_4; have q1c0_5 := hb.cell (p := ⟨w.heap.size, 5, none⟩) (by first | omega | (simp <;> omega)); simp [go_sem, *] at q1c0_5; have q1c0_6 := hb.cell (p := ⟨w.heap.size, 6, none⟩) (by first | omega | (simp <;> omega)); simp [go_sem, *] at q1c0_6; have q1c0_7 := hb.cell (p := ⟨w.heap.size, 7, none⟩) (by first | omega | (simp <;> omega)); simp [go_sem, *] at q1c0_7; have q1c0_8 := hb.cell (p := ⟨w.heap.size, 8, none⟩) (by first | omega | (simp <;> omega)); simp [go_sem, *] at q1c0_8; have q1c0_9 := hb.cell (p := ⟨w.heap.size, 9, none⟩) (by first | omega | (simp <;> omega)); simp [go_sem, *] at q1c0_9; have q1f0 := fun o => hb.frozen (p := ⟨w.heap.size, o, none⟩) (by first | omega | (simp <;> omega)); simp [go_sem, *] at q1f0; have q1s1 : w.heap.size + 1 < w1.heap.size := (by omega); have q1n1_0 : ¬ w1.heap.size = w.heap.size + 1 := (by omega); have q1n1_1 : ¬ w1.heap.size + 1 = w.heap.size + 1 := (by omega); have q1n1_2 : ¬ w1.heap.size + 2 = w.heap.size + 1 := (by omega); have q1c1_0 := hb.cell (p := ⟨w.heap.size + 1, 0, none⟩) (by first | omega | (simp <;> omega)); simp [go_sem, *] at q1c1_0; have q1c1_1 := hb.cell (p := ⟨w.heap.size + 1, 1, none⟩) (by first | omega | (simp <;> omega)); simp [go_sem, *] at q1c1_1; have q1c1_2 := hb.cell (p := ⟨w.heap.size + 1, 2, none⟩) (by first | omega | (simp <;> omega)); simp [go_sem, *] at q1c1_2; have q1c1_3 := hb.cell (p := ⟨w.heap.size + 1, 3, none⟩) (by first | omega | (simp <;> omega)); simp [go_sem, *] at q1c1_3; have q1c1_4 := hb.cell (p := ⟨w.heap.size + 1, 4, none⟩) (by first | omega | (simp <;> omega)); simp [go_sem, *] at q1c1_4; have q1c1_5 := hb.cell (p := ⟨w.heap.size + 1, 5, none⟩) (by first | omega | (simp <;> omega)); simp [go_sem, *] at q1c1_5; have q1c1_6 := hb.cell (p := ⟨w.heap.size + 1, 6, none⟩) (by first | omega | (simp <;> omega)); simp [go_sem, *] at q1c1_6; have q1c1_7 := hb.cell (p := ⟨w.heap.size + 1, 7, none⟩) (by first | omega | (simp <;> omega)); simp [go_sem, *] at q1c1_7; have q1c1_8 := hb.cell (p := ⟨w.heap.size + 1, 8, none⟩) (by first | omega | (simp <;> omega)); simp [go_sem, *] at q1c1_8; have q1c1_9 := hb.cell (p := ⟨w.heap.size + 1, 9, none⟩) (by first | omega | (simp <;> omega)); simp [go_sem, *] at q1c1_9; have q1f1 := fun o => hb.frozen (p := ⟨w.heap.size + 1, o, none⟩) (by first | omega | (simp <;> omega)); simp [go_sem, *] at q1f1; have q1o : ∀ b o, b < w.heap.size → w1.cell? ⟨b, o, none⟩ = w.cell? ⟨b, o, none⟩ := fun b o h => q1B.cell (p := ⟨b, o, none⟩) h; have hbS := hb; have hbS1 := hb; clear hb); have HB1 := hide q1B)
    refine hK.out _ _ ?_ (fun hHeld => ?_)
    · exact fun _ _ h => absurd h (Nat.not_lt_zero _)
    clear hK K
    (try simp only [Act.put, putA, putB, putC])
    refine ord_take (i := 6) #[true, true, true, true, true, false, true, false, false, false] ?_ rfl (by kernel_rfl) (by kernel_rfl) (by kernel_rfl) (by kernel_rfl) (fun _ _ _ h => h) hHeld (by rfl) (fun wx hSx => ?_) ?_
    rotate_left
    · (unfold SB at hSx; go_simp; (try with_reducible rfl))
    (try simp only [Act.put, putA, putB, putC])
    refine wpAnyH_ready (rs := [5]) (by kernel_rfl) (by simp) ?_
    refine ord_run (i := 5) (preB 7 3) rfl (by kernel_rfl) (by rfl) (fun K hK => ?_) AllReadyH.nil
    go_simp
    go_wp2_with (go_at_call 88; refine (HC1.out _ _ (HR1.out.below (HB1.out.trans (by (repeat (first | (with_reducible first | exact Below.refl _ _ | assumption | refine Below.drew ?_) | ((with_reducible first | refine Below.alloc ?_ ?_ _ | refine Below.setCell ?_ ?_ _); rotate_left; (first | omega | (simp <;> omega))))))))).mono ?_; rintro r w2 ⟨D1, rfl, hN, hb⟩; obtain ⟨y1_0, y1_1, y1_2, y1_3, rfl⟩ := arr4 (show D1.size = 4 from hN.size); obtain ⟨vy1_0, py1_0, qy1_0, _⟩ := rd_int (hN.rd 0 (by decide)) (HW.out 6 (by decide)); have ey1_0 : y1_0 = .int .i64 vy1_0 := qy1_0; subst ey1_0; have Qy1_0 := hide py1_0; clear qy1_0 py1_0; obtain ⟨vy1_1, py1_1, qy1_1, _⟩ := rd_int (hN.rd 1 (by decide)) (HW.out 7 (by decide)); have ey1_1 : y1_1 = .int .i64 vy1_1 := qy1_1; subst ey1_1; have Qy1_1 := hide py1_1; clear qy1_1 py1_1; obtain ⟨vy1_2, py1_2, qy1_2, _⟩ := rd_str (hN.rd 2 (by decide)) (HW.out 8 (by decide)); have ey1_2 : y1_2 = .string vy1_2 := qy1_2; subst ey1_2; have Qy1_2 := hide py1_2; clear qy1_2 py1_2; obtain ⟨aN1, _, _, _, aA1, aC1, _, ey1_3, _⟩ := rd_row (e := 5) (hN.rd 3 (by decide)) (HW.out 9 (by decide)); have fy1_3 : y1_3 = .slice aA1 aN1 aC1 := ey1_3; subst fy1_3; clear ey1_3; have HN1 := hide hN; clear hN; (have q2B : Below w1.heap.size w1 w2 := (by refine Below.trans ?_ (hb.mono (by first | omega | (simp <;> omega))); (repeat (first | (with_reducible first | exact Below.refl _ _ | assumption | refine Below.drew ?_) | ((with_reducible first | refine Below.alloc ?_ ?_ _ | refine Below.setCell ?_ ?_ _); rotate_left; (first | omega | (simp <;> omega)))))); have q2z := hb.size; (try simp at q2z); have q2t : w1.heap.size ≤ w2.heap.size := (by omega); have q2s0 : w.heap.size < w2.heap.size := (by omega); have q2n0_0 : ¬ w2.heap.size = w.heap.size := (by omega); have q2n0_1 : ¬ w2.heap.size + 1 = w.heap.size := (by omega); have q2n0_2 : ¬ w2.heap.size + 2 = w.heap.size := (by omega); have q2c0_0 := hb.cell (p := ⟨w.heap.size, 0, none⟩) (by first | omega | (simp <;> omega)); simp [go_sem, *] at q2c0_0; have q2c0_1 := hb.cell (p := ⟨w.heap.size, 1, none⟩) (by first | omega | (simp <;> omega)); simp [go_sem, *] at q2c0_1; have q2c0_2 := hb.cell (p := ⟨w.heap.size, 2, none⟩) (by first | omega | (simp <;> omega)); simp [go_sem, *] at q2c0_2; have q2c0_3 := hb.cell (p := ⟨w.heap.size, 3, none⟩) (by first | omega | (simp <;> omega)); simp [go_sem, *] at q2c0_3; have q2c0_4 := hb.cell (p := ⟨w.heap.size, 4, none⟩) (by first | omega | (simp <;> omega)); simp [go_sem, *] at q2c0_4; have q2c0_5 := hb.cell (p := ⟨w.heap.size, 5, none⟩) (by first | omega | (simp <;> omega)); simp [go_sem, *] at q2c0_5; have q2c0_6 := hb.cell (p := ⟨w.heap.size, 6, none⟩) (by first | omega | (simp <;> omega)); simp [go_sem, *] at q2c0_6; have q2c0_7 := hb.cell (p := ⟨w.heap.size, 7, none⟩) (by first | omega | (simp <;> omega)); simp [go_sem, *] at q2c0_7; have q2c0_8 := hb.cell (p := ⟨w.heap.size, 8, none⟩) (by first | omega | (simp <;> omega)); simp [go_sem, *] at q2c0_8; have q2c0_9 := hb.cell (p := ⟨w.heap.size, 9, none⟩) (by first | omega | (simp <;> omega)); simp [go_sem, *] at q2c0_9; have q2f0 := fun o => hb.frozen (p := ⟨w.heap.size, o, none⟩) (by first | omega | (simp <;> omega)); simp [go_sem, *] at q2f0; have q2s1 : w.heap.size + 1 < w2.heap.size := (by omega); have q2n1_0 : ¬ w2.heap.size = w.heap.size + 1 := (by omega); have q2n1_1 : ¬ w2.heap.size + 1 = w.heap.size + 1 := (by omega); have q2n1_2 : ¬ w2.heap.size + 2 = w.heap.size + 1 := (by omega); have q2c1_0 := hb.cell (p := ⟨w.heap.size + 1, 0, none⟩) (by first | omega | (simp <;> omega)); simp [go_sem, *] at q2c1_0; have q2c1_1 := hb.cell (p := ⟨w.heap.size + 1, 1, none⟩) (by first | omega | (simp <;> omega)); simp [go_sem, *] at q2c1_1; have q2c1_2 := hb.cell (p := ⟨w.heap.size + 1, 2, none⟩) (by first | omega | (simp <;> omega)); simp [go_sem, *] at q2c1_2; have q2c1_3 := hb.cell (p := ⟨w.heap.size + 1, 3, none⟩) (by first | omega | (simp <;> omega)); simp [go_sem, *] at q2c1_3; have q2c1_4 := hb.cell (p := ⟨w.heap.size + 1, 4, none⟩) (by first | omega | (simp <;> omega)); simp [go_sem, *] at q2c1_4; have q2c1_5 := hb.cell (p := ⟨w.heap.size + 1, 5, none⟩) (by first | omega | (simp <;> omega)); simp [go_sem, *] at q2c1_5; have q2c1_6 := hb.cell (p := ⟨w.heap.size + 1, 6, none⟩) (by first | omega | (simp <;> omega)); simp [go_sem, *] at q2c1_6; have q2c1_7 := hb.cell (p := ⟨w.heap.size + 1, 7, none⟩) (by first | omega | (simp <;> omega)); simp [go_sem, *] at q2c1_7; have q2c1_8 := hb.cell (p := ⟨w.heap.size + 1, 8, none⟩) (by first | omega | (simp <;> omega)); simp [go_sem, *] at q2c1_8; have q2c1_9 := hb.cell (p := ⟨w.heap.size + 1, 9, none⟩) (by first | omega | (simp <;> omega)); simp [go_sem, *] at q2c1_9; have q2f1 := fun o => hb.frozen (p := ⟨w.heap.size + 1, o, none⟩) (by first | omega | (simp <;> omega)); simp [go_sem, *] at q2f1; have q2o : ∀ b o, b < w1.heap.size → w2.cell? ⟨b, o, none⟩ = w1.cell? ⟨b, o, none⟩ := fun b o h => q2B.cell (p := ⟨b, o, none⟩) h; have hbS := hb; have hbS2 := hb; clear hb))
    refine hK.out _ _ ?_ (fun hHeld => ?_)
    · exact fun _ _ h => absurd h (Nat.not_lt_zero _)
    clear hK K
    (try simp only [Act.put, putA, putB, putC])
    refine wpAnyH_ready (rs := [7]) (by kernel_rfl) (by simp) ?_
    refine ord_run (i := 7) (preB 8 2) rfl (by kernel_rfl) (by rfl) (fun K hK => ?_) AllReadyH.nil
    go_simp
    refine hK.out _ _ ?_ (fun hHeld => ?_)
    · exact fun _ _ h => absurd h (Nat.not_lt_zero _)
    clear hK K
    (try simp only [Act.put, putA, putB, putC])
    refine ord_take (i := 8) (preB 9 1) ?_ rfl (by kernel_rfl) (by kernel_rfl) (by kernel_rfl) (by kernel_rfl) (fun _ _ _ h => h) hHeld (by rfl) (fun wx hSx => ?_) ?_
    rotate_left
    · (unfold SB at hSx; go_simp; (try with_reducible rfl))
    (try simp only [Act.put, putA, putB, putC])
    refine wpAnyH_ready (rs := [9]) (by kernel_rfl) (by simp) ?_
    refine ord_run (i := 9) (preB 10 0) rfl (by kernel_rfl) (by rfl) (fun K hK => ?_) AllReadyH.nil
    go_simp
    refine hK.out _ _ ?_ (fun hHeld => ?_)
    · exact fun _ _ h => absurd h (Nat.not_lt_zero _)
    clear hK K
    (try simp only [Act.put, putA, putB, putC])
    refine wpAnyH_done (by kernel_rfl) ?_ _
    go_wp2_with fail
    have HN0 := hide (HN0.out.mono (S' := New _ w2) (fun b h => ⟨h.1, Nat.lt_of_lt_of_le h.2 (by omega)⟩) (fun b h => q2B.block b h.2))
    refine bodyPost_ret (by simp [results, Tryd.results87, go_sem, *] <;> rfl) rfl ?_
    refine ⟨#[.string vx0, .int .i64 vx1, .int .i64 vy0_0, .int .i64 vy0_1, .string vy0_2, .slice aA0 aN0 aC0, .int .i64 vy1_0, .int .i64 vy1_1, .string vy1_2, .slice aA1 aN1 aC1], rfl, ⟨rfl, ?_, fun j hj => ?_⟩, ?_⟩
    · simp [Value.oneCell']
    · have hj4 : j < 10 := hj; clear hj; match j, hj4 with | 0, _ => exact rd_of_lf Qx0.out rfl | 1, _ => exact rd_of_lf Qx1.out rfl | 2, _ => exact rd_of_lf Qy0_0.out rfl | 3, _ => exact rd_of_lf Qy0_1.out rfl | 4, _ => exact rd_of_lf Qy0_2.out rfl | 5, _ => exact el_fin (HN0.out.rd 3 (by decide)) (by first | omega | (simp <;> omega)) (by first | omega | (simp <;> omega)) (fun b h1 h2 => by repeat (first | (with_reducible exact rfl) | (refine (Go.Deep.blk_setCell_other _ _ _ _ (by have h3 := h1; (try simp at h3); (first | omega | (simp; omega)))).trans ?_))) | 6, _ => exact rd_of_lf Qy1_0.out rfl | 7, _ => exact rd_of_lf Qy1_1.out rfl | 8, _ => exact rd_of_lf Qy1_2.out rfl | 9, _ => exact el_fin (HN1.out.rd 3 (by decide)) (by first | omega | (simp <;> omega)) (by first | omega | (simp <;> omega)) (fun b h1 h2 => by repeat (first | (with_reducible exact rfl) | (refine (Go.Deep.blk_setCell_other _ _ _ _ (by have h3 := h1; (try simp at h3); (first | omega | (simp; omega)))).trans ?_)))
    · refine HB1.out.trans ((q2B.mono HB1.out.size).trans ?_); (repeat (first | (with_reducible first | exact Below.refl _ _ | assumption | refine Below.drew ?_) | ((with_reducible first | refine Below.alloc ?_ ?_ _ | refine Below.setCell ?_ ?_ _); rotate_left; (first | omega | (simp <;> omega)))))
  exact AllReadyH.nil
end Go.Proofs.YtdjhkhadjmndoaaDoor
