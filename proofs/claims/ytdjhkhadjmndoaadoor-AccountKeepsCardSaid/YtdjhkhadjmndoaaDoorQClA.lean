/- Texts laid together: ClA. -/
import Derived.Test.YtdjhkhadjmndoaaDoorQTrM
import Derived.Test.YtdjhkhadjmndoaaDoorQStA
namespace Go.Proofs.YtdjhkhadjmndoaaDoor
set_option maxRecDepth 4000
set_option linter.unusedSimpArgs false
set_option linter.unusedVariables false
open Go.RowKit
theorem own_emptyZ {w : World} {base g size : Nat} {e : TypeId} (hg : g = w.heap.size) (hb : base ≤ w.heap.size) : (w.alloc (.cells #[] e)).ownsRow base e size (.slice (some ⟨g, 0, none⟩) 0 0) 0 [] := by
  subst hg
  exact ⟨by simp, .inr ⟨w.heap.size, 0, #[], rfl, hb, blk_new rfl, Nat.le_refl _, by simp [maxLen], by simp, by simp⟩⟩
theorem rowE_len (e : Nat) (C : Nat → Nat → Value) (n : Nat) : (rowA (elA e C) n).length = n * (tbl e).length := rowA_len fun k _ => elA_size e C k
theorem rowE_at (e : Nat) (C : Nat → Nat → Value) (n : Nat) : ∀ k j, k < n → j < (tbl e).length → (rowA (elA e C) n)[k * (tbl e).length + j]? = some (C k j) := fun k j hk hj => by
  rw [rowA_at (fun k _ => elA_size e C k) k j hk hj, elA_getD _ _ _ _ hj]
theorem rowE_one {e : Nat} {C : Nat → Nat → Value} {n : Nat} (h : ∀ k, k < n → (elA e C k).all (·.oneCell') = true) : ∀ u ∈ rowA (elA e C) n, u.oneCell' = true := fun u hu => by
  unfold rowA at hu
  obtain ⟨k, hk, hk2⟩ := List.mem_flatMap.1 hu
  have := h k (List.mem_range.1 hk)
  rw [Array.all_eq_true'] at this
  exact this u (by simpa using hk2)
/-- A copy of a row, owned by the call. -/
def CloRet (t : TypeId) (e n : Nat) (C : Nat → Nat → Value) (w : World) (r : Ending) (w' : World) : Prop :=
  ∃ A cap, r = .returned (.slice A n cap) ∧ w'.ownsRow w.heap.size t (tbl e).length (.slice A n cap) n (rowA (elA e C) n) ∧ Below w.heap.size w w'
theorem clo_sl {t : TypeId} {e n : Nat} {c : Nat → Nat → Tr} {C : Nat → Nat → Value} {S : Nat → Prop} {w0 w : World} {A0 : Option Addr} {r : Ending} {w' : World} (hl : (tbl e).all leafK = true) (hr : RowT S w0 e A0 n c C) (hk : RowK e n c)
    (h : CloRet t e n C w r w') : SlRet e n c w r w' := by
  obtain ⟨A, cap, rfl, ho, hb⟩ := h
  obtain ⟨A', cap', hv, hcap, hrow⟩ := own_rowZ (fun i _ => elA_size e C i) ho
  injection hv with e1 e2 e3
  subst e1 e3
  refine ⟨A, cap, fun k j => (elA e C k).getD j undef, rfl, hcap, ⟨hrow, fun k j hkn hj => ?_⟩, hb⟩
  rw [elA_getD _ _ _ _ hj]
  have hlk : leafK ((tbl e).getD j .i) = true := by
    rw [List.getD_eq_getElem?_getD, List.getElem?_eq_getElem hj]
    exact List.all_eq_true.1 hl _ (List.getElem_mem hj)
  rw [rd_leaf hlk (hr.rd k j hkn hj) (hk.wt k j hkn hj)]
  rfl
theorem inf_Currency : (Tryd.prog.info? 122).map (fun i => (i.zero, i.size, i.bytes)) = some (some (.agg #[.string ⟨#[]⟩, .int .i64 0]), 2, 24) := by kernel_rfl
set_option maxHeartbeats 2000000 in
theorem clo_Currency (A : Option Addr) (n c : Nat) (C : Nat → Nat → Value) (hn : n * 24 ≤ 140737488351232) (w : World) (hr : RowS w A n 2 C) (h1 : ∀ k, k < n → (elA 1 C k).all (·.oneCell') = true) :
    Calls Tryd.prog 65 #[.slice A n c] w (CloRet 122 1 n C w) := by
  cases A with
  | none =>
    have h0 : n = 0 := by
      rcases Nat.eq_zero_or_pos n with h | h
      · exact h
      · obtain ⟨_, _, e, _⟩ := hr h; cases e
    subst h0
    have he : ∀ w : World, (binOp .eql 30 (.slice none 0 c) (.slice none 0 0)).run Tryd.prog w = .ok (.bool true) w := fun _ => rfl
    go_enter Tryd.func65, Tryd.ntmps65
    go_wp2_with fail
    go_ret
    exact ⟨none, 0, rfl, ⟨by simp [rowA], .inl ⟨rfl, rfl⟩⟩, Below.refl _ _⟩
  | some ad =>
    obtain ⟨i0, hi0, hz00, hz1, hz2⟩ := info_parts inf_Currency
    have HS := hide hr
    have HL := hide (rowE_len 1 C n)
    have HA := hide (rowE_at 1 C n)
    have HO := hide (rowE_one h1)
    have HN := hide hn
    clear hr h1 hn
    have he : ∀ w : World, (binOp .eql 30 (.slice (some ad) n c) (.slice none 0 0)).run Tryd.prog w = .ok (.bool false) w := fun _ => rfl
    go_enter Tryd.func65, Tryd.ntmps65
    go_wp2_with (at_builtin; go_loud (refine wpList_append_rowS _ rfl (.tmp 5) (.tmp 6) 30 rfl w.heap.size 122 i0 (.agg #[.string ⟨#[]⟩, .int .i64 0]) 2 24 Tryd.underlying30 hi0 hz00 hz1 hz2 rfl (by decide) _ 0 [] rfl (own_emptyZ rfl (Nat.le_refl _)) (some ad) n c rfl C (HS.out.below (by (repeat (first | (with_reducible first | exact Below.refl _ _ | assumption | refine Below.drew ?_) | ((with_reducible first | refine Below.alloc ?_ ?_ _ | refine Below.setCell ?_ ?_ _); rotate_left; (first | omega | (simp <;> omega))))))) (rowA (elA 1 C) n) HL.out HA.out HO.out (by have := HN.out; simp only [maxLen]; omega) (by have := HN.out; omega) (by simp) ?_); intro A1 c1 w1 ho hg hv)
    have hb := below_grown (B := w.heap.size) hg (by simp) (fun k hk => Nat.le_of_eq (Option.some.inj hk))
    simp only [List.nil_append, Nat.zero_add] at ho
    go_ret
    exact ⟨A1, c1, rfl, ho, Below.trans (by (repeat (first | (with_reducible first | exact Below.refl _ _ | assumption | refine Below.drew ?_) | ((with_reducible first | refine Below.alloc ?_ ?_ _ | refine Below.setCell ?_ ?_ _); rotate_left; (first | omega | (simp <;> omega)))))) hb⟩
theorem cl_Currency {A : Option Addr} {n : Nat} (cap : Nat) {c : Nat → Nat → Tr} {C : Nat → Nat → Value} {w : World} (hr : RowT (Old w) w 1 A n c C) (hk : RowK 1 n c) : Calls Tryd.prog 65 #[.slice A n cap] w (SlRet 1 n c w) :=
  (clo_Currency A n cap C (by have := hk.room; simp only [tby] at this; omega) w (hr.row.toS (by decide)) (fun k hkn => (hr.el hk hkn).ones)).mono fun _ _ h => clo_sl (by decide) hr hk h
theorem inf_Gl : (Tryd.prog.info? 125).map (fun i => (i.zero, i.size, i.bytes)) = some (some (.agg #[.int .i64 0, .int .i64 0, .int .i64 0, .string ⟨#[]⟩]), 4, 40) := by kernel_rfl
set_option maxHeartbeats 2000000 in
theorem clo_Gl (A : Option Addr) (n c : Nat) (C : Nat → Nat → Value) (hn : n * 40 ≤ 140737488351232) (w : World) (hr : RowS w A n 4 C) (h1 : ∀ k, k < n → (elA 3 C k).all (·.oneCell') = true) :
    Calls Tryd.prog 66 #[.slice A n c] w (CloRet 125 3 n C w) := by
  cases A with
  | none =>
    have h0 : n = 0 := by
      rcases Nat.eq_zero_or_pos n with h | h
      · exact h
      · obtain ⟨_, _, e, _⟩ := hr h; cases e
    subst h0
    have he : ∀ w : World, (binOp .eql 32 (.slice none 0 c) (.slice none 0 0)).run Tryd.prog w = .ok (.bool true) w := fun _ => rfl
    go_enter Tryd.func66, Tryd.ntmps66
    go_wp2_with fail
    go_ret
    exact ⟨none, 0, rfl, ⟨by simp [rowA], .inl ⟨rfl, rfl⟩⟩, Below.refl _ _⟩
  | some ad =>
    obtain ⟨i0, hi0, hz00, hz1, hz2⟩ := info_parts inf_Gl
    have HS := hide hr
    have HL := hide (rowE_len 3 C n)
    have HA := hide (rowE_at 3 C n)
    have HO := hide (rowE_one h1)
    have HN := hide hn
    clear hr h1 hn
    have he : ∀ w : World, (binOp .eql 32 (.slice (some ad) n c) (.slice none 0 0)).run Tryd.prog w = .ok (.bool false) w := fun _ => rfl
    go_enter Tryd.func66, Tryd.ntmps66
    go_wp2_with (at_builtin; go_loud (refine wpList_append_rowS _ rfl (.tmp 5) (.tmp 6) 32 rfl w.heap.size 125 i0 (.agg #[.int .i64 0, .int .i64 0, .int .i64 0, .string ⟨#[]⟩]) 4 40 Tryd.underlying32 hi0 hz00 hz1 hz2 rfl (by decide) _ 0 [] rfl (own_emptyZ rfl (Nat.le_refl _)) (some ad) n c rfl C (HS.out.below (by (repeat (first | (with_reducible first | exact Below.refl _ _ | assumption | refine Below.drew ?_) | ((with_reducible first | refine Below.alloc ?_ ?_ _ | refine Below.setCell ?_ ?_ _); rotate_left; (first | omega | (simp <;> omega))))))) (rowA (elA 3 C) n) HL.out HA.out HO.out (by have := HN.out; simp only [maxLen]; omega) (by have := HN.out; omega) (by simp) ?_); intro A1 c1 w1 ho hg hv)
    have hb := below_grown (B := w.heap.size) hg (by simp) (fun k hk => Nat.le_of_eq (Option.some.inj hk))
    simp only [List.nil_append, Nat.zero_add] at ho
    go_ret
    exact ⟨A1, c1, rfl, ho, Below.trans (by (repeat (first | (with_reducible first | exact Below.refl _ _ | assumption | refine Below.drew ?_) | ((with_reducible first | refine Below.alloc ?_ ?_ _ | refine Below.setCell ?_ ?_ _); rotate_left; (first | omega | (simp <;> omega)))))) hb⟩
theorem cl_Gl {A : Option Addr} {n : Nat} (cap : Nat) {c : Nat → Nat → Tr} {C : Nat → Nat → Value} {w : World} (hr : RowT (Old w) w 3 A n c C) (hk : RowK 3 n c) : Calls Tryd.prog 66 #[.slice A n cap] w (SlRet 3 n c w) :=
  (clo_Gl A n cap C (by have := hk.room; simp only [tby] at this; omega) w (hr.row.toS (by decide)) (fun k hkn => (hr.el hk hkn).ones)).mono fun _ _ h => clo_sl (by decide) hr hk h
theorem inf_Account : (Tryd.prog.info? 44).map (fun i => (i.zero, i.size, i.bytes)) = some (some (.agg #[.int .i64 0, .int .i64 0, .int .i64 0, .int .i64 0, .string ⟨#[]⟩, .string ⟨#[]⟩, .string ⟨#[]⟩]), 7, 80) := by kernel_rfl
set_option maxHeartbeats 2000000 in
theorem clo_Account (A : Option Addr) (n c : Nat) (C : Nat → Nat → Value) (hn : n * 80 ≤ 140737488351232) (w : World) (hr : RowS w A n 7 C) (h1 : ∀ k, k < n → (elA 9 C k).all (·.oneCell') = true) :
    Calls Tryd.prog 67 #[.slice A n c] w (CloRet 44 9 n C w) := by
  cases A with
  | none =>
    have h0 : n = 0 := by
      rcases Nat.eq_zero_or_pos n with h | h
      · exact h
      · obtain ⟨_, _, e, _⟩ := hr h; cases e
    subst h0
    have he : ∀ w : World, (binOp .eql 36 (.slice none 0 c) (.slice none 0 0)).run Tryd.prog w = .ok (.bool true) w := fun _ => rfl
    go_enter Tryd.func67, Tryd.ntmps67
    go_wp2_with fail
    go_ret
    exact ⟨none, 0, rfl, ⟨by simp [rowA], .inl ⟨rfl, rfl⟩⟩, Below.refl _ _⟩
  | some ad =>
    obtain ⟨i0, hi0, hz00, hz1, hz2⟩ := info_parts inf_Account
    have HS := hide hr
    have HL := hide (rowE_len 9 C n)
    have HA := hide (rowE_at 9 C n)
    have HO := hide (rowE_one h1)
    have HN := hide hn
    clear hr h1 hn
    have he : ∀ w : World, (binOp .eql 36 (.slice (some ad) n c) (.slice none 0 0)).run Tryd.prog w = .ok (.bool false) w := fun _ => rfl
    go_enter Tryd.func67, Tryd.ntmps67
    go_wp2_with (at_builtin; go_loud (refine wpList_append_rowS _ rfl (.tmp 5) (.tmp 6) 36 rfl w.heap.size 44 i0 (.agg #[.int .i64 0, .int .i64 0, .int .i64 0, .int .i64 0, .string ⟨#[]⟩, .string ⟨#[]⟩, .string ⟨#[]⟩]) 7 80 Tryd.underlying36 hi0 hz00 hz1 hz2 rfl (by decide) _ 0 [] rfl (own_emptyZ rfl (Nat.le_refl _)) (some ad) n c rfl C (HS.out.below (by (repeat (first | (with_reducible first | exact Below.refl _ _ | assumption | refine Below.drew ?_) | ((with_reducible first | refine Below.alloc ?_ ?_ _ | refine Below.setCell ?_ ?_ _); rotate_left; (first | omega | (simp <;> omega))))))) (rowA (elA 9 C) n) HL.out HA.out HO.out (by have := HN.out; simp only [maxLen]; omega) (by have := HN.out; omega) (by simp) ?_); intro A1 c1 w1 ho hg hv)
    have hb := below_grown (B := w.heap.size) hg (by simp) (fun k hk => Nat.le_of_eq (Option.some.inj hk))
    simp only [List.nil_append, Nat.zero_add] at ho
    go_ret
    exact ⟨A1, c1, rfl, ho, Below.trans (by (repeat (first | (with_reducible first | exact Below.refl _ _ | assumption | refine Below.drew ?_) | ((with_reducible first | refine Below.alloc ?_ ?_ _ | refine Below.setCell ?_ ?_ _); rotate_left; (first | omega | (simp <;> omega)))))) hb⟩
theorem inf_Hold : (Tryd.prog.info? 92).map (fun i => (i.zero, i.size, i.bytes)) = some (some (.agg #[.int .i64 0, .int .i64 0, .int .i64 0, .int .i64 0, .int .i64 0, .string ⟨#[]⟩]), 6, 56) := by kernel_rfl
set_option maxHeartbeats 2000000 in
theorem clo_Hold (A : Option Addr) (n c : Nat) (C : Nat → Nat → Value) (hn : n * 56 ≤ 140737488351232) (w : World) (hr : RowS w A n 6 C) (h1 : ∀ k, k < n → (elA 12 C k).all (·.oneCell') = true) :
    Calls Tryd.prog 68 #[.slice A n c] w (CloRet 92 12 n C w) := by
  cases A with
  | none =>
    have h0 : n = 0 := by
      rcases Nat.eq_zero_or_pos n with h | h
      · exact h
      · obtain ⟨_, _, e, _⟩ := hr h; cases e
    subst h0
    have he : ∀ w : World, (binOp .eql 38 (.slice none 0 c) (.slice none 0 0)).run Tryd.prog w = .ok (.bool true) w := fun _ => rfl
    go_enter Tryd.func68, Tryd.ntmps68
    go_wp2_with fail
    go_ret
    exact ⟨none, 0, rfl, ⟨by simp [rowA], .inl ⟨rfl, rfl⟩⟩, Below.refl _ _⟩
  | some ad =>
    obtain ⟨i0, hi0, hz00, hz1, hz2⟩ := info_parts inf_Hold
    have HS := hide hr
    have HL := hide (rowE_len 12 C n)
    have HA := hide (rowE_at 12 C n)
    have HO := hide (rowE_one h1)
    have HN := hide hn
    clear hr h1 hn
    have he : ∀ w : World, (binOp .eql 38 (.slice (some ad) n c) (.slice none 0 0)).run Tryd.prog w = .ok (.bool false) w := fun _ => rfl
    go_enter Tryd.func68, Tryd.ntmps68
    go_wp2_with (at_builtin; go_loud (refine wpList_append_rowS _ rfl (.tmp 5) (.tmp 6) 38 rfl w.heap.size 92 i0 (.agg #[.int .i64 0, .int .i64 0, .int .i64 0, .int .i64 0, .int .i64 0, .string ⟨#[]⟩]) 6 56 Tryd.underlying38 hi0 hz00 hz1 hz2 rfl (by decide) _ 0 [] rfl (own_emptyZ rfl (Nat.le_refl _)) (some ad) n c rfl C (HS.out.below (by (repeat (first | (with_reducible first | exact Below.refl _ _ | assumption | refine Below.drew ?_) | ((with_reducible first | refine Below.alloc ?_ ?_ _ | refine Below.setCell ?_ ?_ _); rotate_left; (first | omega | (simp <;> omega))))))) (rowA (elA 12 C) n) HL.out HA.out HO.out (by have := HN.out; simp only [maxLen]; omega) (by have := HN.out; omega) (by simp) ?_); intro A1 c1 w1 ho hg hv)
    have hb := below_grown (B := w.heap.size) hg (by simp) (fun k hk => Nat.le_of_eq (Option.some.inj hk))
    simp only [List.nil_append, Nat.zero_add] at ho
    go_ret
    exact ⟨A1, c1, rfl, ho, Below.trans (by (repeat (first | (with_reducible first | exact Below.refl _ _ | assumption | refine Below.drew ?_) | ((with_reducible first | refine Below.alloc ?_ ?_ _ | refine Below.setCell ?_ ?_ _); rotate_left; (first | omega | (simp <;> omega)))))) hb⟩
theorem cl_Hold {A : Option Addr} {n : Nat} (cap : Nat) {c : Nat → Nat → Tr} {C : Nat → Nat → Value} {w : World} (hr : RowT (Old w) w 12 A n c C) (hk : RowK 12 n c) : Calls Tryd.prog 68 #[.slice A n cap] w (SlRet 12 n c w) :=
  (clo_Hold A n cap C (by have := hk.room; simp only [tby] at this; omega) w (hr.row.toS (by decide)) (fun k hkn => (hr.el hk hkn).ones)).mono fun _ _ h => clo_sl (by decide) hr hk h
theorem inf_Block : (Tryd.prog.info? 94).map (fun i => (i.zero, i.size, i.bytes)) = some (some (.agg #[.int .i64 0, .int .i64 0, .int .i64 0, .int .i64 0, .int .i64 0, .int .i64 0, .string ⟨#[]⟩]), 7, 64) := by kernel_rfl
set_option maxHeartbeats 2000000 in
theorem clo_Block (A : Option Addr) (n c : Nat) (C : Nat → Nat → Value) (hn : n * 64 ≤ 140737488351232) (w : World) (hr : RowS w A n 7 C) (h1 : ∀ k, k < n → (elA 13 C k).all (·.oneCell') = true) :
    Calls Tryd.prog 69 #[.slice A n c] w (CloRet 94 13 n C w) := by
  cases A with
  | none =>
    have h0 : n = 0 := by
      rcases Nat.eq_zero_or_pos n with h | h
      · exact h
      · obtain ⟨_, _, e, _⟩ := hr h; cases e
    subst h0
    have he : ∀ w : World, (binOp .eql 39 (.slice none 0 c) (.slice none 0 0)).run Tryd.prog w = .ok (.bool true) w := fun _ => rfl
    go_enter Tryd.func69, Tryd.ntmps69
    go_wp2_with fail
    go_ret
    exact ⟨none, 0, rfl, ⟨by simp [rowA], .inl ⟨rfl, rfl⟩⟩, Below.refl _ _⟩
  | some ad =>
    obtain ⟨i0, hi0, hz00, hz1, hz2⟩ := info_parts inf_Block
    have HS := hide hr
    have HL := hide (rowE_len 13 C n)
    have HA := hide (rowE_at 13 C n)
    have HO := hide (rowE_one h1)
    have HN := hide hn
    clear hr h1 hn
    have he : ∀ w : World, (binOp .eql 39 (.slice (some ad) n c) (.slice none 0 0)).run Tryd.prog w = .ok (.bool false) w := fun _ => rfl
    go_enter Tryd.func69, Tryd.ntmps69
    go_wp2_with (at_builtin; go_loud (refine wpList_append_rowS _ rfl (.tmp 5) (.tmp 6) 39 rfl w.heap.size 94 i0 (.agg #[.int .i64 0, .int .i64 0, .int .i64 0, .int .i64 0, .int .i64 0, .int .i64 0, .string ⟨#[]⟩]) 7 64 Tryd.underlying39 hi0 hz00 hz1 hz2 rfl (by decide) _ 0 [] rfl (own_emptyZ rfl (Nat.le_refl _)) (some ad) n c rfl C (HS.out.below (by (repeat (first | (with_reducible first | exact Below.refl _ _ | assumption | refine Below.drew ?_) | ((with_reducible first | refine Below.alloc ?_ ?_ _ | refine Below.setCell ?_ ?_ _); rotate_left; (first | omega | (simp <;> omega))))))) (rowA (elA 13 C) n) HL.out HA.out HO.out (by have := HN.out; simp only [maxLen]; omega) (by have := HN.out; omega) (by simp) ?_); intro A1 c1 w1 ho hg hv)
    have hb := below_grown (B := w.heap.size) hg (by simp) (fun k hk => Nat.le_of_eq (Option.some.inj hk))
    simp only [List.nil_append, Nat.zero_add] at ho
    go_ret
    exact ⟨A1, c1, rfl, ho, Below.trans (by (repeat (first | (with_reducible first | exact Below.refl _ _ | assumption | refine Below.drew ?_) | ((with_reducible first | refine Below.alloc ?_ ?_ _ | refine Below.setCell ?_ ?_ _); rotate_left; (first | omega | (simp <;> omega)))))) hb⟩
theorem cl_Block {A : Option Addr} {n : Nat} (cap : Nat) {c : Nat → Nat → Tr} {C : Nat → Nat → Value} {w : World} (hr : RowT (Old w) w 13 A n c C) (hk : RowK 13 n c) : Calls Tryd.prog 69 #[.slice A n cap] w (SlRet 13 n c w) :=
  (clo_Block A n cap C (by have := hk.room; simp only [tby] at this; omega) w (hr.row.toS (by decide)) (fun k hkn => (hr.el hk hkn).ones)).mono fun _ _ h => clo_sl (by decide) hr hk h
theorem inf_int : (Tryd.prog.info? 3).map (fun i => (i.zero, i.size, i.bytes)) = some (some (.int .i64 0), 1, 8) := by kernel_rfl
set_option maxHeartbeats 2000000 in
theorem clo_int (A : Option Addr) (n c : Nat) (C : Nat → Nat → Value) (hn : n * 8 ≤ 140737488351232) (w : World) (hr : RowS w A n 1 C) (h1 : ∀ k, k < n → (elA 0 C k).all (·.oneCell') = true) :
    Calls Tryd.prog 72 #[.slice A n c] w (CloRet 3 0 n C w) := by
  cases A with
  | none =>
    have h0 : n = 0 := by
      rcases Nat.eq_zero_or_pos n with h | h
      · exact h
      · obtain ⟨_, _, e, _⟩ := hr h; cases e
    subst h0
    have he : ∀ w : World, (binOp .eql 130 (.slice none 0 c) (.slice none 0 0)).run Tryd.prog w = .ok (.bool true) w := fun _ => rfl
    go_enter Tryd.func72, Tryd.ntmps72
    go_wp2_with fail
    go_ret
    exact ⟨none, 0, rfl, ⟨by simp [rowA], .inl ⟨rfl, rfl⟩⟩, Below.refl _ _⟩
  | some ad =>
    obtain ⟨i0, hi0, hz00, hz1, hz2⟩ := info_parts inf_int
    have HS := hide hr
    have HL := hide (rowE_len 0 C n)
    have HA := hide (rowE_at 0 C n)
    have HO := hide (rowE_one h1)
    have HN := hide hn
    clear hr h1 hn
    have he : ∀ w : World, (binOp .eql 130 (.slice (some ad) n c) (.slice none 0 0)).run Tryd.prog w = .ok (.bool false) w := fun _ => rfl
    go_enter Tryd.func72, Tryd.ntmps72
    go_wp2_with (at_builtin; go_loud (refine wpList_append_rowS _ rfl (.tmp 5) (.tmp 6) 130 rfl w.heap.size 3 i0 (.int .i64 0) 1 8 Tryd.underlying130 hi0 hz00 hz1 hz2 rfl (by decide) _ 0 [] rfl (own_emptyZ rfl (Nat.le_refl _)) (some ad) n c rfl C (HS.out.below (by (repeat (first | (with_reducible first | exact Below.refl _ _ | assumption | refine Below.drew ?_) | ((with_reducible first | refine Below.alloc ?_ ?_ _ | refine Below.setCell ?_ ?_ _); rotate_left; (first | omega | (simp <;> omega))))))) (rowA (elA 0 C) n) HL.out HA.out HO.out (by have := HN.out; simp only [maxLen]; omega) (by have := HN.out; omega) (by simp) ?_); intro A1 c1 w1 ho hg hv)
    have hb := below_grown (B := w.heap.size) hg (by simp) (fun k hk => Nat.le_of_eq (Option.some.inj hk))
    simp only [List.nil_append, Nat.zero_add] at ho
    go_ret
    exact ⟨A1, c1, rfl, ho, Below.trans (by (repeat (first | (with_reducible first | exact Below.refl _ _ | assumption | refine Below.drew ?_) | ((with_reducible first | refine Below.alloc ?_ ?_ _ | refine Below.setCell ?_ ?_ _); rotate_left; (first | omega | (simp <;> omega)))))) hb⟩
theorem cl_int {A : Option Addr} {n : Nat} (cap : Nat) {c : Nat → Nat → Tr} {C : Nat → Nat → Value} {w : World} (hr : RowT (Old w) w 0 A n c C) (hk : RowK 0 n c) : Calls Tryd.prog 72 #[.slice A n cap] w (SlRet 0 n c w) :=
  (clo_int A n cap C (by have := hk.room; simp only [tby] at this; omega) w (hr.row.toS (by decide)) (fun k hkn => (hr.el hk hkn).ones)).mono fun _ _ h => clo_sl (by decide) hr hk h
theorem inf_Tier : (Tryd.prog.info? 116).map (fun i => (i.zero, i.size, i.bytes)) = some (some (.agg #[.int .i64 0, .int .i64 0]), 2, 16) := by kernel_rfl
set_option maxHeartbeats 2000000 in
theorem clo_Tier (A : Option Addr) (n c : Nat) (C : Nat → Nat → Value) (hn : n * 16 ≤ 140737488351232) (w : World) (hr : RowS w A n 2 C) (h1 : ∀ k, k < n → (elA 4 C k).all (·.oneCell') = true) :
    Calls Tryd.prog 101 #[.slice A n c] w (CloRet 116 4 n C w) := by
  cases A with
  | none =>
    have h0 : n = 0 := by
      rcases Nat.eq_zero_or_pos n with h | h
      · exact h
      · obtain ⟨_, _, e, _⟩ := hr h; cases e
    subst h0
    have he : ∀ w : World, (binOp .eql 47 (.slice none 0 c) (.slice none 0 0)).run Tryd.prog w = .ok (.bool true) w := fun _ => rfl
    go_enter Tryd.func101, Tryd.ntmps101
    go_wp2_with fail
    go_ret
    exact ⟨none, 0, rfl, ⟨by simp [rowA], .inl ⟨rfl, rfl⟩⟩, Below.refl _ _⟩
  | some ad =>
    obtain ⟨i0, hi0, hz00, hz1, hz2⟩ := info_parts inf_Tier
    have HS := hide hr
    have HL := hide (rowE_len 4 C n)
    have HA := hide (rowE_at 4 C n)
    have HO := hide (rowE_one h1)
    have HN := hide hn
    clear hr h1 hn
    have he : ∀ w : World, (binOp .eql 47 (.slice (some ad) n c) (.slice none 0 0)).run Tryd.prog w = .ok (.bool false) w := fun _ => rfl
    go_enter Tryd.func101, Tryd.ntmps101
    go_wp2_with (at_builtin; go_loud (refine wpList_append_rowS _ rfl (.tmp 5) (.tmp 6) 47 rfl w.heap.size 116 i0 (.agg #[.int .i64 0, .int .i64 0]) 2 16 Tryd.underlying47 hi0 hz00 hz1 hz2 rfl (by decide) _ 0 [] rfl (own_emptyZ rfl (Nat.le_refl _)) (some ad) n c rfl C (HS.out.below (by (repeat (first | (with_reducible first | exact Below.refl _ _ | assumption | refine Below.drew ?_) | ((with_reducible first | refine Below.alloc ?_ ?_ _ | refine Below.setCell ?_ ?_ _); rotate_left; (first | omega | (simp <;> omega))))))) (rowA (elA 4 C) n) HL.out HA.out HO.out (by have := HN.out; simp only [maxLen]; omega) (by have := HN.out; omega) (by simp) ?_); intro A1 c1 w1 ho hg hv)
    have hb := below_grown (B := w.heap.size) hg (by simp) (fun k hk => Nat.le_of_eq (Option.some.inj hk))
    simp only [List.nil_append, Nat.zero_add] at ho
    go_ret
    exact ⟨A1, c1, rfl, ho, Below.trans (by (repeat (first | (with_reducible first | exact Below.refl _ _ | assumption | refine Below.drew ?_) | ((with_reducible first | refine Below.alloc ?_ ?_ _ | refine Below.setCell ?_ ?_ _); rotate_left; (first | omega | (simp <;> omega)))))) hb⟩
theorem cl_Tier {A : Option Addr} {n : Nat} (cap : Nat) {c : Nat → Nat → Tr} {C : Nat → Nat → Value} {w : World} (hr : RowT (Old w) w 4 A n c C) (hk : RowK 4 n c) : Calls Tryd.prog 101 #[.slice A n cap] w (SlRet 4 n c w) :=
  (clo_Tier A n cap C (by have := hk.room; simp only [tby] at this; omega) w (hr.row.toS (by decide)) (fun k hkn => (hr.el hk hkn).ones)).mono fun _ _ h => clo_sl (by decide) hr hk h
theorem inf_Leg : (Tryd.prog.info? 160).map (fun i => (i.zero, i.size, i.bytes)) = some (some (.agg #[.int .i64 0, .int .i64 0, .string ⟨#[]⟩]), 3, 32) := by kernel_rfl
set_option maxHeartbeats 2000000 in
theorem clo_Leg (A : Option Addr) (n c : Nat) (C : Nat → Nat → Value) (hn : n * 32 ≤ 140737488351232) (w : World) (hr : RowS w A n 3 C) (h1 : ∀ k, k < n → (elA 10 C k).all (·.oneCell') = true) :
    Calls Tryd.prog 103 #[.slice A n c] w (CloRet 160 10 n C w) := by
  cases A with
  | none =>
    have h0 : n = 0 := by
      rcases Nat.eq_zero_or_pos n with h | h
      · exact h
      · obtain ⟨_, _, e, _⟩ := hr h; cases e
    subst h0
    have he : ∀ w : World, (binOp .eql 69 (.slice none 0 c) (.slice none 0 0)).run Tryd.prog w = .ok (.bool true) w := fun _ => rfl
    go_enter Tryd.func103, Tryd.ntmps103
    go_wp2_with fail
    go_ret
    exact ⟨none, 0, rfl, ⟨by simp [rowA], .inl ⟨rfl, rfl⟩⟩, Below.refl _ _⟩
  | some ad =>
    obtain ⟨i0, hi0, hz00, hz1, hz2⟩ := info_parts inf_Leg
    have HS := hide hr
    have HL := hide (rowE_len 10 C n)
    have HA := hide (rowE_at 10 C n)
    have HO := hide (rowE_one h1)
    have HN := hide hn
    clear hr h1 hn
    have he : ∀ w : World, (binOp .eql 69 (.slice (some ad) n c) (.slice none 0 0)).run Tryd.prog w = .ok (.bool false) w := fun _ => rfl
    go_enter Tryd.func103, Tryd.ntmps103
    go_wp2_with (at_builtin; go_loud (refine wpList_append_rowS _ rfl (.tmp 5) (.tmp 6) 69 rfl w.heap.size 160 i0 (.agg #[.int .i64 0, .int .i64 0, .string ⟨#[]⟩]) 3 32 Tryd.underlying69 hi0 hz00 hz1 hz2 rfl (by decide) _ 0 [] rfl (own_emptyZ rfl (Nat.le_refl _)) (some ad) n c rfl C (HS.out.below (by (repeat (first | (with_reducible first | exact Below.refl _ _ | assumption | refine Below.drew ?_) | ((with_reducible first | refine Below.alloc ?_ ?_ _ | refine Below.setCell ?_ ?_ _); rotate_left; (first | omega | (simp <;> omega))))))) (rowA (elA 10 C) n) HL.out HA.out HO.out (by have := HN.out; simp only [maxLen]; omega) (by have := HN.out; omega) (by simp) ?_); intro A1 c1 w1 ho hg hv)
    have hb := below_grown (B := w.heap.size) hg (by simp) (fun k hk => Nat.le_of_eq (Option.some.inj hk))
    simp only [List.nil_append, Nat.zero_add] at ho
    go_ret
    exact ⟨A1, c1, rfl, ho, Below.trans (by (repeat (first | (with_reducible first | exact Below.refl _ _ | assumption | refine Below.drew ?_) | ((with_reducible first | refine Below.alloc ?_ ?_ _ | refine Below.setCell ?_ ?_ _); rotate_left; (first | omega | (simp <;> omega)))))) hb⟩
theorem cl_Leg {A : Option Addr} {n : Nat} (cap : Nat) {c : Nat → Nat → Tr} {C : Nat → Nat → Value} {w : World} (hr : RowT (Old w) w 10 A n c C) (hk : RowK 10 n c) : Calls Tryd.prog 103 #[.slice A n cap] w (SlRet 10 n c w) :=
  (clo_Leg A n cap C (by have := hk.room; simp only [tby] at this; omega) w (hr.row.toS (by decide)) (fun k hkn => (hr.el hk hkn).ones)).mono fun _ _ h => clo_sl (by decide) hr hk h
end Go.Proofs.YtdjhkhadjmndoaaDoor
