/- Texts laid together: StP StH SwL SwD SwE. -/
import Derived.Test.YtpghciiifnjimaaGreatDoorXStO
import Derived.Test.YtpghciiifnjimaaGreatDoorXTvC
import Derived.Test.YtpghciiifnjimaaGreatDoorXTxW
import Derived.Test.YtpghciiifnjimaaGreatDoorXTpU
import Derived.Test.YtpghciiifnjimaaGreatDoorXStI
import Derived.Test.YtpghciiifnjimaaGreatDoorXNuA
import Derived.Test.YtpghciiifnjimaaGreatDoorXTrM
import Derived.Test.YtpghciiifnjimaaGreatDoorXRowM
import Derived.Laws.OwnMore
import Derived.Test.YtpghciiifnjimaaGreatDoorXK0
namespace Go.Proofs.YtpghciiifnjimaaGreatDoor
set_option maxRecDepth 4000
set_option linter.unusedSimpArgs false
set_option linter.unusedVariables false
open Go.RowKit
def Lv1 (w : World) (e : Ending) (w' : World) : Prop := ∃ A c, e = .returned (.tuple #[.agg #[.int .i64 1000, .int .i64 3, .int .i64 6, .int .i64 9, .int .i64 70, .int .i64 50, .slice A 1 c], .int .i64 0]) ∧ RowPos w' A 1 (atP smS.ls) ∧ Below w.heap.size w w'
theorem lv_1 {C : Array Value} {aA jA : Option Addr} {b1 b2 : Nat} (hC : Bks C aA 1 1 jA 2 2) (w : World) (hr : RowAcc w aA 1 smA) (hj : Jrn w jA 2 (smE b1 b2)) :
    Calls Tryz.prog 7 #[.agg C, .int .i64 1000, .int .i64 3, .int .i64 6, .int .i64 9] w (Lv1 w) := by
  have h := make_any C aA 1 1 jA 2 2 hC smA (smE b1 b2) 1000 3 6 9 (by decide) (by decide) w hr hj
  rw [sm_has, (sm_make b1 b2).1, (sm_make b1 b2).2] at h
  exact h
def Lv2 (w : World) (e : Ending) (w' : World) : Prop := ∃ A c, e = .returned (.tuple #[.agg #[.int .i64 1000, .int .i64 2, .int .i64 0, .int .i64 5, .int .i64 0, .int .i64 70, .slice A 1 c], .int .i64 0]) ∧ Below w.heap.size w w'
theorem lv_2 {C : Array Value} {aA jA : Option Addr} {b1 b2 : Nat} (hC : Bks C aA 1 1 jA 2 2) (w : World) (hr : RowAcc w aA 1 smA) (hj : Jrn w jA 2 (smE b1 b2)) :
    Calls Tryz.prog 7 #[.agg C, .int .i64 1000, .int .i64 2, .int .i64 0, .int .i64 5] w (Lv2 w) := by
  have h := make_any C aA 1 1 jA 2 2 hC smA (smE b1 b2) 1000 2 0 5 (by decide) (by decide) w hr hj
  rw [sm_has, (sm_make2 b1 b2).1, (sm_make2 b1 b2).2] at h
  exact h.mono fun e w' ⟨A, c, h1, _, h2⟩ => ⟨A, c, h1, h2⟩
def Lv3 (w : World) (e : Ending) (w' : World) : Prop := ∃ A c, e = .returned (.tuple #[.agg #[.int .i64 0, .int .i64 0, .int .i64 0, .int .i64 0, .int .i64 0, .int .i64 0, .slice A 0 c], .int .i64 11]) ∧ Below w.heap.size w w'
theorem lv_3 {C : Array Value} {aA jA : Option Addr} {b1 b2 : Nat} (hC : Bks C aA 1 1 jA 2 2) (w : World) (hr : RowAcc w aA 1 smA) (hj : Jrn w jA 2 (smE b1 b2)) :
    Calls Tryz.prog 7 #[.agg C, .int .i64 1001, .int .i64 3, .int .i64 6, .int .i64 9] w (Lv3 w) := by
  have h := make_any C aA 1 1 jA 2 2 hC smA (smE b1 b2) 1001 3 6 9 (by decide) (by decide) w hr hj
  rw [sm_hasnt, (sm_make3 b1 b2).1, (sm_make3 b1 b2).2] at h
  exact h.mono fun e w' ⟨A, c, h1, _, h2⟩ => ⟨A, c, h1, h2⟩
theorem lvs_text (A : Option Addr) (c : Nat) (w : World) (hr : RowPos w A 1 (atP smS.ls)) (ht : Tab w) :
    Calls Tryz.prog 51 #[.agg #[.int .i64 1000, .int .i64 3, .int .i64 6, .int .i64 9, .int .i64 70, .int .i64 50, .slice A 1 c], .int .i64 2] w fun e w' => e = .returned (.tuple #[.string ⟨smT.toArray⟩, .int .i64 0]) ∧ Below w.heap.size w w' := by
  have h := text_any 1000 3 6 9 70 50 A 1 c (atP smS.ls) 2 (by decide) (fun k hk => by obtain rfl : k = 0 := by omega
                                                                                       decide) (by unfold IIn; decide) (by unfold IIn; decide) w hr ht
  rw [sm_text.1, sm_text.2] at h
  exact h
theorem lv_chk (A : Option Addr) (c : Nat) (w : World) (hr : RowPos w A 1 (atP smS.ls)) :
    Calls Tryz.prog 10 #[.agg #[.int .i64 1000, .int .i64 3, .int .i64 6, .int .i64 9, .int .i64 70, .int .i64 50, .slice A 1 c]] w fun e w' => e = .returned (.int .i64 0) ∧ Below w.heap.size w w' := by
  have h := check_any 1000 3 6 9 70 50 A 1 c (atP smS.ls) (by decide) w hr
  rw [sm_chk] at h
  exact h
theorem lv_fol (A B : Option Addr) (c d : Nat) (w : World) :
    Calls Tryz.prog 9 #[.agg #[.int .i64 1000, .int .i64 2, .int .i64 0, .int .i64 5, .int .i64 0, .int .i64 70, .slice B 1 d], .agg #[.int .i64 1000, .int .i64 3, .int .i64 6, .int .i64 9, .int .i64 70, .int .i64 50, .slice A 1 c]] w fun e w' => e = .returned (.bool true) ∧ Below w.heap.size w w' := by
  have h := follows_any 1000 2 0 5 0 70 1000 3 6 9 70 50 B A 1 d 1 c (by unfold IIn; decide) (by unfold IIn; decide) (by unfold IIn; decide) (by unfold IIn; decide) w
  rw [sm_fol] at h
  exact h
theorem lv_row {w : World} {b : Nat} {t : TypeId} (h : w.heap[b]? = some (.cells #[.int .i64 2, .int .i64 6, .int .i64 (-20), .string ⟨#[114, 101, 110, 116]⟩] t (0, 0))) : RowPos w (some ⟨b, 0, none⟩) 1 (atP smS.ls) :=
  rowS_of h fun k j hk hj => by
    match k, hk, j, hj with
    | 0, _, 0, _ | 0, _, 1, _ | 0, _, 2, _ | 0, _, 3, _ => rfl
theorem lv_same (A : Option Addr) (c b d : Nat) (t : TypeId) (w : World) (hr : RowPos w A 1 (atP smS.ls)) (h : w.heap[b]? = some (.cells #[.int .i64 2, .int .i64 6, .int .i64 (-20), .string ⟨#[114, 101, 110, 116]⟩] t (0, 0))) :
    Calls Tryz.prog 52 #[.agg #[.int .i64 1000, .int .i64 3, .int .i64 6, .int .i64 9, .int .i64 70, .int .i64 50, .slice A 1 c], .agg #[.int .i64 1000, .int .i64 3, .int .i64 6, .int .i64 9, .int .i64 70, .int .i64 50, .slice (some ⟨b, 0, none⟩) 1 d]] w fun e w' => e = .returned (.bool true) ∧ Below w.heap.size w w' :=
  same_eq 1000 3 6 9 70 50 A (some ⟨b, 0, none⟩) 1 c d (atP smS.ls) (by decide) w hr (lv_row h)
set_option maxRecDepth 4000 in
set_option maxHeartbeats 4000000 in
theorem lives_any (w : World) (ht : Tab w) : Calls Tryz.prog 20 #[] w fun e w' => e = .returned (.bool true) ∧ Below w.heap.size w w' := by
  have HT := hide ht
  clear ht
  go_enter Tryz.func20, Tryz.ntmps20
  go_wp2_with fail
  refine (sample_any _).mono ?_
  rintro e w1 ⟨C1, aA1, jA1, b11, b12, rfl, hC, hA, hJ, hb⟩
  have H1 := hide (And.intro hC (And.intro hA hJ))
  have B1 := hide hb
  clear hC hA hJ hb
  go_wp2_with fail
  refine (lv_1 H1.out.1 _ H1.out.2.1 H1.out.2.2).mono ?_
  rintro e w2 ⟨A, c, rfl, hA, hb⟩
  have HA := hide hA
  have B2 := hide (B1.out.trans (hb.mono B1.out.size))
  have z2 := B2.out.size
  clear hA hb H1 B1
  go_wp2_with fail
  refine (sample_any _).mono ?_
  rintro e w3 ⟨C1, aA1, jA1, b11, b12, rfl, hC, hA, hJ, hb⟩
  have H1 := hide (And.intro hC (And.intro hA hJ))
  clear hC hA hJ
  have q1B : Below w2.heap.size w2 w3 := qB hb
  have q1z := hb.size
  try simp at q1z
  have q1t : w2.heap.size ≤ w3.heap.size := (by omega)
  obtain ⟨q1s0, q1n0_0, q1n0_1, q1n0_2⟩ := kB w3.heap.size w2.heap.size
  obtain ⟨q1c0_0, q1c0_1, q1c0_2, q1c0_3, q1c0_4, q1c0_5, q1c0_6, q1f0⟩ := kC7 hb w2.heap.size
  simp [go_sem, *] at q1c0_0 q1c0_1 q1c0_2 q1c0_3 q1c0_4 q1c0_5 q1c0_6 q1f0
  have q1o := belO q1B
  clear hb
  have B3 := hide q1B
  go_wp2_with fail
  refine (lv_2 H1.out.1 _ H1.out.2.1 H1.out.2.2).mono ?_
  rintro e w4 ⟨Ap, cp, rfl, hb⟩
  have q2B : Below w3.heap.size w3 w4 := qB hb
  have q2z := hb.size
  try simp at q2z
  have q2t : w3.heap.size ≤ w4.heap.size := (by omega)
  obtain ⟨q2s0, q2n0_0, q2n0_1, q2n0_2⟩ := kB w4.heap.size w2.heap.size
  obtain ⟨q2c0_0, q2c0_1, q2c0_2, q2c0_3, q2c0_4, q2c0_5, q2c0_6, q2f0⟩ := kC7 hb w2.heap.size
  simp [go_sem, *] at q2c0_0 q2c0_1 q2c0_2 q2c0_3 q2c0_4 q2c0_5 q2c0_6 q2f0
  have q2o := belO q2B
  clear hb q1o q1f0 q1c0_6 q1c0_5 q1c0_4 q1c0_3 q1c0_2 q1c0_1 q1c0_0 q1s0 q1z q1B
  have B4 := hide (B3.out.trans (q2B.mono (by omega)))
  clear H1 B3
  go_wp2_with fail
  refine (lvs_text A c _ (HA.out.below (B4.out.trans belT)) (HT.out.below (B2.out.trans (Below.trans (B4.out.mono B2.out.size) belT)))).mono ?_
  rintro e w5 ⟨rfl, hb⟩
  have q3B : Below w4.heap.size w4 w5 := qB hb
  have q3z := hb.size
  try simp at q3z
  have q3t : w4.heap.size ≤ w5.heap.size := (by omega)
  obtain ⟨q3s0, q3n0_0, q3n0_1, q3n0_2⟩ := kB w5.heap.size w2.heap.size
  obtain ⟨q3c0_0, q3c0_1, q3c0_2, q3c0_3, q3c0_4, q3c0_5, q3c0_6, q3f0⟩ := kC7 hb w2.heap.size
  simp [go_sem, *] at q3c0_0 q3c0_1 q3c0_2 q3c0_3 q3c0_4 q3c0_5 q3c0_6 q3f0
  obtain ⟨q3s1, q3n1_0, q3n1_1, q3n1_2⟩ := kB w5.heap.size w4.heap.size
  obtain ⟨q3c1_0, q3c1_1, q3c1_2, q3c1_3, q3c1_4, q3c1_5, q3c1_6, q3f1⟩ := kC7 hb w4.heap.size
  simp [go_sem, *] at q3c1_0 q3c1_1 q3c1_2 q3c1_3 q3c1_4 q3c1_5 q3c1_6 q3f1
  have q3o := belO q3B
  clear hb q2o q2f0 q2c0_6 q2c0_5 q2c0_4 q2c0_3 q2c0_2 q2c0_1 q2c0_0 q2s0 q2z q2B
  have B5 := hide (B4.out.trans (q3B.mono (by omega)))
  go_wp2_with fail
  refine (sample_any _).mono ?_
  rintro e w6 ⟨C1, aA1, jA1, b11, b12, rfl, hC, hA, hJ, hb⟩
  have H1 := hide (And.intro hC (And.intro hA hJ))
  clear hC hA hJ
  have q4B : Below w5.heap.size w5 w6 := qB hb
  have q4z := hb.size
  try simp at q4z
  have q4t : w5.heap.size ≤ w6.heap.size := (by omega)
  obtain ⟨q4s0, q4n0_0, q4n0_1, q4n0_2⟩ := kB w6.heap.size w2.heap.size
  obtain ⟨q4c0_0, q4c0_1, q4c0_2, q4c0_3, q4c0_4, q4c0_5, q4c0_6, q4f0⟩ := kC7 hb w2.heap.size
  simp [go_sem, *] at q4c0_0 q4c0_1 q4c0_2 q4c0_3 q4c0_4 q4c0_5 q4c0_6 q4f0
  obtain ⟨q4s1, q4n1_0, q4n1_1, q4n1_2⟩ := kB w6.heap.size w4.heap.size
  obtain ⟨q4c1_0, q4c1_1, q4c1_2, q4c1_3, q4c1_4, q4c1_5, q4c1_6, q4f1⟩ := kC7 hb w4.heap.size
  simp [go_sem, *] at q4c1_0 q4c1_1 q4c1_2 q4c1_3 q4c1_4 q4c1_5 q4c1_6 q4f1
  have q4o := belO q4B
  clear hb q3o q3f1 q3c1_6 q3c1_5 q3c1_4 q3c1_3 q3c1_2 q3c1_1 q3c1_0 q3s1 q3f0 q3c0_6 q3c0_5 q3c0_4 q3c0_3 q3c0_2 q3c0_1 q3c0_0 q3s0 q3z q3B
  have B6 := hide (B5.out.trans (q4B.mono (by omega)))
  go_wp2_with fail
  refine (lv_3 H1.out.1 _ H1.out.2.1 H1.out.2.2).mono ?_
  rintro e w7 ⟨Aq, cq, rfl, hb⟩
  have q5B : Below w6.heap.size w6 w7 := qB hb
  have q5z := hb.size
  try simp at q5z
  have q5t : w6.heap.size ≤ w7.heap.size := (by omega)
  obtain ⟨q5s0, q5n0_0, q5n0_1, q5n0_2⟩ := kB w7.heap.size w2.heap.size
  obtain ⟨q5c0_0, q5c0_1, q5c0_2, q5c0_3, q5c0_4, q5c0_5, q5c0_6, q5f0⟩ := kC7 hb w2.heap.size
  simp [go_sem, *] at q5c0_0 q5c0_1 q5c0_2 q5c0_3 q5c0_4 q5c0_5 q5c0_6 q5f0
  obtain ⟨q5s1, q5n1_0, q5n1_1, q5n1_2⟩ := kB w7.heap.size w4.heap.size
  obtain ⟨q5c1_0, q5c1_1, q5c1_2, q5c1_3, q5c1_4, q5c1_5, q5c1_6, q5f1⟩ := kC7 hb w4.heap.size
  simp [go_sem, *] at q5c1_0 q5c1_1 q5c1_2 q5c1_3 q5c1_4 q5c1_5 q5c1_6 q5f1
  have q5o := belO q5B
  clear hb q4o q4f1 q4c1_6 q4c1_5 q4c1_4 q4c1_3 q4c1_2 q4c1_1 q4c1_0 q4s1 q4f0 q4c0_6 q4c0_5 q4c0_4 q4c0_3 q4c0_2 q4c0_1 q4c0_0 q4s0 q4z q4B
  have B7 := hide (B6.out.trans (q5B.mono (by omega)))
  go_wp2_with fail
  refine (lv_same A c _ 1 68 _ (HA.out.below (B7.out.trans belT)) (blk_new (by simp))).mono ?_
  rintro e w8 ⟨rfl, hb⟩
  have q6B : Below w7.heap.size w7 w8 := qB hb
  have q6z := hb.size
  try simp at q6z
  have q6t : w7.heap.size ≤ w8.heap.size := (by omega)
  obtain ⟨q6s0, q6n0_0, q6n0_1, q6n0_2⟩ := kB w8.heap.size w2.heap.size
  obtain ⟨q6c0_0, q6c0_1, q6c0_2, q6c0_3, q6c0_4, q6c0_5, q6c0_6, q6f0⟩ := kC7 hb w2.heap.size
  simp [go_sem, *] at q6c0_0 q6c0_1 q6c0_2 q6c0_3 q6c0_4 q6c0_5 q6c0_6 q6f0
  obtain ⟨q6s1, q6n1_0, q6n1_1, q6n1_2⟩ := kB w8.heap.size w4.heap.size
  obtain ⟨q6c1_0, q6c1_1, q6c1_2, q6c1_3, q6c1_4, q6c1_5, q6c1_6, q6f1⟩ := kC7 hb w4.heap.size
  simp [go_sem, *] at q6c1_0 q6c1_1 q6c1_2 q6c1_3 q6c1_4 q6c1_5 q6c1_6 q6f1
  have q6o := belO q6B
  clear hb q5o q5f1 q5c1_6 q5c1_5 q5c1_4 q5c1_3 q5c1_2 q5c1_1 q5c1_0 q5s1 q5f0 q5c0_6 q5c0_5 q5c0_4 q5c0_3 q5c0_2 q5c0_1 q5c0_0 q5s0 q5z q5B
  have B8 := hide (B7.out.trans (q6B.mono (by omega)))
  go_wp2_with fail
  refine (lv_fol A Ap c cp _).mono ?_
  rintro e w9 ⟨rfl, hb⟩
  have q7B : Below w8.heap.size w8 w9 := qB hb
  have q7z := hb.size
  try simp at q7z
  have q7t : w8.heap.size ≤ w9.heap.size := (by omega)
  obtain ⟨q7s0, q7n0_0, q7n0_1, q7n0_2⟩ := kB w9.heap.size w2.heap.size
  obtain ⟨q7c0_0, q7c0_1, q7c0_2, q7c0_3, q7c0_4, q7c0_5, q7c0_6, q7f0⟩ := kC7 hb w2.heap.size
  simp [go_sem, *] at q7c0_0 q7c0_1 q7c0_2 q7c0_3 q7c0_4 q7c0_5 q7c0_6 q7f0
  obtain ⟨q7s1, q7n1_0, q7n1_1, q7n1_2⟩ := kB w9.heap.size w4.heap.size
  obtain ⟨q7c1_0, q7c1_1, q7c1_2, q7c1_3, q7c1_4, q7c1_5, q7c1_6, q7f1⟩ := kC7 hb w4.heap.size
  simp [go_sem, *] at q7c1_0 q7c1_1 q7c1_2 q7c1_3 q7c1_4 q7c1_5 q7c1_6 q7f1
  have q7o := belO q7B
  clear hb q6o q6f1 q6c1_6 q6c1_5 q6c1_4 q6c1_3 q6c1_2 q6c1_1 q6c1_0 q6s1 q6f0 q6c0_6 q6c0_5 q6c0_4 q6c0_3 q6c0_2 q6c0_1 q6c0_0 q6s0 q6z q6B
  have B9 := hide (B8.out.trans (q7B.mono (by omega)))
  go_wp2_with fail
  refine (lv_chk A c _ (HA.out.below (B9.out.trans belT))).mono ?_
  rintro e w10 ⟨rfl, hb⟩
  go_wp2_with fail
  go_ret
  exact ⟨rfl, B2.out.trans ((B9.out.trans (hb.mono B9.out.size)).mono z2)⟩
end Go.Proofs.YtpghciiifnjimaaGreatDoor
namespace Go.Proofs.YtpghciiifnjimaaGreatDoor
set_option maxRecDepth 4000
set_option linter.unusedSimpArgs false
set_option linter.unusedVariables false
open Go.RowKit
/-- The box of a statement: its six numbers. -/
structure BoxN (g : Nat) (x0 x1 x2 x3 x4 x5 : Int) (w : World) : Prop where
  lt : g < w.heap.size
  fr : ∀ o, w.frozen? ⟨g, o, none⟩ = false
  c0 : w.cell? ⟨g, 0, none⟩ = some (.int .i64 x0)
  c1 : w.cell? ⟨g, 1, none⟩ = some (.int .i64 x1)
  c2 : w.cell? ⟨g, 2, none⟩ = some (.int .i64 x2)
  c3 : w.cell? ⟨g, 3, none⟩ = some (.int .i64 x3)
  c4 : w.cell? ⟨g, 4, none⟩ = some (.int .i64 x4)
  c5 : w.cell? ⟨g, 5, none⟩ = some (.int .i64 x5)
theorem BoxN.below {g : Nat} {x0 x1 x2 x3 x4 x5 : Int} {w w' : World} (h : BoxN g x0 x1 x2 x3 x4 x5 w) {B : Nat} (hb : Below B w w') (hg : g < B) : BoxN g x0 x1 x2 x3 x4 x5 w' :=
  ⟨Nat.lt_of_lt_of_le h.lt hb.size, fun o => (hb.frozen (p := ⟨g, o, none⟩) hg).trans (h.fr o), (hb.cell (p := ⟨g, 0, none⟩) hg).trans h.c0, (hb.cell (p := ⟨g, 1, none⟩) hg).trans h.c1, (hb.cell (p := ⟨g, 2, none⟩) hg).trans h.c2, (hb.cell (p := ⟨g, 3, none⟩) hg).trans h.c3, (hb.cell (p := ⟨g, 4, none⟩) hg).trans h.c4, (hb.cell (p := ⟨g, 5, none⟩) hg).trans h.c5⟩
theorem BoxN.set {g : Nat} {x0 x1 x2 x3 x4 x5 : Int} {w : World} (h : BoxN g x0 x1 x2 x3 x4 x5 w) (v : Value) : BoxN g x0 x1 x2 x3 x4 x5 (w.setCell ⟨g, 6, none⟩ v) := by
  refine ⟨by simpa using h.lt, fun o => by rw [World.frozen?_setCell]; exact h.fr o, ?_, ?_, ?_, ?_, ?_, ?_⟩
  · rw [World.cell?_setCell_other _ _ _ _ (by simp)]; exact h.c0
  · rw [World.cell?_setCell_other _ _ _ _ (by simp)]; exact h.c1
  · rw [World.cell?_setCell_other _ _ _ _ (by simp)]; exact h.c2
  · rw [World.cell?_setCell_other _ _ _ _ (by simp)]; exact h.c3
  · rw [World.cell?_setCell_other _ _ _ _ (by simp)]; exact h.c4
  · rw [World.cell?_setCell_other _ _ _ _ (by simp)]; exact h.c5
end Go.Proofs.YtpghciiifnjimaaGreatDoor
namespace Go.Proofs.YtpghciiifnjimaaGreatDoor
set_option maxRecDepth 4000
set_option linter.unusedSimpArgs false
set_option linter.unusedVariables false
open Go.RowKit
theorem mvs_no {legs : Nat → LLeg} {id : Int} : ∀ n, mvb legs id n = false → mvs legs id n = 0
  | 0, _ => rfl
  | n + 1, h => by
    unfold mvb at h
    rw [Bool.or_eq_false_iff] at h
    unfold mvs
    rw [if_neg (by simpa using h.2)]
    exact mvs_no n h.1
theorem mvE_no {e : LEnt} {id : Int} (h : tchE e id = false) : mvE e id = 0 := mvs_no _ h
/-! ### Sums -/
theorem wrap64_add (a b : Int) : wrap64 (wrap64 a + b) = wrap64 (a + b) := by unfold wrap64; omega
def usum (E : Nat → LEnt) (id : Int) (p : LEnt → Bool) : Nat → Int
  | 0 => 0
  | k + 1 => usum E id p k + (if p (E k) = true then mvE (E k) id else 0)
theorem sumE_w (E : Nat → LEnt) (id : Int) (p : LEnt → Bool) : ∀ n, sumE E id p n = wrap64 (usum E id p n)
  | 0 => (wrap64_id (show IIn 0 by unfold IIn; decide)).symm
  | n + 1 => by
    have ih := sumE_w E id p n
    unfold sumE usum
    split
    · rw [ih, wrap64_add]
    · rw [ih, Int.add_zero]
def inDy (f t : Int) (e : LEnt) : Bool := decide (f ≤ e.bk ∧ e.bk ≤ t)
theorem usum_split (E : Nat → LEnt) (id : Int) {f t : Int} (hft : f ≤ t) : ∀ n, usum E id (clB t) n = usum E id (opB f) n + usum E id (inDy f t) n
  | 0 => rfl
  | n + 1 => by
    have ih := usum_split E id hft n
    unfold usum
    rw [ih]
    unfold clB opB inDy
    by_cases h1 : (E n).bk < f
    · rw [if_pos (by simp; omega), if_pos (by simpa using h1), if_neg (by simp; omega)]; omega
    · by_cases h2 : (E n).bk ≤ t
      · rw [if_pos (by simpa using h2), if_neg (by simpa using h1), if_pos (by simp; omega)]; omega
      · rw [if_neg (by simpa using h2), if_neg (by simpa using h1), if_neg (by simp; omega)]; omega
theorem atP_left {l m : List LPos} {k : Nat} (h : k < l.length) : atP (l ++ m) k = atP l k := by rw [atP_at h, atP_at (by simp; omega), List.getElem_append_left h]
theorem atP_last (l : List LPos) (e : LPos) : atP (l ++ [e]) l.length = e := by rw [atP_at (by simp)]; simp
theorem sumP_congr {P Q : Nat → LPos} (o : Int) : ∀ n, (∀ k, k < n → P k = Q k) → sumP P o n = sumP Q o n
  | 0, _ => rfl
  | n + 1, h => by
    have ih := sumP_congr (P := P) (Q := Q) o n (fun k hk => h k (by omega))
    unfold sumP
    rw [ih, h n (by omega)]
theorem sumP_snoc (l : List LPos) (p : LPos) (o : Int) : sumP (atP (l ++ [p])) o (l ++ [p]).length = wrap64 (sumP (atP l) o l.length + p.am) := by
  rw [List.length_append, List.length_singleton]
  show wrap64 (sumP (atP (l ++ [p])) o l.length + (atP (l ++ [p]) l.length).am) = _
  rw [atP_last, sumP_congr (P := atP (l ++ [p])) (Q := atP l) o l.length (fun k hk => atP_left hk)]
theorem sumP_ln (E : Nat → LEnt) (id f t : Int) {o : Int} (ho : IIn o) : ∀ n, sumP (atP (lnL E id f t n)) o (lnL E id f t n).length = wrap64 (o + usum E id (inDy f t) n)
  | 0 => by
    show o = wrap64 (o + 0)
    rw [Int.add_zero, wrap64_id ho]
  | n + 1 => by
    have ih := sumP_ln E id f t ho n
    unfold usum
    by_cases h : f ≤ (E n).bk ∧ (E n).bk ≤ t
    · rw [if_pos (by unfold inDy; simpa using h)]
      cases ht : tchE (E n) id with
      | true =>
        rw [lnL_yes h.1 h.2 ht, sumP_snoc, ih, wrap64_add, Int.add_assoc]
      | false => rw [lnL_un ht, ih, mvE_no ht, Int.add_zero]
    · rw [if_neg (by unfold inDy; simpa using h), lnL_no (fun hh => h ⟨hh.1, hh.2.1⟩), ih, Int.add_zero]
theorem sum_closes (E : Nat → LEnt) (id : Int) {f t : Int} (hft : f ≤ t) (n : Nat) : sumP (atP (lnL E id f t n)) (opS E id f n) (lnL E id f t n).length = clS E id t n := by
  rw [sumP_ln E id f t (show IIn (opS E id f n) from sumE_bd E id _ n)]
  unfold opS clS
  rw [sumE_w, sumE_w, wrap64_add, usum_split E id hft]
/-! ### Lines -/
theorem lnL_mem {E : Nat → LEnt} {id f t : Int} (hid : ∀ k, (E k).id = (k : Int) + 1) : ∀ n p, p ∈ lnL E id f t n → 1 ≤ p.en ∧ p.en ≤ n ∧ f ≤ p.dy ∧ p.dy ≤ t
  | 0, p, h => by cases h
  | n + 1, p, h => by
    unfold lnL at h
    rcases List.mem_append.1 h with h | h
    · have := lnL_mem hid n p h
      omega
    · split at h
      · rename_i hc
        simp only [List.mem_singleton] at h
        subst h
        have := hid n
        dsimp only
        omega
      · cases h
theorem lnL_pair {E : Nat → LEnt} {id f t : Int} (hid : ∀ k, (E k).id = (k : Int) + 1) : ∀ n, (lnL E id f t n).Pairwise (fun p q => p.en < q.en)
  | 0 => List.Pairwise.nil
  | n + 1 => by
    unfold lnL
    refine List.pairwise_append.2 ⟨lnL_pair hid n, ?_, ?_⟩
    · split <;> simp
    · intro p hp q hq
      have h1 := lnL_mem hid n p hp
      split at hq
      · simp only [List.mem_singleton] at hq
        subst hq
        have := hid n
        dsimp only
        omega
      · cases hq
theorem ln_good {E : Nat → LEnt} {id f t : Int} (hid : ∀ k, (E k).id = (k : Int) + 1) (n k : Nat) (hk : k < (lnL E id f t n).length) : goodP (atP (lnL E id f t n)) f t k := by
  have hm := lnL_mem hid n _ (List.getElem_mem hk)
  have hp := List.pairwise_iff_getElem.1 (lnL_pair (id := id) (f := f) (t := t) hid n)
  unfold goodP
  rw [atP_at hk]
  refine ⟨?_, hm.2.2.1, hm.2.2.2⟩
  cases k with
  | zero => show (0 : Int) < _; omega
  | succ j =>
    show (atP (lnL E id f t n) j).en < _
    rw [atP_at (by omega)]
    exact hp j (j + 1) (by omega) hk (by omega)
/-- A statement that Make makes is accepted. -/
theorem mk_chk {E : Nat → LEnt} {id no f t : Int} (hid : ∀ k, (E k).id = (k : Int) + 1) (n : Nat) (h1 : 1000 ≤ id) (hm : mkE true no f t = 0) :
    chkS id no f t (opS E id f n) (clS E id t n) (atP (lnL E id f t n)) (lnL E id f t n).length = 0 := by
  unfold mkE at hm
  simp only [Bool.true_eq_false, if_false] at hm
  split at hm
  · cases hm
  · rename_i h2
    split at hm
    · cases hm
    · rename_i h3
      split at hm
      · cases hm
      · rename_i h4
        split at hm
        · cases hm
        · rename_i h5
          unfold chkS
          rw [if_neg (by omega), if_neg h2, if_neg h3, if_neg h4, if_neg h5]
          exact linE_ok (fun k hk => ln_good hid n k hk) (sum_closes E id (by omega) n)
theorem op_cl (E : Nat → LEnt) (id m : Int) (n : Nat) : opS E id (m + 1) n = clS E id m n := by
  have : opB (m + 1) = clB m := by funext e; unfold opB clB; exact decide_eq_decide.2 (by omega)
  unfold opS clS
  rw [this]
theorem sorted_le {E : Nat → LEnt} : ∀ {n : Nat}, (∀ k, k + 1 < n → (E k).bk ≤ (E (k + 1)).bk) → ∀ {i j : Nat}, i ≤ j → j < n → (E i).bk ≤ (E j).bk := by
  intro n h i j hij hj
  induction j with
  | zero =>
    obtain rfl : i = 0 := by omega
    exact Int.le_refl _
  | succ j ih =>
    rcases Nat.lt_or_ge i (j + 1) with h1 | h1
    · exact Int.le_trans (ih (by omega) (by omega)) (h j hj)
    · obtain rfl : i = j + 1 := by omega
      exact Int.le_refl _
theorem lnL_nil {E : Nat → LEnt} {id f t : Int} : ∀ n, (∀ k, k < n → (E k).bk < f) → lnL E id f t n = []
  | 0, _ => rfl
  | n + 1, h => by
    rw [lnL_lt (h n (by omega))]
    exact lnL_nil n (fun k hk => h k (by omega))
theorem lnL_parts {E : Nat → LEnt} {id f m t : Int} (hfm : f ≤ m) (hmt : m < t) : ∀ n, (∀ k, k + 1 < n → (E k).bk ≤ (E (k + 1)).bk) → lnL E id f t n = lnL E id f m n ++ lnL E id (m + 1) t n
  | 0, _ => rfl
  | n + 1, h => by
    have ih := lnL_parts (E := E) (id := id) hfm hmt n (fun k hk => h k (by omega))
    have hs := fun k (hk : k < n) => sorted_le h (i := k) (j := n) (by omega) (by omega)
    cases ht : tchE (E n) id with
    | false => rw [lnL_un ht, lnL_un ht, lnL_un ht, ih]
    | true =>
      by_cases h1 : (E n).bk < f
      · rw [lnL_lt h1, lnL_lt h1, lnL_lt (by omega), ih]
      · by_cases h2 : (E n).bk ≤ m
        · rw [lnL_yes (by omega) (by omega) ht, lnL_yes (by omega) h2 ht, lnL_lt (f := m + 1) (by omega), ih, lnL_nil (f := m + 1) n (fun k hk => by have := hs k hk; omega), List.append_nil, List.append_nil]
        · by_cases h3 : (E n).bk ≤ t
          · rw [lnL_yes (by omega) h3 ht, lnL_gt (by omega), lnL_yes (f := m + 1) (by omega) h3 ht, ih, List.append_assoc]
          · rw [lnL_gt (by omega), lnL_gt (by omega), lnL_gt (by omega), ih]
/-! ### The errors -/
theorem mk_has {has : Bool} {no f t : Int} (h : mkE has no f t = 0) : has = true := by
  cases has with
  | true => rfl
  | false => cases h
/-- A row of entries under another name. -/
theorem RowEnt.congr {w : World} {A : Option Addr} {n : Nat} {E F : Nat → LEnt} (h : RowEnt w A n E) (e : ∀ k, k < n → E k = F k) : RowEnt w A n F :=
  ⟨RowS.congr h.1 (fun k j hk _ => by rw [e k hk]), fun k hk => by rw [← e k hk]; exact h.2 k hk⟩
theorem RowPos.congr {w : World} {A : Option Addr} {n : Nat} {E F : Nat → LPos} (h : RowPos w A n E) (e : ∀ k, k < n → E k = F k) : RowPos w A n F := RowS.congr h (fun k j hk _ => by rw [e k hk])
end Go.Proofs.YtpghciiifnjimaaGreatDoor
namespace Go.Proofs.YtpghciiifnjimaaGreatDoor
set_option maxRecDepth 4000
set_option linter.unusedSimpArgs false
set_option linter.unusedVariables false
open Go.RowKit
def numA (E : Nat → LEnt) (k : Nat) : LEnt := { E k with id := (k : Int) + 1 }
end Go.Proofs.YtpghciiifnjimaaGreatDoor
namespace Go.Proofs.YtpghciiifnjimaaGreatDoor
set_option maxRecDepth 4000
set_option linter.unusedSimpArgs false
set_option linter.unusedVariables false
open Go.RowKit
theorem mk_from {has : Bool} {no f t : Int} (h : mkE has no f t = 0) : 0 ≤ f ∧ f ≤ 73048 := by
  cases has with
  | false => cases h
  | true =>
    cases hv : vday f with
    | true => exact vday_iff.1 hv
    | false =>
      exfalso
      by_cases h1 : no < 1
      · rw [mkE_1 rfl f t h1] at h; cases h
      · rw [mkE_2 rfl t h1 hv] at h; cases h
theorem mk_to {has : Bool} {no f t : Int} (h : mkE has no f t = 0) : 0 ≤ t ∧ t ≤ 73048 := by
  cases has with
  | false => cases h
  | true =>
    cases hv : vday t with
    | true => exact vday_iff.1 hv
    | false =>
      exfalso
      by_cases h1 : no < 1
      · rw [mkE_1 rfl f t h1] at h; cases h
      · have hf : vday f = true := vday_iff.2 (mk_from h)
        rw [mkE_3 rfl h1 hf hv] at h; cases h
/-- A statement that Make returns, its lines by index. -/
def StR (ac no f t op cl : Int) (n : Nat) (P : Nat → LPos) (w : World) (e : Ending) (w' : World) : Prop := ∃ A c, e = .returned (.tuple #[.agg #[.int .i64 ac, .int .i64 no, .int .i64 f, .int .i64 t, .int .i64 op, .int .i64 cl, .slice A n c], .int .i64 0]) ∧ RowPos w' A n P ∧ Below w.heap.size w w'
/-- A statement that Make refuses. -/
def StE (R : Int) (w : World) (e : Ending) (w' : World) : Prop := ∃ v0 v1 v2 v3 v4 v5 A n c, e = .returned (.tuple #[.agg #[.int .i64 v0, .int .i64 v1, .int .i64 v2, .int .i64 v3, .int .i64 v4, .int .i64 v5, .slice A n c], .int .i64 R]) ∧ Below w.heap.size w w'
theorem stE_of {S : LStm} {R : Int} {w : World} {e : Ending} {w' : World} (h : StRet S R w e w') : StE R w e w' := by
  obtain ⟨A, c, h1, _, h2⟩ := h
  exact ⟨_, _, _, _, _, _, A, _, c, h1, h2⟩
/-- Two lists of lines, one behind the other. -/
def catP (P : Nat → LPos) (n : Nat) (Q : Nat → LPos) (k : Nat) : LPos := if k < n then P k else Q (k - n)
theorem atP_cat (l m : List LPos) (k : Nat) (hk : k < l.length + m.length) : atP (l ++ m) k = catP (atP l) l.length (atP m) k := by
  unfold catP
  split
  · rename_i h; exact atP_left h
  · rename_i h
    rw [atP_at (by rw [List.length_append]; exact hk), List.getElem_append_right (by omega), atP_at (by omega)]
/-- The three statements of the law, where Make accepts all. -/
structure Fol3 (C : Array Value) (aA : Option Addr) (an : Nat) (a : Nat → LAcc) (A : Option Addr) (jn : Nat) (F : Nat → LEnt) (x0 x1 x2 m x3 : Int) (O1 K1 K2 : Int) (n1 n2 : Nat) (P1 P2 : Nat → LPos) : Prop where
  m1 : ∀ w, RowAcc w aA an a → Jrn w A jn F → Calls Tryz.prog 7 #[.agg C, .int .i64 x0, .int .i64 x1, .int .i64 x2, .int .i64 m] w (StR x0 x1 x2 m O1 K1 n1 P1 w)
  m2 : ∀ w, RowAcc w aA an a → Jrn w A jn F → Calls Tryz.prog 7 #[.agg C, .int .i64 x0, .int .i64 (x1 + 1), .int .i64 (m + 1), .int .i64 x3] w (StR x0 (x1 + 1) (m + 1) x3 K1 K2 n2 P2 w)
  m3 : ∀ w, RowAcc w aA an a → Jrn w A jn F → Calls Tryz.prog 7 #[.agg C, .int .i64 x0, .int .i64 x1, .int .i64 x2, .int .i64 x3] w (StR x0 x1 x2 x3 O1 K2 (n1 + n2) (catP P1 n1 P2) w)
  k1 : chkS x0 x1 x2 m O1 K1 P1 n1 = 0
  k2 : chkS x0 (x1 + 1) (m + 1) x3 K1 K2 P2 n2 = 0
  k3 : chkS x0 x1 x2 x3 O1 K2 (catP P1 n1 P2) (n1 + n2) = 0
  le : n1 + n2 ≤ jn
theorem linE_congr {P Q : Nat → LPos} {f t op cl : Int} {n : Nat} (h : ∀ k, k < n → P k = Q k) : linE P f t op cl n = linE Q f t op cl n := by
  have hp : ∀ k, k < n → (goodP P f t k ↔ goodP Q f t k) := by
    intro k hk
    unfold goodP
    rw [h k hk]
    cases k with
    | zero => rfl
    | succ j => show (P j).en < _ ∧ _ ↔ (Q j).en < _ ∧ _; rw [h j (by omega)]
  have hs := sumP_congr op n h
  unfold linE
  rw [hs]
  by_cases c : ∀ k, k < n → goodP P f t k
  · rw [if_pos c, if_pos (fun k hk => (hp k hk).1 (c k hk))]
  · rw [if_neg c, if_neg (fun hh => c (fun k hk => (hp k hk).2 (hh k hk)))]
theorem chkS_congr {P Q : Nat → LPos} {ac no f t op cl : Int} {n : Nat} (h : ∀ k, k < n → P k = Q k) : chkS ac no f t op cl P n = chkS ac no f t op cl Q n := by
  unfold chkS; rw [linE_congr h]
theorem stR_of {ac no f t op cl : Int} {l : List LPos} {w : World} {e : Ending} {w' : World} (h : StRet ⟨ac, no, f, t, op, cl, l⟩ 0 w e w') : StR ac no f t op cl l.length (atP l) w e w' := h
theorem fol3 {C : Array Value} {aA : Option Addr} {an ac : Nat} {A : Option Addr} {jn c : Nat} (hC : Bks C aA an ac A jn c) (a : Nat → LAcc) (E : Nat → LEnt) (hn : an ≤ 1000000) (hjn : jn ≤ 1000000)
    (hs : ∀ k, k + 1 < jn → (E k).bk ≤ (E (k + 1)).bk) {x0 x1 x2 m x3 : Int} (h1 : 1000 ≤ x0) (hfm : x2 ≤ m) (hmt : m < x3)
    (e1 : mkE (hasA a x0 an) x1 x2 m = 0) (e2 : mkE (hasA a x0 an) (x1 + 1) (m + 1) x3 = 0) (e3 : mkE (hasA a x0 an) x1 x2 x3 = 0) :
    ∃ O1 K1 K2 n1 n2 P1 P2, Fol3 C aA an a A jn (numA E) x0 x1 x2 m x3 O1 K1 K2 n1 n2 P1 P2 := by
  have hh := mk_has e1
  have hid : ∀ k, (numA E k).id = (k : Int) + 1 := fun k => rfl
  have hp := lnL_parts (E := numA E) (id := x0) hfm hmt jn hs
  have hlen : (lnL (numA E) x0 x2 x3 jn).length = (lnL (numA E) x0 x2 m jn).length + (lnL (numA E) x0 (m + 1) x3 jn).length := by rw [hp, List.length_append]
  have hcat : ∀ k, k < (lnL (numA E) x0 x2 m jn).length + (lnL (numA E) x0 (m + 1) x3 jn).length → atP (lnL (numA E) x0 x2 x3 jn) k = catP (atP (lnL (numA E) x0 x2 m jn)) (lnL (numA E) x0 x2 m jn).length (atP (lnL (numA E) x0 (m + 1) x3 jn)) k := fun k hk => by
    rw [hp]; exact atP_cat _ _ k hk
  refine ⟨opS (numA E) x0 x2 jn, clS (numA E) x0 m jn, clS (numA E) x0 x3 jn, (lnL (numA E) x0 x2 m jn).length, (lnL (numA E) x0 (m + 1) x3 jn).length, atP (lnL (numA E) x0 x2 m jn), atP (lnL (numA E) x0 (m + 1) x3 jn), ?_, ?_, ?_, ?_, ?_, ?_, ?_⟩
  · intro w hr hj
    have h := make_any C aA an ac A jn c hC a (numA E) x0 x1 x2 m hn hjn w hr hj
    rw [mkS_yes e1, e1] at h
    exact h.mono fun _ _ hh => stR_of hh
  · intro w hr hj
    have h := make_any C aA an ac A jn c hC a (numA E) x0 (x1 + 1) (m + 1) x3 hn hjn w hr hj
    rw [mkS_yes e2, e2, op_cl] at h
    exact h.mono fun _ _ hh => stR_of hh
  · intro w hr hj
    have h := make_any C aA an ac A jn c hC a (numA E) x0 x1 x2 x3 hn hjn w hr hj
    rw [mkS_yes e3, e3] at h
    refine h.mono fun e w' hh => ?_
    obtain ⟨A', c', g1, g2, g3⟩ := stR_of hh
    rw [hlen] at g1 g2
    exact ⟨A', c', g1, g2.congr hcat, g3⟩
  · rw [hh] at e1; exact mk_chk hid jn h1 e1
  · rw [hh] at e2
    have := mk_chk (f := m + 1) (t := x3) hid jn h1 e2
    rw [op_cl] at this
    exact this
  · rw [hh] at e3
    have := mk_chk (f := x2) (t := x3) hid jn h1 e3
    rw [hlen, chkS_congr hcat] at this
    exact this
  · rw [← hlen]; exact lnL_len ..
end Go.Proofs.YtpghciiifnjimaaGreatDoor
