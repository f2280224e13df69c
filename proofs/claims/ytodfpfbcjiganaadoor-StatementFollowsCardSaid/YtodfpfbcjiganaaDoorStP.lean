/- The examples of the chapter: Lives. -/
import Derived.Test.YtodfpfbcjiganaaDoorStN
import Derived.Test.YtodfpfbcjiganaaDoorStG
import Derived.Test.YtodfpfbcjiganaaDoorStK
import Derived.Test.YtodfpfbcjiganaaDoorStM
import Derived.Test.YtodfpfbcjiganaaDoorTxW
namespace Go.Proofs.YtodfpfbcjiganaaDoor
set_option linter.unusedSimpArgs false
set_option linter.unusedVariables false
open Go.RowKit

def Lv1 (w : World) (e : Ending) (w' : World) : Prop := ∃ A c, e = .returned (.tuple #[.agg #[.int .i64 1000, .int .i64 3, .int .i64 6, .int .i64 9, .int .i64 70, .int .i64 50, .slice A 1 c], .int .i64 0]) ∧ RowPos w' A 1 (atP smS.ls) ∧ Below w.heap.size w w'
theorem lv_1 {C : Array Value} {aA jA : Option Addr} {b1 b2 : Nat} (hC : Bks C aA 1 1 jA 2 2) (w : World) (hr : RowAcc w aA 1 smA) (hj : Jrn w jA 2 (smE b1 b2)) :
    Calls Tryd.prog 10 #[.agg C, .int .i64 1000, .int .i64 3, .int .i64 6, .int .i64 9] w (Lv1 w) := by
  have h := make_any C aA 1 1 jA 2 2 hC smA (smE b1 b2) 1000 3 6 9 (by decide) (by decide) w hr hj
  rw [sm_has, (sm_make b1 b2).1, (sm_make b1 b2).2] at h
  exact h
def Lv2 (w : World) (e : Ending) (w' : World) : Prop := ∃ A c, e = .returned (.tuple #[.agg #[.int .i64 1000, .int .i64 2, .int .i64 0, .int .i64 5, .int .i64 0, .int .i64 70, .slice A 1 c], .int .i64 0]) ∧ Below w.heap.size w w'
theorem lv_2 {C : Array Value} {aA jA : Option Addr} {b1 b2 : Nat} (hC : Bks C aA 1 1 jA 2 2) (w : World) (hr : RowAcc w aA 1 smA) (hj : Jrn w jA 2 (smE b1 b2)) :
    Calls Tryd.prog 10 #[.agg C, .int .i64 1000, .int .i64 2, .int .i64 0, .int .i64 5] w (Lv2 w) := by
  have h := make_any C aA 1 1 jA 2 2 hC smA (smE b1 b2) 1000 2 0 5 (by decide) (by decide) w hr hj
  rw [sm_has, (sm_make2 b1 b2).1, (sm_make2 b1 b2).2] at h
  exact h.mono fun e w' ⟨A, c, h1, _, h2⟩ => ⟨A, c, h1, h2⟩
def Lv3 (w : World) (e : Ending) (w' : World) : Prop := ∃ A c, e = .returned (.tuple #[.agg #[.int .i64 0, .int .i64 0, .int .i64 0, .int .i64 0, .int .i64 0, .int .i64 0, .slice A 0 c], .int .i64 11]) ∧ Below w.heap.size w w'
theorem lv_3 {C : Array Value} {aA jA : Option Addr} {b1 b2 : Nat} (hC : Bks C aA 1 1 jA 2 2) (w : World) (hr : RowAcc w aA 1 smA) (hj : Jrn w jA 2 (smE b1 b2)) :
    Calls Tryd.prog 10 #[.agg C, .int .i64 1001, .int .i64 3, .int .i64 6, .int .i64 9] w (Lv3 w) := by
  have h := make_any C aA 1 1 jA 2 2 hC smA (smE b1 b2) 1001 3 6 9 (by decide) (by decide) w hr hj
  rw [sm_hasnt, (sm_make3 b1 b2).1, (sm_make3 b1 b2).2] at h
  exact h.mono fun e w' ⟨A, c, h1, _, h2⟩ => ⟨A, c, h1, h2⟩
theorem lv_text (A : Option Addr) (c : Nat) (w : World) (hr : RowPos w A 1 (atP smS.ls)) (ht : Tab w) :
    Calls Tryd.prog 18 #[.agg #[.int .i64 1000, .int .i64 3, .int .i64 6, .int .i64 9, .int .i64 70, .int .i64 50, .slice A 1 c], .int .i64 2] w fun e w' => e = .returned (.tuple #[.string ⟨smT.toArray⟩, .int .i64 0]) ∧ Below w.heap.size w w' := by
  have h := text_any 1000 3 6 9 70 50 A 1 c (atP smS.ls) 2 (by decide) (fun k hk => by obtain rfl : k = 0 := by omega
                                                                                       decide) (by unfold IIn; decide) (by unfold IIn; decide) w hr ht
  rw [sm_text.1, sm_text.2] at h
  exact h
theorem lv_chk (A : Option Addr) (c : Nat) (w : World) (hr : RowPos w A 1 (atP smS.ls)) :
    Calls Tryd.prog 14 #[.agg #[.int .i64 1000, .int .i64 3, .int .i64 6, .int .i64 9, .int .i64 70, .int .i64 50, .slice A 1 c]] w fun e w' => e = .returned (.int .i64 0) ∧ Below w.heap.size w w' := by
  have h := check_any 1000 3 6 9 70 50 A 1 c (atP smS.ls) (by decide) w hr
  rw [sm_chk] at h
  exact h
theorem lv_fol (A B : Option Addr) (c d : Nat) (w : World) :
    Calls Tryd.prog 16 #[.agg #[.int .i64 1000, .int .i64 2, .int .i64 0, .int .i64 5, .int .i64 0, .int .i64 70, .slice B 1 d], .agg #[.int .i64 1000, .int .i64 3, .int .i64 6, .int .i64 9, .int .i64 70, .int .i64 50, .slice A 1 c]] w fun e w' => e = .returned (.bool true) ∧ Below w.heap.size w w' := by
  have h := follows_any 1000 2 0 5 0 70 1000 3 6 9 70 50 B A 1 d 1 c (by unfold IIn; decide) (by unfold IIn; decide) (by unfold IIn; decide) (by unfold IIn; decide) w
  rw [sm_fol] at h
  exact h
theorem lv_row {w : World} {b : Nat} {t : TypeId} (h : w.heap[b]? = some (.cells #[.int .i64 2, .int .i64 6, .int .i64 (-20), .string ⟨#[114, 101, 110, 116]⟩] t (0, 0))) : RowPos w (some ⟨b, 0, none⟩) 1 (atP smS.ls) :=
  rowS_of h fun k j hk hj => by
    match k, hk, j, hj with
    | 0, _, 0, _ | 0, _, 1, _ | 0, _, 2, _ | 0, _, 3, _ => rfl
theorem lv_same (A : Option Addr) (c b d : Nat) (t : TypeId) (w : World) (hr : RowPos w A 1 (atP smS.ls)) (h : w.heap[b]? = some (.cells #[.int .i64 2, .int .i64 6, .int .i64 (-20), .string ⟨#[114, 101, 110, 116]⟩] t (0, 0))) :
    Calls Tryd.prog 12 #[.agg #[.int .i64 1000, .int .i64 3, .int .i64 6, .int .i64 9, .int .i64 70, .int .i64 50, .slice A 1 c], .agg #[.int .i64 1000, .int .i64 3, .int .i64 6, .int .i64 9, .int .i64 70, .int .i64 50, .slice (some ⟨b, 0, none⟩) 1 d]] w fun e w' => e = .returned (.bool true) ∧ Below w.heap.size w w' :=
  same_eq 1000 3 6 9 70 50 A (some ⟨b, 0, none⟩) 1 c d (atP smS.ls) (by decide) w hr (lv_row h)
set_option maxRecDepth 4000 in
set_option maxHeartbeats 4000000 in
theorem lives_any (w : World) (ht : Tab w) : Calls Tryd.prog 9 #[] w fun e w' => e = .returned (.bool true) ∧ Below w.heap.size w w' := by
  have HT := hide ht
  clear ht
  go_enter Tryd.func9, Tryd.ntmps9
  go_wp2_with fail
  refine (sample_any _).mono ?_
  rintro e w1 ⟨C1, aA1, jA1, b11, b12, rfl, hC, hA, hJ, hb⟩
  have H1 := hide (And.intro hC (And.intro hA hJ))
  have B1 := hide hb
  clear hC hA hJ hb
  go_wp2_with fail
  refine (lv_1 H1.out.1 _ H1.out.2.1 H1.out.2.2).mono ?_
  rintro e w2 ⟨A, c, rfl, hA, hb⟩
  have HA := hide hA
  have B2 := hide (B1.out.trans (hb.mono B1.out.size))
  have z2 := B2.out.size
  clear hA hb H1 B1
  go_wp2_with fail
  refine (sample_any _).mono ?_
  rintro e w3 ⟨C1, aA1, jA1, b11, b12, rfl, hC, hA, hJ, hb⟩
  have H1 := hide (And.intro hC (And.intro hA hJ))
  clear hC hA hJ
  have q1B : Below w2.heap.size w2 w3 := (by refine Below.trans ?_ (hb.mono (by first | omega | (simp <;> omega))); (repeat (first | (with_reducible exact Below.refl _ _) | (with_reducible assumption) | ((with_reducible refine Below.alloc ?_ ?_ _); (rotate_left); (first | omega | (simp <;> omega))) | ((with_reducible refine Below.setCell ?_ ?_ _); (rotate_left); (first | omega | (simp <;> omega))) | (with_reducible refine Below.drew ?_) | (with_reducible refine below_drewN ?_ _))))
  have q1z := hb.size
  try simp at q1z
  have q1t : w2.heap.size ≤ w3.heap.size := (by omega)
  have q1s0 : w2.heap.size < w3.heap.size := (by omega)
  have q1n0_0 : ¬ w3.heap.size = w2.heap.size := (by omega)
  have q1n0_1 : ¬ w3.heap.size + 1 = w2.heap.size := (by omega)
  have q1n0_2 : ¬ w3.heap.size + 2 = w2.heap.size := (by omega)
  have q1c0_0 := hb.cell (p := ⟨w2.heap.size, 0, none⟩) (by first | omega | (simp <;> omega))
  simp [go_sem, *] at q1c0_0
  have q1c0_1 := hb.cell (p := ⟨w2.heap.size, 1, none⟩) (by first | omega | (simp <;> omega))
  simp [go_sem, *] at q1c0_1
  have q1c0_2 := hb.cell (p := ⟨w2.heap.size, 2, none⟩) (by first | omega | (simp <;> omega))
  simp [go_sem, *] at q1c0_2
  have q1c0_3 := hb.cell (p := ⟨w2.heap.size, 3, none⟩) (by first | omega | (simp <;> omega))
  simp [go_sem, *] at q1c0_3
  have q1c0_4 := hb.cell (p := ⟨w2.heap.size, 4, none⟩) (by first | omega | (simp <;> omega))
  simp [go_sem, *] at q1c0_4
  have q1c0_5 := hb.cell (p := ⟨w2.heap.size, 5, none⟩) (by first | omega | (simp <;> omega))
  simp [go_sem, *] at q1c0_5
  have q1c0_6 := hb.cell (p := ⟨w2.heap.size, 6, none⟩) (by first | omega | (simp <;> omega))
  simp [go_sem, *] at q1c0_6
  have q1f0 := fun o => hb.frozen (p := ⟨w2.heap.size, o, none⟩) (by first | omega | (simp <;> omega))
  simp [go_sem, *] at q1f0
  have q1o : ∀ b o, b < w2.heap.size → w3.cell? ⟨b, o, none⟩ = w2.cell? ⟨b, o, none⟩ := fun b o h => q1B.cell (p := ⟨b, o, none⟩) h
  clear hb
  have B3 := hide q1B
  go_wp2_with fail
  refine (lv_2 H1.out.1 _ H1.out.2.1 H1.out.2.2).mono ?_
  rintro e w4 ⟨Ap, cp, rfl, hb⟩
  have q2B : Below w3.heap.size w3 w4 := (by refine Below.trans ?_ (hb.mono (by first | omega | (simp <;> omega))); (repeat (first | (with_reducible exact Below.refl _ _) | (with_reducible assumption) | ((with_reducible refine Below.alloc ?_ ?_ _); (rotate_left); (first | omega | (simp <;> omega))) | ((with_reducible refine Below.setCell ?_ ?_ _); (rotate_left); (first | omega | (simp <;> omega))) | (with_reducible refine Below.drew ?_) | (with_reducible refine below_drewN ?_ _))))
  have q2z := hb.size
  try simp at q2z
  have q2t : w3.heap.size ≤ w4.heap.size := (by omega)
  have q2s0 : w2.heap.size < w4.heap.size := (by omega)
  have q2n0_0 : ¬ w4.heap.size = w2.heap.size := (by omega)
  have q2n0_1 : ¬ w4.heap.size + 1 = w2.heap.size := (by omega)
  have q2n0_2 : ¬ w4.heap.size + 2 = w2.heap.size := (by omega)
  have q2c0_0 := hb.cell (p := ⟨w2.heap.size, 0, none⟩) (by first | omega | (simp <;> omega))
  simp [go_sem, *] at q2c0_0
  have q2c0_1 := hb.cell (p := ⟨w2.heap.size, 1, none⟩) (by first | omega | (simp <;> omega))
  simp [go_sem, *] at q2c0_1
  have q2c0_2 := hb.cell (p := ⟨w2.heap.size, 2, none⟩) (by first | omega | (simp <;> omega))
  simp [go_sem, *] at q2c0_2
  have q2c0_3 := hb.cell (p := ⟨w2.heap.size, 3, none⟩) (by first | omega | (simp <;> omega))
  simp [go_sem, *] at q2c0_3
  have q2c0_4 := hb.cell (p := ⟨w2.heap.size, 4, none⟩) (by first | omega | (simp <;> omega))
  simp [go_sem, *] at q2c0_4
  have q2c0_5 := hb.cell (p := ⟨w2.heap.size, 5, none⟩) (by first | omega | (simp <;> omega))
  simp [go_sem, *] at q2c0_5
  have q2c0_6 := hb.cell (p := ⟨w2.heap.size, 6, none⟩) (by first | omega | (simp <;> omega))
  simp [go_sem, *] at q2c0_6
  have q2f0 := fun o => hb.frozen (p := ⟨w2.heap.size, o, none⟩) (by first | omega | (simp <;> omega))
  simp [go_sem, *] at q2f0
  have q2o : ∀ b o, b < w3.heap.size → w4.cell? ⟨b, o, none⟩ = w3.cell? ⟨b, o, none⟩ := fun b o h => q2B.cell (p := ⟨b, o, none⟩) h
  clear hb q1o q1f0 q1c0_6 q1c0_5 q1c0_4 q1c0_3 q1c0_2 q1c0_1 q1c0_0 q1s0 q1z q1B
  have B4 := hide (B3.out.trans (q2B.mono (by omega)))
  clear H1 B3
  go_wp2_with fail
  refine (lv_text A c _ (HA.out.below (B4.out.trans (by (repeat (first | (with_reducible exact Below.refl _ _) | (with_reducible assumption) | ((with_reducible refine Below.alloc ?_ ?_ _); (rotate_left); (first | omega | (simp <;> omega))) | ((with_reducible refine Below.setCell ?_ ?_ _); (rotate_left); (first | omega | (simp <;> omega))) | (with_reducible refine Below.drew ?_) | (with_reducible refine below_drewN ?_ _)))))) (HT.out.below (B2.out.trans (Below.trans (B4.out.mono B2.out.size) (by (repeat (first | (with_reducible exact Below.refl _ _) | (with_reducible assumption) | ((with_reducible refine Below.alloc ?_ ?_ _); (rotate_left); (first | omega | (simp <;> omega))) | ((with_reducible refine Below.setCell ?_ ?_ _); (rotate_left); (first | omega | (simp <;> omega))) | (with_reducible refine Below.drew ?_) | (with_reducible refine below_drewN ?_ _)))))))).mono ?_
  rintro e w5 ⟨rfl, hb⟩
  have q3B : Below w4.heap.size w4 w5 := (by refine Below.trans ?_ (hb.mono (by first | omega | (simp <;> omega))); (repeat (first | (with_reducible exact Below.refl _ _) | (with_reducible assumption) | ((with_reducible refine Below.alloc ?_ ?_ _); (rotate_left); (first | omega | (simp <;> omega))) | ((with_reducible refine Below.setCell ?_ ?_ _); (rotate_left); (first | omega | (simp <;> omega))) | (with_reducible refine Below.drew ?_) | (with_reducible refine below_drewN ?_ _))))
  have q3z := hb.size
  try simp at q3z
  have q3t : w4.heap.size ≤ w5.heap.size := (by omega)
  have q3s0 : w2.heap.size < w5.heap.size := (by omega)
  have q3n0_0 : ¬ w5.heap.size = w2.heap.size := (by omega)
  have q3n0_1 : ¬ w5.heap.size + 1 = w2.heap.size := (by omega)
  have q3n0_2 : ¬ w5.heap.size + 2 = w2.heap.size := (by omega)
  have q3c0_0 := hb.cell (p := ⟨w2.heap.size, 0, none⟩) (by first | omega | (simp <;> omega))
  simp [go_sem, *] at q3c0_0
  have q3c0_1 := hb.cell (p := ⟨w2.heap.size, 1, none⟩) (by first | omega | (simp <;> omega))
  simp [go_sem, *] at q3c0_1
  have q3c0_2 := hb.cell (p := ⟨w2.heap.size, 2, none⟩) (by first | omega | (simp <;> omega))
  simp [go_sem, *] at q3c0_2
  have q3c0_3 := hb.cell (p := ⟨w2.heap.size, 3, none⟩) (by first | omega | (simp <;> omega))
  simp [go_sem, *] at q3c0_3
  have q3c0_4 := hb.cell (p := ⟨w2.heap.size, 4, none⟩) (by first | omega | (simp <;> omega))
  simp [go_sem, *] at q3c0_4
  have q3c0_5 := hb.cell (p := ⟨w2.heap.size, 5, none⟩) (by first | omega | (simp <;> omega))
  simp [go_sem, *] at q3c0_5
  have q3c0_6 := hb.cell (p := ⟨w2.heap.size, 6, none⟩) (by first | omega | (simp <;> omega))
  simp [go_sem, *] at q3c0_6
  have q3f0 := fun o => hb.frozen (p := ⟨w2.heap.size, o, none⟩) (by first | omega | (simp <;> omega))
  simp [go_sem, *] at q3f0
  have q3s1 : w4.heap.size < w5.heap.size := (by omega)
  have q3n1_0 : ¬ w5.heap.size = w4.heap.size := (by omega)
  have q3n1_1 : ¬ w5.heap.size + 1 = w4.heap.size := (by omega)
  have q3n1_2 : ¬ w5.heap.size + 2 = w4.heap.size := (by omega)
  have q3c1_0 := hb.cell (p := ⟨w4.heap.size, 0, none⟩) (by first | omega | (simp <;> omega))
  simp [go_sem, *] at q3c1_0
  have q3c1_1 := hb.cell (p := ⟨w4.heap.size, 1, none⟩) (by first | omega | (simp <;> omega))
  simp [go_sem, *] at q3c1_1
  have q3c1_2 := hb.cell (p := ⟨w4.heap.size, 2, none⟩) (by first | omega | (simp <;> omega))
  simp [go_sem, *] at q3c1_2
  have q3c1_3 := hb.cell (p := ⟨w4.heap.size, 3, none⟩) (by first | omega | (simp <;> omega))
  simp [go_sem, *] at q3c1_3
  have q3c1_4 := hb.cell (p := ⟨w4.heap.size, 4, none⟩) (by first | omega | (simp <;> omega))
  simp [go_sem, *] at q3c1_4
  have q3c1_5 := hb.cell (p := ⟨w4.heap.size, 5, none⟩) (by first | omega | (simp <;> omega))
  simp [go_sem, *] at q3c1_5
  have q3c1_6 := hb.cell (p := ⟨w4.heap.size, 6, none⟩) (by first | omega | (simp <;> omega))
  simp [go_sem, *] at q3c1_6
  have q3f1 := fun o => hb.frozen (p := ⟨w4.heap.size, o, none⟩) (by first | omega | (simp <;> omega))
  simp [go_sem, *] at q3f1
  have q3o : ∀ b o, b < w4.heap.size → w5.cell? ⟨b, o, none⟩ = w4.cell? ⟨b, o, none⟩ := fun b o h => q3B.cell (p := ⟨b, o, none⟩) h
  clear hb q2o q2f0 q2c0_6 q2c0_5 q2c0_4 q2c0_3 q2c0_2 q2c0_1 q2c0_0 q2s0 q2z q2B
  have B5 := hide (B4.out.trans (q3B.mono (by omega)))
  go_wp2_with fail
  refine (sample_any _).mono ?_
  rintro e w6 ⟨C1, aA1, jA1, b11, b12, rfl, hC, hA, hJ, hb⟩
  have H1 := hide (And.intro hC (And.intro hA hJ))
  clear hC hA hJ
  have q4B : Below w5.heap.size w5 w6 := (by refine Below.trans ?_ (hb.mono (by first | omega | (simp <;> omega))); (repeat (first | (with_reducible exact Below.refl _ _) | (with_reducible assumption) | ((with_reducible refine Below.alloc ?_ ?_ _); (rotate_left); (first | omega | (simp <;> omega))) | ((with_reducible refine Below.setCell ?_ ?_ _); (rotate_left); (first | omega | (simp <;> omega))) | (with_reducible refine Below.drew ?_) | (with_reducible refine below_drewN ?_ _))))
  have q4z := hb.size
  try simp at q4z
  have q4t : w5.heap.size ≤ w6.heap.size := (by omega)
  have q4s0 : w2.heap.size < w6.heap.size := (by omega)
  have q4n0_0 : ¬ w6.heap.size = w2.heap.size := (by omega)
  have q4n0_1 : ¬ w6.heap.size + 1 = w2.heap.size := (by omega)
  have q4n0_2 : ¬ w6.heap.size + 2 = w2.heap.size := (by omega)
  have q4c0_0 := hb.cell (p := ⟨w2.heap.size, 0, none⟩) (by first | omega | (simp <;> omega))
  simp [go_sem, *] at q4c0_0
  have q4c0_1 := hb.cell (p := ⟨w2.heap.size, 1, none⟩) (by first | omega | (simp <;> omega))
  simp [go_sem, *] at q4c0_1
  have q4c0_2 := hb.cell (p := ⟨w2.heap.size, 2, none⟩) (by first | omega | (simp <;> omega))
  simp [go_sem, *] at q4c0_2
  have q4c0_3 := hb.cell (p := ⟨w2.heap.size, 3, none⟩) (by first | omega | (simp <;> omega))
  simp [go_sem, *] at q4c0_3
  have q4c0_4 := hb.cell (p := ⟨w2.heap.size, 4, none⟩) (by first | omega | (simp <;> omega))
  simp [go_sem, *] at q4c0_4
  have q4c0_5 := hb.cell (p := ⟨w2.heap.size, 5, none⟩) (by first | omega | (simp <;> omega))
  simp [go_sem, *] at q4c0_5
  have q4c0_6 := hb.cell (p := ⟨w2.heap.size, 6, none⟩) (by first | omega | (simp <;> omega))
  simp [go_sem, *] at q4c0_6
  have q4f0 := fun o => hb.frozen (p := ⟨w2.heap.size, o, none⟩) (by first | omega | (simp <;> omega))
  simp [go_sem, *] at q4f0
  have q4s1 : w4.heap.size < w6.heap.size := (by omega)
  have q4n1_0 : ¬ w6.heap.size = w4.heap.size := (by omega)
  have q4n1_1 : ¬ w6.heap.size + 1 = w4.heap.size := (by omega)
  have q4n1_2 : ¬ w6.heap.size + 2 = w4.heap.size := (by omega)
  have q4c1_0 := hb.cell (p := ⟨w4.heap.size, 0, none⟩) (by first | omega | (simp <;> omega))
  simp [go_sem, *] at q4c1_0
  have q4c1_1 := hb.cell (p := ⟨w4.heap.size, 1, none⟩) (by first | omega | (simp <;> omega))
  simp [go_sem, *] at q4c1_1
  have q4c1_2 := hb.cell (p := ⟨w4.heap.size, 2, none⟩) (by first | omega | (simp <;> omega))
  simp [go_sem, *] at q4c1_2
  have q4c1_3 := hb.cell (p := ⟨w4.heap.size, 3, none⟩) (by first | omega | (simp <;> omega))
  simp [go_sem, *] at q4c1_3
  have q4c1_4 := hb.cell (p := ⟨w4.heap.size, 4, none⟩) (by first | omega | (simp <;> omega))
  simp [go_sem, *] at q4c1_4
  have q4c1_5 := hb.cell (p := ⟨w4.heap.size, 5, none⟩) (by first | omega | (simp <;> omega))
  simp [go_sem, *] at q4c1_5
  have q4c1_6 := hb.cell (p := ⟨w4.heap.size, 6, none⟩) (by first | omega | (simp <;> omega))
  simp [go_sem, *] at q4c1_6
  have q4f1 := fun o => hb.frozen (p := ⟨w4.heap.size, o, none⟩) (by first | omega | (simp <;> omega))
  simp [go_sem, *] at q4f1
  have q4o : ∀ b o, b < w5.heap.size → w6.cell? ⟨b, o, none⟩ = w5.cell? ⟨b, o, none⟩ := fun b o h => q4B.cell (p := ⟨b, o, none⟩) h
  clear hb q3o q3f1 q3c1_6 q3c1_5 q3c1_4 q3c1_3 q3c1_2 q3c1_1 q3c1_0 q3s1 q3f0 q3c0_6 q3c0_5 q3c0_4 q3c0_3 q3c0_2 q3c0_1 q3c0_0 q3s0 q3z q3B
  have B6 := hide (B5.out.trans (q4B.mono (by omega)))
  go_wp2_with fail
  refine (lv_3 H1.out.1 _ H1.out.2.1 H1.out.2.2).mono ?_
  rintro e w7 ⟨Aq, cq, rfl, hb⟩
  have q5B : Below w6.heap.size w6 w7 := (by refine Below.trans ?_ (hb.mono (by first | omega | (simp <;> omega))); (repeat (first | (with_reducible exact Below.refl _ _) | (with_reducible assumption) | ((with_reducible refine Below.alloc ?_ ?_ _); (rotate_left); (first | omega | (simp <;> omega))) | ((with_reducible refine Below.setCell ?_ ?_ _); (rotate_left); (first | omega | (simp <;> omega))) | (with_reducible refine Below.drew ?_) | (with_reducible refine below_drewN ?_ _))))
  have q5z := hb.size
  try simp at q5z
  have q5t : w6.heap.size ≤ w7.heap.size := (by omega)
  have q5s0 : w2.heap.size < w7.heap.size := (by omega)
  have q5n0_0 : ¬ w7.heap.size = w2.heap.size := (by omega)
  have q5n0_1 : ¬ w7.heap.size + 1 = w2.heap.size := (by omega)
  have q5n0_2 : ¬ w7.heap.size + 2 = w2.heap.size := (by omega)
  have q5c0_0 := hb.cell (p := ⟨w2.heap.size, 0, none⟩) (by first | omega | (simp <;> omega))
  simp [go_sem, *] at q5c0_0
  have q5c0_1 := hb.cell (p := ⟨w2.heap.size, 1, none⟩) (by first | omega | (simp <;> omega))
  simp [go_sem, *] at q5c0_1
  have q5c0_2 := hb.cell (p := ⟨w2.heap.size, 2, none⟩) (by first | omega | (simp <;> omega))
  simp [go_sem, *] at q5c0_2
  have q5c0_3 := hb.cell (p := ⟨w2.heap.size, 3, none⟩) (by first | omega | (simp <;> omega))
  simp [go_sem, *] at q5c0_3
  have q5c0_4 := hb.cell (p := ⟨w2.heap.size, 4, none⟩) (by first | omega | (simp <;> omega))
  simp [go_sem, *] at q5c0_4
  have q5c0_5 := hb.cell (p := ⟨w2.heap.size, 5, none⟩) (by first | omega | (simp <;> omega))
  simp [go_sem, *] at q5c0_5
  have q5c0_6 := hb.cell (p := ⟨w2.heap.size, 6, none⟩) (by first | omega | (simp <;> omega))
  simp [go_sem, *] at q5c0_6
  have q5f0 := fun o => hb.frozen (p := ⟨w2.heap.size, o, none⟩) (by first | omega | (simp <;> omega))
  simp [go_sem, *] at q5f0
  have q5s1 : w4.heap.size < w7.heap.size := (by omega)
  have q5n1_0 : ¬ w7.heap.size = w4.heap.size := (by omega)
  have q5n1_1 : ¬ w7.heap.size + 1 = w4.heap.size := (by omega)
  have q5n1_2 : ¬ w7.heap.size + 2 = w4.heap.size := (by omega)
  have q5c1_0 := hb.cell (p := ⟨w4.heap.size, 0, none⟩) (by first | omega | (simp <;> omega))
  simp [go_sem, *] at q5c1_0
  have q5c1_1 := hb.cell (p := ⟨w4.heap.size, 1, none⟩) (by first | omega | (simp <;> omega))
  simp [go_sem, *] at q5c1_1
  have q5c1_2 := hb.cell (p := ⟨w4.heap.size, 2, none⟩) (by first | omega | (simp <;> omega))
  simp [go_sem, *] at q5c1_2
  have q5c1_3 := hb.cell (p := ⟨w4.heap.size, 3, none⟩) (by first | omega | (simp <;> omega))
  simp [go_sem, *] at q5c1_3
  have q5c1_4 := hb.cell (p := ⟨w4.heap.size, 4, none⟩) (by first | omega | (simp <;> omega))
  simp [go_sem, *] at q5c1_4
  have q5c1_5 := hb.cell (p := ⟨w4.heap.size, 5, none⟩) (by first | omega | (simp <;> omega))
  simp [go_sem, *] at q5c1_5
  have q5c1_6 := hb.cell (p := ⟨w4.heap.size, 6, none⟩) (by first | omega | (simp <;> omega))
  simp [go_sem, *] at q5c1_6
  have q5f1 := fun o => hb.frozen (p := ⟨w4.heap.size, o, none⟩) (by first | omega | (simp <;> omega))
  simp [go_sem, *] at q5f1
  have q5o : ∀ b o, b < w6.heap.size → w7.cell? ⟨b, o, none⟩ = w6.cell? ⟨b, o, none⟩ := fun b o h => q5B.cell (p := ⟨b, o, none⟩) h
  clear hb q4o q4f1 q4c1_6 q4c1_5 q4c1_4 q4c1_3 q4c1_2 q4c1_1 q4c1_0 q4s1 q4f0 q4c0_6 q4c0_5 q4c0_4 q4c0_3 q4c0_2 q4c0_1 q4c0_0 q4s0 q4z q4B
  have B7 := hide (B6.out.trans (q5B.mono (by omega)))
  go_wp2_with fail
  refine (lv_same A c _ 1 66 _ (HA.out.below (B7.out.trans (by (repeat (first | (with_reducible exact Below.refl _ _) | (with_reducible assumption) | ((with_reducible refine Below.alloc ?_ ?_ _); (rotate_left); (first | omega | (simp <;> omega))) | ((with_reducible refine Below.setCell ?_ ?_ _); (rotate_left); (first | omega | (simp <;> omega))) | (with_reducible refine Below.drew ?_) | (with_reducible refine below_drewN ?_ _)))))) (blk_new (by simp))).mono ?_
  rintro e w8 ⟨rfl, hb⟩
  have q6B : Below w7.heap.size w7 w8 := (by refine Below.trans ?_ (hb.mono (by first | omega | (simp <;> omega))); (repeat (first | (with_reducible exact Below.refl _ _) | (with_reducible assumption) | ((with_reducible refine Below.alloc ?_ ?_ _); (rotate_left); (first | omega | (simp <;> omega))) | ((with_reducible refine Below.setCell ?_ ?_ _); (rotate_left); (first | omega | (simp <;> omega))) | (with_reducible refine Below.drew ?_) | (with_reducible refine below_drewN ?_ _))))
  have q6z := hb.size
  try simp at q6z
  have q6t : w7.heap.size ≤ w8.heap.size := (by omega)
  have q6s0 : w2.heap.size < w8.heap.size := (by omega)
  have q6n0_0 : ¬ w8.heap.size = w2.heap.size := (by omega)
  have q6n0_1 : ¬ w8.heap.size + 1 = w2.heap.size := (by omega)
  have q6n0_2 : ¬ w8.heap.size + 2 = w2.heap.size := (by omega)
  have q6c0_0 := hb.cell (p := ⟨w2.heap.size, 0, none⟩) (by first | omega | (simp <;> omega))
  simp [go_sem, *] at q6c0_0
  have q6c0_1 := hb.cell (p := ⟨w2.heap.size, 1, none⟩) (by first | omega | (simp <;> omega))
  simp [go_sem, *] at q6c0_1
  have q6c0_2 := hb.cell (p := ⟨w2.heap.size, 2, none⟩) (by first | omega | (simp <;> omega))
  simp [go_sem, *] at q6c0_2
  have q6c0_3 := hb.cell (p := ⟨w2.heap.size, 3, none⟩) (by first | omega | (simp <;> omega))
  simp [go_sem, *] at q6c0_3
  have q6c0_4 := hb.cell (p := ⟨w2.heap.size, 4, none⟩) (by first | omega | (simp <;> omega))
  simp [go_sem, *] at q6c0_4
  have q6c0_5 := hb.cell (p := ⟨w2.heap.size, 5, none⟩) (by first | omega | (simp <;> omega))
  simp [go_sem, *] at q6c0_5
  have q6c0_6 := hb.cell (p := ⟨w2.heap.size, 6, none⟩) (by first | omega | (simp <;> omega))
  simp [go_sem, *] at q6c0_6
  have q6f0 := fun o => hb.frozen (p := ⟨w2.heap.size, o, none⟩) (by first | omega | (simp <;> omega))
  simp [go_sem, *] at q6f0
  have q6s1 : w4.heap.size < w8.heap.size := (by omega)
  have q6n1_0 : ¬ w8.heap.size = w4.heap.size := (by omega)
  have q6n1_1 : ¬ w8.heap.size + 1 = w4.heap.size := (by omega)
  have q6n1_2 : ¬ w8.heap.size + 2 = w4.heap.size := (by omega)
  have q6c1_0 := hb.cell (p := ⟨w4.heap.size, 0, none⟩) (by first | omega | (simp <;> omega))
  simp [go_sem, *] at q6c1_0
  have q6c1_1 := hb.cell (p := ⟨w4.heap.size, 1, none⟩) (by first | omega | (simp <;> omega))
  simp [go_sem, *] at q6c1_1
  have q6c1_2 := hb.cell (p := ⟨w4.heap.size, 2, none⟩) (by first | omega | (simp <;> omega))
  simp [go_sem, *] at q6c1_2
  have q6c1_3 := hb.cell (p := ⟨w4.heap.size, 3, none⟩) (by first | omega | (simp <;> omega))
  simp [go_sem, *] at q6c1_3
  have q6c1_4 := hb.cell (p := ⟨w4.heap.size, 4, none⟩) (by first | omega | (simp <;> omega))
  simp [go_sem, *] at q6c1_4
  have q6c1_5 := hb.cell (p := ⟨w4.heap.size, 5, none⟩) (by first | omega | (simp <;> omega))
  simp [go_sem, *] at q6c1_5
  have q6c1_6 := hb.cell (p := ⟨w4.heap.size, 6, none⟩) (by first | omega | (simp <;> omega))
  simp [go_sem, *] at q6c1_6
  have q6f1 := fun o => hb.frozen (p := ⟨w4.heap.size, o, none⟩) (by first | omega | (simp <;> omega))
  simp [go_sem, *] at q6f1
  have q6o : ∀ b o, b < w7.heap.size → w8.cell? ⟨b, o, none⟩ = w7.cell? ⟨b, o, none⟩ := fun b o h => q6B.cell (p := ⟨b, o, none⟩) h
  clear hb q5o q5f1 q5c1_6 q5c1_5 q5c1_4 q5c1_3 q5c1_2 q5c1_1 q5c1_0 q5s1 q5f0 q5c0_6 q5c0_5 q5c0_4 q5c0_3 q5c0_2 q5c0_1 q5c0_0 q5s0 q5z q5B
  have B8 := hide (B7.out.trans (q6B.mono (by omega)))
  go_wp2_with fail
  refine (lv_fol A Ap c cp _).mono ?_
  rintro e w9 ⟨rfl, hb⟩
  have q7B : Below w8.heap.size w8 w9 := (by refine Below.trans ?_ (hb.mono (by first | omega | (simp <;> omega))); (repeat (first | (with_reducible exact Below.refl _ _) | (with_reducible assumption) | ((with_reducible refine Below.alloc ?_ ?_ _); (rotate_left); (first | omega | (simp <;> omega))) | ((with_reducible refine Below.setCell ?_ ?_ _); (rotate_left); (first | omega | (simp <;> omega))) | (with_reducible refine Below.drew ?_) | (with_reducible refine below_drewN ?_ _))))
  have q7z := hb.size
  try simp at q7z
  have q7t : w8.heap.size ≤ w9.heap.size := (by omega)
  have q7s0 : w2.heap.size < w9.heap.size := (by omega)
  have q7n0_0 : ¬ w9.heap.size = w2.heap.size := (by omega)
  have q7n0_1 : ¬ w9.heap.size + 1 = w2.heap.size := (by omega)
  have q7n0_2 : ¬ w9.heap.size + 2 = w2.heap.size := (by omega)
  have q7c0_0 := hb.cell (p := ⟨w2.heap.size, 0, none⟩) (by first | omega | (simp <;> omega))
  simp [go_sem, *] at q7c0_0
  have q7c0_1 := hb.cell (p := ⟨w2.heap.size, 1, none⟩) (by first | omega | (simp <;> omega))
  simp [go_sem, *] at q7c0_1
  have q7c0_2 := hb.cell (p := ⟨w2.heap.size, 2, none⟩) (by first | omega | (simp <;> omega))
  simp [go_sem, *] at q7c0_2
  have q7c0_3 := hb.cell (p := ⟨w2.heap.size, 3, none⟩) (by first | omega | (simp <;> omega))
  simp [go_sem, *] at q7c0_3
  have q7c0_4 := hb.cell (p := ⟨w2.heap.size, 4, none⟩) (by first | omega | (simp <;> omega))
  simp [go_sem, *] at q7c0_4
  have q7c0_5 := hb.cell (p := ⟨w2.heap.size, 5, none⟩) (by first | omega | (simp <;> omega))
  simp [go_sem, *] at q7c0_5
  have q7c0_6 := hb.cell (p := ⟨w2.heap.size, 6, none⟩) (by first | omega | (simp <;> omega))
  simp [go_sem, *] at q7c0_6
  have q7f0 := fun o => hb.frozen (p := ⟨w2.heap.size, o, none⟩) (by first | omega | (simp <;> omega))
  simp [go_sem, *] at q7f0
  have q7s1 : w4.heap.size < w9.heap.size := (by omega)
  have q7n1_0 : ¬ w9.heap.size = w4.heap.size := (by omega)
  have q7n1_1 : ¬ w9.heap.size + 1 = w4.heap.size := (by omega)
  have q7n1_2 : ¬ w9.heap.size + 2 = w4.heap.size := (by omega)
  have q7c1_0 := hb.cell (p := ⟨w4.heap.size, 0, none⟩) (by first | omega | (simp <;> omega))
  simp [go_sem, *] at q7c1_0
  have q7c1_1 := hb.cell (p := ⟨w4.heap.size, 1, none⟩) (by first | omega | (simp <;> omega))
  simp [go_sem, *] at q7c1_1
  have q7c1_2 := hb.cell (p := ⟨w4.heap.size, 2, none⟩) (by first | omega | (simp <;> omega))
  simp [go_sem, *] at q7c1_2
  have q7c1_3 := hb.cell (p := ⟨w4.heap.size, 3, none⟩) (by first | omega | (simp <;> omega))
  simp [go_sem, *] at q7c1_3
  have q7c1_4 := hb.cell (p := ⟨w4.heap.size, 4, none⟩) (by first | omega | (simp <;> omega))
  simp [go_sem, *] at q7c1_4
  have q7c1_5 := hb.cell (p := ⟨w4.heap.size, 5, none⟩) (by first | omega | (simp <;> omega))
  simp [go_sem, *] at q7c1_5
  have q7c1_6 := hb.cell (p := ⟨w4.heap.size, 6, none⟩) (by first | omega | (simp <;> omega))
  simp [go_sem, *] at q7c1_6
  have q7f1 := fun o => hb.frozen (p := ⟨w4.heap.size, o, none⟩) (by first | omega | (simp <;> omega))
  simp [go_sem, *] at q7f1
  have q7o : ∀ b o, b < w8.heap.size → w9.cell? ⟨b, o, none⟩ = w8.cell? ⟨b, o, none⟩ := fun b o h => q7B.cell (p := ⟨b, o, none⟩) h
  clear hb q6o q6f1 q6c1_6 q6c1_5 q6c1_4 q6c1_3 q6c1_2 q6c1_1 q6c1_0 q6s1 q6f0 q6c0_6 q6c0_5 q6c0_4 q6c0_3 q6c0_2 q6c0_1 q6c0_0 q6s0 q6z q6B
  have B9 := hide (B8.out.trans (q7B.mono (by omega)))
  go_wp2_with fail
  refine (lv_chk A c _ (HA.out.below (B9.out.trans (by (repeat (first | (with_reducible exact Below.refl _ _) | (with_reducible assumption) | ((with_reducible refine Below.alloc ?_ ?_ _); (rotate_left); (first | omega | (simp <;> omega))) | ((with_reducible refine Below.setCell ?_ ?_ _); (rotate_left); (first | omega | (simp <;> omega))) | (with_reducible refine Below.drew ?_) | (with_reducible refine below_drewN ?_ _))))))).mono ?_
  rintro e w10 ⟨rfl, hb⟩
  go_wp2_with fail
  go_ret
  exact ⟨rfl, B2.out.trans ((B9.out.trans (hb.mono B9.out.size)).mono z2)⟩
end Go.Proofs.YtodfpfbcjiganaaDoor
