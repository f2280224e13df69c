/- Texts laid together: AcK. -/
import Derived.Test.YtdjlaiilngechaaGreatDoorVAcJ
import Derived.Test.YtdjlaiilngechaaGreatDoorVK0
namespace Go.Proofs.YtdjlaiilngechaaGreatDoor
set_option maxRecDepth 4000
set_option linter.unusedSimpArgs false
set_option linter.unusedVariables false
open Go.RowKit
theorem daily_any (C : Array Value) (id : Int) (w : World) : Calls Tryz.prog 44 #[.agg C, .int .i64 id] w fun e w' => e = .returned (.func (.func 78) #[] #[.pointer (some ⟨w.heap.size + 1, 0, none⟩), .pointer (some ⟨w.heap.size, 0, none⟩)]) ∧ w' = (w.alloc (.cells C 33)).alloc (.cells #[.int .i64 id] 3) := by
  go_enter Tryz.func44, Tryz.ntmps44
  go_wp2_with fail
  go_ret
  exact ⟨rfl, rfl⟩
def DayRet (B : LBk) (id day : Int) (w : World) (e : Ending) (w' : World) : Prop := e = .returned (.tuple #[AcrV (dayV B id day), .int .i64 (dayE B id day)]) ∧ Below w.heap.size w w'
theorem day_no {B : LBk} {id : Int} (day : Int) (h : hasB B id = false) : dayE B id day = 11 ∧ dayV B id day = zAcr := by
  have h1 : dayE B id day = 11 := if_pos h
  exact ⟨h1, by unfold dayV; rw [h1]; rfl⟩
theorem day_bad {B : LBk} {id day : Int} (h : hasB B id = true) (hv : vday day = false) : dayE B id day = 1 ∧ dayV B id day = zAcr := by
  have h1 : dayE B id day = 1 := by unfold dayE; rw [if_neg (by rw [h]; decide), if_pos hv]
  exact ⟨h1, by unfold dayV; rw [h1]; rfl⟩
theorem day_ok {B : LBk} {id day : Int} (h : hasB B id = true) (hv : vday day = true) : dayE B id day = 0 ∧ dayV B id day = acr B id day := by
  have h1 : dayE B id day = 0 := by unfold dayE; rw [if_neg (by rw [h]; decide), if_neg (by rw [hv]; decide)]
  exact ⟨h1, by unfold dayV; rw [if_pos h1]⟩
theorem dayRet_of {B : LBk} {id day E : Int} {V : LAcr} {w w' : World} {e : Ending} (h : dayE B id day = E ∧ dayV B id day = V) (he : e = .returned (.tuple #[AcrV V, .int .i64 E])) (hb : Below w.heap.size w w') : DayRet B id day w e w' := by
  unfold DayRet
  rw [h.1, h.2]
  exact ⟨he, hb⟩
theorem zAcrV : AcrV zAcr = .agg #[.int .i64 0, .int .i64 0, .int .i64 0, .int .i64 0, .int .u64 0, .int .i64 0, .int .u64 0] := rfl
set_option maxRecDepth 8000 in
set_option maxHeartbeats 1000000 in
theorem day_any (B : LBk) (hB : BkOK B) (id day : Int) (w : World) (hw : BkIn w B) :
    Calls Tryz.prog 21 #[.agg B.C, .int .i64 id, .int .i64 day] w (DayRet B id day w) := by
  have HB := hide hB
  have HW := hide hw
  have HS := hide (bk_size hB)
  have h19 := hB.bks.jou
  obtain ⟨x, hx⟩ : ∃ x, x = getA B.a id B.an := ⟨_, rfl⟩
  obtain ⟨h, hh⟩ : ∃ h, h = hasA B.a id B.an := ⟨_, rfl⟩
  have HF := hide (fun W hr => by have t := find_any B.C B.aA B.an B.ac B.jA B.jn B.jc HB.out.bks B.a id HB.out.an W hr; rw [← hx, ← hh] at t; exact t)
  cases h with
  | false =>
    have HV := hide (day_no day (show hasB B id = false from hh.symm))
    clear hB hw hx hh h19
    go_enter Tryz.func21, Tryz.ntmps21
    go_wp2_with (with_reducible refine wpList_load_row rfl 33 (.tmp 3) rfl w.heap.size rfl 33 B.C (0, 0) _ (two_boxes _ _ _) Tryz.underlying33 rfl HS.out ?_)
    refine (HF.out _ (HW.out.acc.below belT)).mono ?_
    rintro e w5 ⟨rfl, hb⟩
    have X5 := hide (blk_below hb (by simp; omega) (two_boxes _ _ _))
    have q5B : Below w.heap.size w w5 := qB hb
    have q5z := hb.size
    try simp at q5z
    have q5t : w.heap.size ≤ w5.heap.size := (by omega)
    have q5s0 : w.heap.size + 1 < w5.heap.size := (by omega)
    have q5n0_0 : ¬ w5.heap.size = w.heap.size + 1 := (by omega)
    have q5n0_1 : ¬ w5.heap.size + 1 = w.heap.size + 1 := (by omega)
    have q5n0_2 : ¬ w5.heap.size + 2 = w.heap.size + 1 := (by omega)
    have q5c0_0 := cel hb (w.heap.size + 1) 0
    simp [go_sem, *] at q5c0_0
    have q5c0_1 := cel hb (w.heap.size + 1) 1
    simp [go_sem, *] at q5c0_1
    have q5c0_2 := cel hb (w.heap.size + 1) 2
    simp [go_sem, *] at q5c0_2
    have q5c0_3 := cel hb (w.heap.size + 1) 3
    simp [go_sem, *] at q5c0_3
    have q5c0_4 := cel hb (w.heap.size + 1) 4
    simp [go_sem, *] at q5c0_4
    have q5c0_5 := cel hb (w.heap.size + 1) 5
    simp [go_sem, *] at q5c0_5
    have q5c0_6 := cel hb (w.heap.size + 1) 6
    simp [go_sem, *] at q5c0_6
    have q5f0 := fun o => fro hb (w.heap.size + 1) o
    simp [go_sem, *] at q5f0
    have q5o := belO q5B
    clear hb
    have B5 := hide q5B
    have zz1 : w.heap.size < w5.heap.size := by omega
    have zz2 : w.heap.size ≤ w5.heap.size := by omega
    have zz3 : w.heap.size < w5.heap.size + 1 := by omega
    go_wp2_with fail
    refine bodyPost_ret (by simp [results, Tryz.results21, go_sem, *] <;> rfl) rfl ?_
    refine dayRet_of HV.out (by rw [zAcrV]) (B5.out.trans ?_)
    (repeat (first | (with_reducible first | exact Below.refl _ _ | assumption | refine Below.drew ?_) | ((with_reducible first | refine Below.alloc ?_ ?_ _ | refine Below.setCell ?_ ?_ _); rotate_left; (first | omega | (simp <;> omega)))))
  | true =>
    cases hv : vday day with
    | false =>
      have HV := hide (day_bad (show hasB B id = true from hh.symm) hv)
      have HD := hide hv
      clear hB hw hx hh hv h19
      go_enter Tryz.func21, Tryz.ntmps21
      go_wp2_with (with_reducible refine wpList_load_row rfl 33 (.tmp 3) rfl w.heap.size rfl 33 B.C (0, 0) _ (two_boxes _ _ _) Tryz.underlying33 rfl HS.out ?_)
      refine (HF.out _ (HW.out.acc.below belT)).mono ?_
      rintro e w5 ⟨rfl, hb⟩
      have X5 := hide (blk_below hb (by simp; omega) (two_boxes _ _ _))
      have q5B : Below w.heap.size w w5 := qB hb
      have q5z := hb.size
      try simp at q5z
      have q5t : w.heap.size ≤ w5.heap.size := (by omega)
      have q5s0 : w.heap.size + 1 < w5.heap.size := (by omega)
      have q5n0_0 : ¬ w5.heap.size = w.heap.size + 1 := (by omega)
      have q5n0_1 : ¬ w5.heap.size + 1 = w.heap.size + 1 := (by omega)
      have q5n0_2 : ¬ w5.heap.size + 2 = w.heap.size + 1 := (by omega)
      have q5c0_0 := cel hb (w.heap.size + 1) 0
      simp [go_sem, *] at q5c0_0
      have q5c0_1 := cel hb (w.heap.size + 1) 1
      simp [go_sem, *] at q5c0_1
      have q5c0_2 := cel hb (w.heap.size + 1) 2
      simp [go_sem, *] at q5c0_2
      have q5c0_3 := cel hb (w.heap.size + 1) 3
      simp [go_sem, *] at q5c0_3
      have q5c0_4 := cel hb (w.heap.size + 1) 4
      simp [go_sem, *] at q5c0_4
      have q5c0_5 := cel hb (w.heap.size + 1) 5
      simp [go_sem, *] at q5c0_5
      have q5c0_6 := cel hb (w.heap.size + 1) 6
      simp [go_sem, *] at q5c0_6
      have q5f0 := fun o => fro hb (w.heap.size + 1) o
      simp [go_sem, *] at q5f0
      have q5o := belO q5B
      clear hb
      have B5 := hide q5B
      have zz1 : w.heap.size < w5.heap.size := by omega
      have zz2 : w.heap.size ≤ w5.heap.size := by omega
      have zz3 : w.heap.size < w5.heap.size + 1 := by omega
      go_wp2_with fail
      refine (valid_any day _).mono ?_
      rintro e w9 ⟨rfl, rfl⟩
      rw [HD.out]
      go_wp2_with fail
      refine bodyPost_ret (by simp [results, Tryz.results21, go_sem, *] <;> rfl) rfl ?_
      refine dayRet_of HV.out (by rw [zAcrV]) (B5.out.trans ?_)
      (repeat (first | (with_reducible first | exact Below.refl _ _ | assumption | refine Below.drew ?_) | ((with_reducible first | refine Below.alloc ?_ ?_ _ | refine Below.setCell ?_ ?_ _); rotate_left; (first | omega | (simp <;> omega)))))
    | true =>
      have HD := hide hv
      have HV := hide (day_ok (show hasB B id = true from hh.symm) hv)
      clear hB hw hx hh hv
      obtain ⟨Ac, hAc⟩ : ∃ a, a = acr B id day := ⟨_, rfl⟩
      have HD1 := hide (fun bi bb W h1 h2 h3 h4 => by have t := daily1_any B HB.out id day bi bb W h1 h2 h3 h4; rw [← hAc] at t; exact t)
      rw [← hAc] at HV
      clear hAc
      go_enter Tryz.func21, Tryz.ntmps21
      go_wp2_with (with_reducible refine wpList_load_row rfl 33 (.tmp 3) rfl w.heap.size rfl 33 B.C (0, 0) _ (two_boxes _ _ _) Tryz.underlying33 rfl HS.out ?_)
      refine (HF.out _ (HW.out.acc.below belT)).mono ?_
      rintro e w5 ⟨rfl, hb⟩
      have X5 := hide (blk_below hb (by simp; omega) (two_boxes _ _ _))
      have q5B : Below w.heap.size w w5 := qB hb
      have q5z := hb.size
      try simp at q5z
      have q5t : w.heap.size ≤ w5.heap.size := (by omega)
      have q5s0 : w.heap.size + 1 < w5.heap.size := (by omega)
      have q5n0_0 : ¬ w5.heap.size = w.heap.size + 1 := (by omega)
      have q5n0_1 : ¬ w5.heap.size + 1 = w.heap.size + 1 := (by omega)
      have q5n0_2 : ¬ w5.heap.size + 2 = w.heap.size + 1 := (by omega)
      have q5c0_0 := cel hb (w.heap.size + 1) 0
      simp [go_sem, *] at q5c0_0
      have q5c0_1 := cel hb (w.heap.size + 1) 1
      simp [go_sem, *] at q5c0_1
      have q5c0_2 := cel hb (w.heap.size + 1) 2
      simp [go_sem, *] at q5c0_2
      have q5c0_3 := cel hb (w.heap.size + 1) 3
      simp [go_sem, *] at q5c0_3
      have q5c0_4 := cel hb (w.heap.size + 1) 4
      simp [go_sem, *] at q5c0_4
      have q5c0_5 := cel hb (w.heap.size + 1) 5
      simp [go_sem, *] at q5c0_5
      have q5c0_6 := cel hb (w.heap.size + 1) 6
      simp [go_sem, *] at q5c0_6
      have q5f0 := fun o => fro hb (w.heap.size + 1) o
      simp [go_sem, *] at q5f0
      have q5o := belO q5B
      clear hb
      have B5 := hide q5B
      have zz1 : w.heap.size < w5.heap.size := by omega
      have zz2 : w.heap.size ≤ w5.heap.size := by omega
      have zz3 : w.heap.size < w5.heap.size + 1 := by omega
      go_wp2_with fail
      refine (valid_any day _).mono ?_
      rintro e w9 ⟨rfl, rfl⟩
      rw [HD.out]
      go_wp2_with (with_reducible refine wpList_load_row rfl 33 (.tmp 3) rfl w.heap.size rfl 33 B.C (0, 0) _ (blk_under X5.out) Tryz.underlying33 rfl HS.out ?_)
      refine (daily_any B.C id _).mono ?_
      rintro e w6 ⟨rfl, rfl⟩
      go_wp2_with fail
      refine (HD1.out (w5.heap.size + 1 + 1) (w5.heap.size + 1) _ (HW.out.below (B5.out.trans belT)) (by simp [go_sem]) (by simp) (blk_under (blk_new (by simp)))).mono ?_
      rintro e w7 ⟨rfl, hb⟩
      have q7B : Below w5.heap.size w5 w7 := qB hb
      have q7z := hb.size
      try simp at q7z
      have q7t : w5.heap.size ≤ w7.heap.size := (by omega)
      have q7s0 : w.heap.size + 1 < w7.heap.size := (by omega)
      have q7n0_0 : ¬ w7.heap.size = w.heap.size + 1 := (by omega)
      have q7n0_1 : ¬ w7.heap.size + 1 = w.heap.size + 1 := (by omega)
      have q7n0_2 : ¬ w7.heap.size + 2 = w.heap.size + 1 := (by omega)
      have q7c0_0 := cel hb (w.heap.size + 1) 0
      simp [go_sem, *] at q7c0_0
      have q7c0_1 := cel hb (w.heap.size + 1) 1
      simp [go_sem, *] at q7c0_1
      have q7c0_2 := cel hb (w.heap.size + 1) 2
      simp [go_sem, *] at q7c0_2
      have q7c0_3 := cel hb (w.heap.size + 1) 3
      simp [go_sem, *] at q7c0_3
      have q7c0_4 := cel hb (w.heap.size + 1) 4
      simp [go_sem, *] at q7c0_4
      have q7c0_5 := cel hb (w.heap.size + 1) 5
      simp [go_sem, *] at q7c0_5
      have q7c0_6 := cel hb (w.heap.size + 1) 6
      simp [go_sem, *] at q7c0_6
      have q7f0 := fun o => fro hb (w.heap.size + 1) o
      simp [go_sem, *] at q7f0
      have q7o := belO q7B
      clear hb q5o q5f0 q5c0_6 q5c0_5 q5c0_4 q5c0_3 q5c0_2 q5c0_1 q5c0_0 q5s0 q5z q5B
      go_wp2_with fail
      refine bodyPost_ret (by simp [results, Tryz.results21, go_sem, *] <;> rfl) rfl ?_
      refine dayRet_of HV.out (by with_reducible rfl) ?_
      refine B5.out.trans (Below.trans (q7B.mono (by omega)) ?_)
      (repeat (first | (with_reducible first | exact Below.refl _ _ | assumption | refine Below.drew ?_) | ((with_reducible first | refine Below.alloc ?_ ?_ _ | refine Below.setCell ?_ ?_ _); rotate_left; (first | omega | (simp <;> omega)))))
end Go.Proofs.YtdjlaiilngechaaGreatDoor
