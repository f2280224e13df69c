/- Texts laid together: AcW. -/
import Derived.Test.YtfolccncegejjaaQPrO
import Derived.Test.YtfolccncegejjaaQReg
namespace Go.Proofs.Ytfolccncegejjaa
set_option maxRecDepth 4000
set_option linter.unusedSimpArgs false
set_option linter.unusedVariables false
open Go.RowKit
def fewP (B : LBk) : Prop := B.an ≤ 12 ∧ B.pn ≤ 30 ∧ B.jn ≤ 60 ∧ (∀ k, k < B.pn → (B.P k).cr.tn ≤ 20 ∧ (B.P k).db.tn ≤ 20) ∧ ∀ k, k < B.jn → (B.E k).ln ≤ 20
open Classical in
noncomputable def fewB (B : LBk) : Bool := decide (fewP B)
theorem fewB_no {B : LBk} (h : ¬ fewP B) : fewB B = false := by unfold fewB; simpa using h
theorem fewB_yes {B : LBk} (h : fewP B) : fewB B = true := by unfold fewB; simpa using h
theorem fewB_iff {B : LBk} : fewB B = true ↔ fewP B := by unfold fewB; simp
/-- Small books are books that the walks take. -/
theorem few_ok {w : World} {B : LBk} (hA : BkArg w B) (hf : fewB B = true) : BkOK B ∧ BkIn w B := by
  obtain ⟨h1, h2, h3, h4, h5⟩ := fewB_iff.1 hf
  refine ⟨⟨hA.bks, hA.pro, by omega, by omega, by omega, hA.ones, fun k hk => (hA.cells k hk).1, fun k hk => ?_, fun k hk => ?_⟩, ⟨hA.acc, ⟨hA.ent, fun k hk => by have := h5 k hk; omega⟩, hA.row⟩⟩
  · have := (h4 k hk).1
    exact ⟨by omega, (hA.cells k hk).2.1, (hA.cells k hk).2.2.2.1⟩
  · have := (h4 k hk).2
    exact ⟨by omega, (hA.cells k hk).2.2.1, (hA.cells k hk).2.2.2.2⟩
def FwP (B : LBk) (W : World) (v : Value) (wr : World) : Prop := ∃ k : Nat, k ≤ B.pn ∧ v = .int .i64 k ∧ (∀ i, i < k → (B.P i).cr.tn ≤ 20 ∧ (B.P i).db.tn ≤ 20) ∧ Below W.heap.size W wr
def FwE (B : LBk) (W : World) (v : Value) (wr : World) : Prop := ∃ k : Nat, k ≤ B.jn ∧ v = .int .i64 k ∧ (∀ i, i < k → (B.E i).ln ≤ 20) ∧ Below W.heap.size W wr
set_option maxRecDepth 8000 in
set_option maxHeartbeats 4000000 in
theorem few_any (B : LBk) (w : World) (hA : BkArg w B) : Calls Try.prog 9 #[.agg B.C] w fun e w' => e = .returned (.bool (fewB B)) ∧ Below w.heap.size w w' := by
  have HA := hide hA
  have h17 := hA.pro
  have h18 := hA.bks.acc
  have h19 := hA.bks.jou
  obtain ⟨pA, hpA⟩ : ∃ x, x = B.pA := ⟨_, rfl⟩
  obtain ⟨jA, hjA⟩ : ∃ x, x = B.jA := ⟨_, rfl⟩
  rw [← hpA] at h17
  rw [← hjA] at h19
  have HRP := hide (show RowPro w pA B.pn B.P from by rw [hpA]; exact hA.row)
  have HRE := hide (show RowEnt w jA B.jn B.E from by rw [hjA]; exact hA.ent)
  clear hA hpA hjA
  by_cases a1 : B.an > 12
  · have HD := hide (fewB_no (B := B) (fun h => by have := h.1; omega))
    have a2 : (12 : Int) < B.an := by omega
    clear a1
    go_enter Try.func9, Try.ntmps9
    go_wp2_with fail
    go_ret
    exact ⟨by rw [HD.out]; rfl, by (repeat (first | (with_reducible first | exact Below.refl _ _ | assumption | refine Below.drew ?_ | refine below_drewN ?_ _) | ((with_reducible first | refine Below.alloc ?_ ?_ _ | refine Below.setCell ?_ ?_ _); rotate_left; (first | omega | (simp <;> omega)))))⟩
  · have a2 : (B.an : Int) ≤ 12 := by omega
    by_cases b1 : B.pn > 30
    · have HD := hide (fewB_no (B := B) (fun h => by have := h.2.1; omega))
      have b2 : (30 : Int) < B.pn := by omega
      clear a1 b1
      go_enter Try.func9, Try.ntmps9
      go_wp2_with fail
      go_ret
      exact ⟨by rw [HD.out]; rfl, by (repeat (first | (with_reducible first | exact Below.refl _ _ | assumption | refine Below.drew ?_ | refine below_drewN ?_ _) | ((with_reducible first | refine Below.alloc ?_ ?_ _ | refine Below.setCell ?_ ?_ _); rotate_left; (first | omega | (simp <;> omega)))))⟩
    · have b2 : (B.pn : Int) ≤ 30 := by omega
      by_cases c1 : B.jn > 60
      · have HD := hide (fewB_no (B := B) (fun h => by have := h.2.2.1; omega))
        have c2 : (60 : Int) < B.jn := by omega
        clear a1 b1 c1
        go_enter Try.func9, Try.ntmps9
        go_wp2_with fail
        go_ret
        exact ⟨by rw [HD.out]; rfl, by (repeat (first | (with_reducible first | exact Below.refl _ _ | assumption | refine Below.drew ?_ | refine below_drewN ?_ _) | ((with_reducible first | refine Below.alloc ?_ ?_ _ | refine Below.setCell ?_ ?_ _); rotate_left; (first | omega | (simp <;> omega)))))⟩
      · have c2 : (B.jn : Int) ≤ 60 := by omega
        have HS := hide (And.intro a1 (And.intro b1 c1))
        have hpn : B.pn ≤ 30 := by omega
        have hjn : B.jn ≤ 60 := by omega
        clear a1 b1 c1
        go_enter Try.func9, Try.ntmps9
        go_wp2_with fail
        go_loopw [3] (fun v wr => FwP B (w.alloc (.cells B.C 33)) v wr) (fun v _ => B.pn - (intOf v).toNat)
        case atStart => exact ⟨0, by omega, rfl, fun i hi => by omega, by (repeat (first | (with_reducible first | exact Below.refl _ _ | assumption | refine Below.drew ?_ | refine below_drewN ?_ _) | ((with_reducible first | refine Below.alloc ?_ ?_ _ | refine Below.setCell ?_ ?_ _); rotate_left; (first | omega | (simp <;> omega)))))⟩
        case round =>
          obtain ⟨k, hk, rfl, hl, hb⟩ := hrel
          have HL := hide hl
          have H0 := hide hb
          clear hl
          have q1B : Below w.heap.size w wr := (by refine Below.trans ?_ (hb.mono (by first | omega | (simp <;> omega))); (repeat (first | (with_reducible first | exact Below.refl _ _ | assumption | refine Below.drew ?_ | refine below_drewN ?_ _) | ((with_reducible first | refine Below.alloc ?_ ?_ _ | refine Below.setCell ?_ ?_ _); rotate_left; (first | omega | (simp <;> omega))))))
          have q1z := hb.size
          try simp at q1z
          have q1t : w.heap.size ≤ wr.heap.size := (by omega)
          have q1s0 : w.heap.size < wr.heap.size := (by omega)
          have q1n0_0 : ¬ wr.heap.size = w.heap.size := (by omega)
          have q1n0_1 : ¬ wr.heap.size + 1 = w.heap.size := (by omega)
          have q1n0_2 : ¬ wr.heap.size + 2 = w.heap.size := (by omega)
          have q1c0_17 := hb.cell (p := ⟨w.heap.size, 17, none⟩) (by first | omega | (simp <;> omega))
          simp [go_sem, *] at q1c0_17
          have q1c0_18 := hb.cell (p := ⟨w.heap.size, 18, none⟩) (by first | omega | (simp <;> omega))
          simp [go_sem, *] at q1c0_18
          have q1c0_19 := hb.cell (p := ⟨w.heap.size, 19, none⟩) (by first | omega | (simp <;> omega))
          simp [go_sem, *] at q1c0_19
          have q1f0 := fun o => hb.frozen (p := ⟨w.heap.size, o, none⟩) (by first | omega | (simp <;> omega))
          simp [go_sem, *] at q1f0
          have q1o : ∀ b o, b < w.heap.size → wr.cell? ⟨b, o, none⟩ = w.cell? ⟨b, o, none⟩ := fun b o h => q1B.cell (p := ⟨b, o, none⟩) h
          clear hb
          by_cases hlt : k < B.pn
          · have hm : (k : Int) < B.pn := by omega
            have hk0 : (0 : Int) ≤ k := by omega
            have HK := hide hlt
            obtain ⟨b, off, rfl, hbl, hc⟩ := (HRP.out.below q1B).row (by omega : 0 < B.pn)
            have d7 := hc k 7 _ hlt (HA.out.cells k hlt).1.c0
            have d12 := hc k 12 _ hlt (HA.out.cells k hlt).1.d0
            clear hc hlt hk
            by_cases t1 : (B.P k).cr.tn > 20
            · have HD := hide (fewB_no (B := B) (fun h => by have := (h.2.2.2.1 k HK.out).1; omega))
              have t2 : (20 : Int) < (B.P k).cr.tn := by omega
              clear t1
              go_wp2_with fail
              go_ret
              exact ⟨by rw [HD.out]; rfl, by (repeat (first | (with_reducible first | exact Below.refl _ _ | assumption | refine Below.drew ?_ | refine below_drewN ?_ _) | ((with_reducible first | refine Below.alloc ?_ ?_ _ | refine Below.setCell ?_ ?_ _); rotate_left; (first | omega | (simp <;> omega)))))⟩
            · have t2 : ((B.P k).cr.tn : Int) ≤ 20 := by omega
              by_cases u1 : (B.P k).db.tn > 20
              · have HD := hide (fewB_no (B := B) (fun h => by have := (h.2.2.2.1 k HK.out).2; omega))
                have u2 : (20 : Int) < (B.P k).db.tn := by omega
                clear t1 u1
                go_wp2_with fail
                go_ret
                exact ⟨by rw [HD.out]; rfl, by (repeat (first | (with_reducible first | exact Below.refl _ _ | assumption | refine Below.drew ?_ | refine below_drewN ?_ _) | ((with_reducible first | refine Below.alloc ?_ ?_ _ | refine Below.setCell ?_ ?_ _); rotate_left; (first | omega | (simp <;> omega)))))⟩
              · have u2 : ((B.P k).db.tn : Int) ≤ 20 := by omega
                have HT := hide (And.intro t1 u1)
                clear t1 u1
                go_wp2_with fail
                go_roundw
                case rel => exact ⟨k + 1, HK.out, by go_num, fun i hi => by
                  rcases Nat.lt_succ_iff_lt_or_eq.1 hi with h | rfl
                  · exact HL.out i h
                  · exact ⟨by have := HT.out.1; omega, by have := HT.out.2; omega⟩, H0.out⟩
                case measure => have := HK.out; simp [intOf]; omega
          · obtain rfl : k = B.pn := by omega
            clear hlt hk
            go_wp2_with fail
            go_loopw [4] (fun v wr => FwE B (w.alloc (.cells B.C 33)) v wr) (fun v _ => B.jn - (intOf v).toNat)
            case atStart => exact ⟨0, by omega, rfl, fun i hi => by omega, H0.out⟩
            case round =>
              obtain ⟨k, hk, rfl, hl2, hb⟩ := hrel
              have HL2 := hide hl2
              have H2 := hide hb
              clear hl2
              have q2B : Below w.heap.size w wr := (by refine Below.trans ?_ (hb.mono (by first | omega | (simp <;> omega))); (repeat (first | (with_reducible first | exact Below.refl _ _ | assumption | refine Below.drew ?_ | refine below_drewN ?_ _) | ((with_reducible first | refine Below.alloc ?_ ?_ _ | refine Below.setCell ?_ ?_ _); rotate_left; (first | omega | (simp <;> omega))))))
              have q2z := hb.size
              try simp at q2z
              have q2t : w.heap.size ≤ wr.heap.size := (by omega)
              have q2s0 : w.heap.size < wr.heap.size := (by omega)
              have q2n0_0 : ¬ wr.heap.size = w.heap.size := (by omega)
              have q2n0_1 : ¬ wr.heap.size + 1 = w.heap.size := (by omega)
              have q2n0_2 : ¬ wr.heap.size + 2 = w.heap.size := (by omega)
              have q2c0_17 := hb.cell (p := ⟨w.heap.size, 17, none⟩) (by first | omega | (simp <;> omega))
              simp [go_sem, *] at q2c0_17
              have q2c0_18 := hb.cell (p := ⟨w.heap.size, 18, none⟩) (by first | omega | (simp <;> omega))
              simp [go_sem, *] at q2c0_18
              have q2c0_19 := hb.cell (p := ⟨w.heap.size, 19, none⟩) (by first | omega | (simp <;> omega))
              simp [go_sem, *] at q2c0_19
              have q2f0 := fun o => hb.frozen (p := ⟨w.heap.size, o, none⟩) (by first | omega | (simp <;> omega))
              simp [go_sem, *] at q2f0
              have q2o : ∀ b o, b < w.heap.size → wr.cell? ⟨b, o, none⟩ = w.cell? ⟨b, o, none⟩ := fun b o h => q2B.cell (p := ⟨b, o, none⟩) h
              clear hb
              by_cases hlt : k < B.jn
              · have hm : (k : Int) < B.jn := by omega
                have hk0 : (0 : Int) ≤ k := by omega
                have HK := hide hlt
                obtain ⟨b, off, rfl, hbl, e0, e1, e2, e3, e4, e5, e6, e7, e8, e9⟩ := (HRE.out.below q2B).at hlt
                clear hlt hk
                by_cases t1 : (B.E k).ln > 20
                · have HD := hide (fewB_no (B := B) (fun h => by have := h.2.2.2.2 k HK.out; omega))
                  have t2 : (20 : Int) < (B.E k).ln := by omega
                  clear t1
                  go_wp2_with fail
                  go_ret
                  exact ⟨by rw [HD.out]; rfl, by (repeat (first | (with_reducible first | exact Below.refl _ _ | assumption | refine Below.drew ?_ | refine below_drewN ?_ _) | ((with_reducible first | refine Below.alloc ?_ ?_ _ | refine Below.setCell ?_ ?_ _); rotate_left; (first | omega | (simp <;> omega)))))⟩
                · have t2 : ((B.E k).ln : Int) ≤ 20 := by omega
                  have HT := hide t1
                  clear t1
                  go_wp2_with fail
                  go_roundw
                  case rel => exact ⟨k + 1, HK.out, by go_num, fun i hi => by
                    rcases Nat.lt_succ_iff_lt_or_eq.1 hi with h | rfl
                    · exact HL2.out i h
                    · have := HT.out; omega, H2.out⟩
                  case measure => have := HK.out; simp [intOf]; omega
              · obtain rfl : k = B.jn := by omega
                clear hlt hk
                have HD := hide (fewB_yes (B := B) ⟨by have := HS.out.1; omega, by have := HS.out.2.1; omega, by have := HS.out.2.2; omega, HL.out, HL2.out⟩)
                go_wp2_with fail
                go_ret
                exact ⟨by rw [HD.out]; rfl, by (repeat (first | (with_reducible first | exact Below.refl _ _ | assumption | refine Below.drew ?_ | refine below_drewN ?_ _) | ((with_reducible first | refine Below.alloc ?_ ?_ _ | refine Below.setCell ?_ ?_ _); rotate_left; (first | omega | (simp <;> omega)))))⟩
end Go.Proofs.Ytfolccncegejjaa
