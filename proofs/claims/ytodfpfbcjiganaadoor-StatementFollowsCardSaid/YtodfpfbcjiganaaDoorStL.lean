/- R45.Check. -/
import Derived.Test.YtodfpfbcjiganaaDoorStK
namespace Go.Proofs.YtodfpfbcjiganaaDoor
set_option linter.unusedSimpArgs false
set_option linter.unusedVariables false
open Go.RowKit

set_option maxRecDepth 4000 in
set_option maxHeartbeats 2000000 in
theorem rcheck_any (ac no f t op cl : Int) (lA : Option Addr) (ln lc : Nat) (P : Nat → LPos) (hn : ln ≤ 1000000) (w : World) (hr : RowPos w lA ln P) :
    Calls Tryd.prog 15 #[.agg #[.int .i64 ac, .int .i64 no, .int .i64 f, .int .i64 t, .int .i64 op, .int .i64 cl, .slice lA ln lc]] w fun e w' => e = .returned (.int .i64 (chkS ac no f t op cl P ln)) ∧ Below w.heap.size w w' := by
  have HR := hide hr
  clear hr
  go_enter Tryd.func15, Tryd.ntmps15
  by_cases h1 : ac < 1000
  · have HS := hide (chk1 (no := no) (f := f) (t := t) (op := op) (cl := cl) (P := P) (n := ln) h1)
    go_wp2_with fail
    refine bodyPost_ret (by simp [results, Tryd.results15, go_sem, *] <;> rfl) rfl ⟨?_, ?_⟩
    · rw [HS.out]
    · (repeat (first | (with_reducible exact Below.refl _ _) | (with_reducible assumption) | ((with_reducible refine Below.alloc ?_ ?_ _); (rotate_left); (first | omega | (simp <;> omega))) | ((with_reducible refine Below.setCell ?_ ?_ _); (rotate_left); (first | omega | (simp <;> omega))) | (with_reducible refine Below.drew ?_) | (with_reducible refine below_drewN ?_ _)))
  · have H1 := hide h1
    have h1' := Int.not_lt.1 h1
    clear h1
    by_cases h2 : no < 1
    · have HS := hide (chk2 (f := f) (t := t) (op := op) (cl := cl) (P := P) (n := ln) H1.out h2)
      go_wp2_with fail
      refine bodyPost_ret (by simp [results, Tryd.results15, go_sem, *] <;> rfl) rfl ⟨?_, ?_⟩
      · rw [HS.out]
      · (repeat (first | (with_reducible exact Below.refl _ _) | (with_reducible assumption) | ((with_reducible refine Below.alloc ?_ ?_ _); (rotate_left); (first | omega | (simp <;> omega))) | ((with_reducible refine Below.setCell ?_ ?_ _); (rotate_left); (first | omega | (simp <;> omega))) | (with_reducible refine Below.drew ?_) | (with_reducible refine below_drewN ?_ _)))
    · have H2 := hide h2
      have h2' := Int.not_lt.1 h2
      clear h2
      cases hf : vday f with
      | false =>
        have HS := hide (chk3 (t := t) (op := op) (cl := cl) (P := P) (n := ln) H1.out H2.out hf)
        have HF := hide hf
        clear hf
        go_wp2_with fail
        refine (rvalid_any f _).mono ?_
        rintro e w9 ⟨rfl, rfl⟩
        rw [HF.out]
        go_wp2_with fail
        refine bodyPost_ret (by simp [results, Tryd.results15, go_sem, *] <;> rfl) rfl ⟨?_, ?_⟩
        · rw [HS.out]
        · (repeat (first | (with_reducible exact Below.refl _ _) | (with_reducible assumption) | ((with_reducible refine Below.alloc ?_ ?_ _); (rotate_left); (first | omega | (simp <;> omega))) | ((with_reducible refine Below.setCell ?_ ?_ _); (rotate_left); (first | omega | (simp <;> omega))) | (with_reducible refine Below.drew ?_) | (with_reducible refine below_drewN ?_ _)))
      | true =>
        have HF := hide hf
        clear hf
        cases ht : vday t with
        | false =>
          have HS := hide (chk4 (op := op) (cl := cl) (P := P) (n := ln) H1.out H2.out HF.out ht)
          have HT := hide ht
          clear ht
          go_wp2_with fail
          refine (rvalid_any f _).mono ?_
          rintro e w9 ⟨rfl, rfl⟩
          rw [HF.out]
          go_wp2_with fail
          refine (rvalid_any t _).mono ?_
          rintro e w9 ⟨rfl, rfl⟩
          rw [HT.out]
          go_wp2_with fail
          refine bodyPost_ret (by simp [results, Tryd.results15, go_sem, *] <;> rfl) rfl ⟨?_, ?_⟩
          · rw [HS.out]
          · (repeat (first | (with_reducible exact Below.refl _ _) | (with_reducible assumption) | ((with_reducible refine Below.alloc ?_ ?_ _); (rotate_left); (first | omega | (simp <;> omega))) | ((with_reducible refine Below.setCell ?_ ?_ _); (rotate_left); (first | omega | (simp <;> omega))) | (with_reducible refine Below.drew ?_) | (with_reducible refine below_drewN ?_ _)))
        | true =>
          have HT := hide ht
          clear ht
          by_cases hft : f > t
          · have HS := hide (chk5 (op := op) (cl := cl) (P := P) (n := ln) H1.out H2.out HF.out HT.out hft)
            have hft2 : t < f := hft
            clear hft
            go_wp2_with fail
            refine (rvalid_any f _).mono ?_
            rintro e w9 ⟨rfl, rfl⟩
            rw [HF.out]
            go_wp2_with fail
            refine (rvalid_any t _).mono ?_
            rintro e w9 ⟨rfl, rfl⟩
            rw [HT.out]
            go_wp2_with fail
            refine bodyPost_ret (by simp [results, Tryd.results15, go_sem, *] <;> rfl) rfl ⟨?_, ?_⟩
            · rw [HS.out]
            · (repeat (first | (with_reducible exact Below.refl _ _) | (with_reducible assumption) | ((with_reducible refine Below.alloc ?_ ?_ _); (rotate_left); (first | omega | (simp <;> omega))) | ((with_reducible refine Below.setCell ?_ ?_ _); (rotate_left); (first | omega | (simp <;> omega))) | (with_reducible refine Below.drew ?_) | (with_reducible refine below_drewN ?_ _)))
          · have HS := hide (chk6 (op := op) (cl := cl) (P := P) (n := ln) H1.out H2.out HF.out HT.out hft)
            have hft2 : f ≤ t := by omega
            clear hft
            go_wp2_with fail
            refine (rvalid_any f _).mono ?_
            rintro e w9 ⟨rfl, rfl⟩
            rw [HF.out]
            go_wp2_with fail
            refine (rvalid_any t _).mono ?_
            rintro e w9 ⟨rfl, rfl⟩
            rw [HT.out]
            go_wp2_with fail
            go_loopw [3, 4, 5] (fun v3 v4 v wr => RchI P f t op ln (w.alloc (.cells #[.int .i64 ac, .int .i64 no, .int .i64 f, .int .i64 t, .int .i64 op, .int .i64 cl, .slice lA ln lc] 40)) v3 v4 v wr) (fun _ _ v _ => ln - (intOf v).toNat)
            case atStart => exact ⟨0, by omega, rfl, rfl, rfl, fun i hi => by omega, by (repeat (first | (with_reducible exact Below.refl _ _) | (with_reducible assumption) | ((with_reducible refine Below.alloc ?_ ?_ _); (rotate_left); (first | omega | (simp <;> omega))) | ((with_reducible refine Below.setCell ?_ ?_ _); (rotate_left); (first | omega | (simp <;> omega))) | (with_reducible refine Below.drew ?_) | (with_reducible refine below_drewN ?_ _)))⟩
            case round =>
              obtain ⟨k, hk, rfl, rfl, rfl, hall, hb⟩ := hrel
              have HA := hide hall
              have H0 := hide hb
              clear hall
              have q1B : Below w.heap.size w wr := (by refine Below.trans ?_ (hb.mono (by first | omega | (simp <;> omega))); (repeat (first | (with_reducible exact Below.refl _ _) | (with_reducible assumption) | ((with_reducible refine Below.alloc ?_ ?_ _); (rotate_left); (first | omega | (simp <;> omega))) | ((with_reducible refine Below.setCell ?_ ?_ _); (rotate_left); (first | omega | (simp <;> omega))) | (with_reducible refine Below.drew ?_) | (with_reducible refine below_drewN ?_ _))))
              have q1z := hb.size
              try simp at q1z
              have q1t : w.heap.size ≤ wr.heap.size := (by omega)
              have q1s0 : w.heap.size < wr.heap.size := (by omega)
              have q1n0_0 : ¬ wr.heap.size = w.heap.size := (by omega)
              have q1n0_1 : ¬ wr.heap.size + 1 = w.heap.size := (by omega)
              have q1n0_2 : ¬ wr.heap.size + 2 = w.heap.size := (by omega)
              have q1c0_0 := hb.cell (p := ⟨w.heap.size, 0, none⟩) (by first | omega | (simp <;> omega))
              simp [go_sem, *] at q1c0_0
              have q1c0_1 := hb.cell (p := ⟨w.heap.size, 1, none⟩) (by first | omega | (simp <;> omega))
              simp [go_sem, *] at q1c0_1
              have q1c0_2 := hb.cell (p := ⟨w.heap.size, 2, none⟩) (by first | omega | (simp <;> omega))
              simp [go_sem, *] at q1c0_2
              have q1c0_3 := hb.cell (p := ⟨w.heap.size, 3, none⟩) (by first | omega | (simp <;> omega))
              simp [go_sem, *] at q1c0_3
              have q1c0_4 := hb.cell (p := ⟨w.heap.size, 4, none⟩) (by first | omega | (simp <;> omega))
              simp [go_sem, *] at q1c0_4
              have q1c0_5 := hb.cell (p := ⟨w.heap.size, 5, none⟩) (by first | omega | (simp <;> omega))
              simp [go_sem, *] at q1c0_5
              have q1c0_6 := hb.cell (p := ⟨w.heap.size, 6, none⟩) (by first | omega | (simp <;> omega))
              simp [go_sem, *] at q1c0_6
              have q1f0 := fun o => hb.frozen (p := ⟨w.heap.size, o, none⟩) (by first | omega | (simp <;> omega))
              simp [go_sem, *] at q1f0
              have q1o : ∀ b o, b < w.heap.size → wr.cell? ⟨b, o, none⟩ = w.cell? ⟨b, o, none⟩ := fun b o h => q1B.cell (p := ⟨b, o, none⟩) h
              clear hb
              by_cases hlt : k < ln
              · have hm : (k : Int) < ln := by omega
                have HK := hide hlt
                have hk0 : (0 : Int) ≤ k := by omega
                obtain ⟨b, off, rfl, hbl, c0, c1, c2, c3⟩ := (HR.out.below q1B).at hlt
                clear hlt hk
                by_cases g1 : (P k).en ≤ (prvP P k).en
                · have HB := hide (linE_bad (f := f) (t := t) (op := op) (cl := cl) HK.out (show ¬ goodP P f t k from fun hg => by have := hg.1; omega))
                  go_wp2_with fail
                  refine bodyPost_ret (by simp [results, Tryd.results15, go_sem, *] <;> rfl) rfl ⟨?_, ?_⟩
                  · rw [HS.out, HB.out]
                  · (repeat (first | (with_reducible exact Below.refl _ _) | (with_reducible assumption) | ((with_reducible refine Below.alloc ?_ ?_ _); (rotate_left); (first | omega | (simp <;> omega))) | ((with_reducible refine Below.setCell ?_ ?_ _); (rotate_left); (first | omega | (simp <;> omega))) | (with_reducible refine Below.drew ?_) | (with_reducible refine below_drewN ?_ _)))
                · have g1' := Int.not_le.1 g1
                  clear g1
                  by_cases g2 : (P k).dy < f
                  · have HB := hide (linE_bad (f := f) (t := t) (op := op) (cl := cl) HK.out (show ¬ goodP P f t k from fun hg => by have := hg.2.1; omega))
                    go_wp2_with fail
                    refine bodyPost_ret (by simp [results, Tryd.results15, go_sem, *] <;> rfl) rfl ⟨?_, ?_⟩
                    · rw [HS.out, HB.out]
                    · (repeat (first | (with_reducible exact Below.refl _ _) | (with_reducible assumption) | ((with_reducible refine Below.alloc ?_ ?_ _); (rotate_left); (first | omega | (simp <;> omega))) | ((with_reducible refine Below.setCell ?_ ?_ _); (rotate_left); (first | omega | (simp <;> omega))) | (with_reducible refine Below.drew ?_) | (with_reducible refine below_drewN ?_ _)))
                  · have g2' := Int.not_lt.1 g2
                    clear g2
                    by_cases g3 : (P k).dy > t
                    · have HB := hide (linE_bad (f := f) (t := t) (op := op) (cl := cl) HK.out (show ¬ goodP P f t k from fun hg => by have := hg.2.2; omega))
                      have g3' : t < (P k).dy := g3
                      clear g3
                      go_wp2_with fail
                      refine bodyPost_ret (by simp [results, Tryd.results15, go_sem, *] <;> rfl) rfl ⟨?_, ?_⟩
                      · rw [HS.out, HB.out]
                      · (repeat (first | (with_reducible exact Below.refl _ _) | (with_reducible assumption) | ((with_reducible refine Below.alloc ?_ ?_ _); (rotate_left); (first | omega | (simp <;> omega))) | ((with_reducible refine Below.setCell ?_ ?_ _); (rotate_left); (first | omega | (simp <;> omega))) | (with_reducible refine Below.drew ?_) | (with_reducible refine below_drewN ?_ _)))
                    · have g3' := Int.not_lt.1 g3
                      clear g3
                      have HG := hide (goods HA.out ⟨g1', g2', g3'⟩)
                      go_wp2_with fail
                      go_roundw
                      case rel => exact ⟨k + 1, HK.out, rfl, rfl, by go_num, HG.out, by refine Below.trans H0.out ?_; (repeat (first | (with_reducible exact Below.refl _ _) | (with_reducible assumption) | ((with_reducible refine Below.alloc ?_ ?_ _); (rotate_left); (first | omega | (simp <;> omega))) | ((with_reducible refine Below.setCell ?_ ?_ _); (rotate_left); (first | omega | (simp <;> omega))) | (with_reducible refine Below.drew ?_) | (with_reducible refine below_drewN ?_ _)))⟩
                      case measure => have := HK.out; simp [intOf]; omega
              · obtain rfl : k = ln := by omega
                clear hlt hk
                by_cases hs : sumP P op k = cl
                · have h1 : (sumP P op k != cl) = false := by rw [hs]; simp
                  have HL := hide (linE_ok HA.out hs)
                  clear hs
                  go_wp2_with fail
                  refine bodyPost_ret (by simp [results, Tryd.results15, go_sem, *] <;> rfl) rfl ⟨?_, ?_⟩
                  · rw [HS.out, HL.out]
                  · (repeat (first | (with_reducible exact Below.refl _ _) | (with_reducible assumption) | ((with_reducible refine Below.alloc ?_ ?_ _); (rotate_left); (first | omega | (simp <;> omega))) | ((with_reducible refine Below.setCell ?_ ?_ _); (rotate_left); (first | omega | (simp <;> omega))) | (with_reducible refine Below.drew ?_) | (with_reducible refine below_drewN ?_ _)))
                · have h1 : (sumP P op k != cl) = true := by simpa using hs
                  have HL := hide (linE_sum (f := f) (t := t) hs)
                  clear hs
                  go_wp2_with fail
                  refine bodyPost_ret (by simp [results, Tryd.results15, go_sem, *] <;> rfl) rfl ⟨?_, ?_⟩
                  · rw [HS.out, HL.out]
                  · (repeat (first | (with_reducible exact Below.refl _ _) | (with_reducible assumption) | ((with_reducible refine Below.alloc ?_ ?_ _); (rotate_left); (first | omega | (simp <;> omega))) | ((with_reducible refine Below.setCell ?_ ?_ _); (rotate_left); (first | omega | (simp <;> omega))) | (with_reducible refine Below.drew ?_) | (with_reducible refine below_drewN ?_ _)))
end Go.Proofs.YtodfpfbcjiganaaDoor
