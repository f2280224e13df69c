/- Texts laid together: Ga. -/
import Derived.Test.YtdjlaiilngechaaGreatDoorVTd
import Derived.Test.YtdjlaiilngechaaGreatDoorVWc
import Derived.Test.YtdjlaiilngechaaGreatDoorVTierM
import Derived.Test.YtdjlaiilngechaaGreatDoorVK0
namespace Go.Proofs.YtdjlaiilngechaaGreatDoor
set_option maxRecDepth 4000
set_option linter.unusedSimpArgs false
set_option linter.unusedVariables false
open Go.RowKit
def GrInv (n : Nat) (f g : Nat → Int) (t : Int) (w : World) (v : Value) (wr : World) : Prop :=
  ∃ k : Nat, k ≤ n ∧ v = .int .i64 k ∧ allS k f g ∧ Below w.heap.size w wr ∧ w.heap.size + 1 < wr.heap.size ∧
    (wr.cell? ⟨w.heap.size, 0, none⟩ = some (.int .i64 0) ∧ wr.cell? ⟨w.heap.size, 1, none⟩ = some (.int .u64 0) ∧ ∀ o, wr.frozen? ⟨w.heap.size, o, none⟩ = false) ∧
    (wr.cell? ⟨w.heap.size + 1, 0, none⟩ = some (.int .i64 (hiW (gsum f g t k))) ∧ wr.cell? ⟨w.heap.size + 1, 1, none⟩ = some (.int .u64 (loW (gsum f g t k))) ∧ ∀ o, wr.frozen? ⟨w.heap.size + 1, o, none⟩ = false)
set_option maxHeartbeats 1000000 in
theorem tgrains_any (A : Option Addr) (n c : Nat) (f g : Nat → Int) (t : Int) (hl : n ≤ 140737488355328) (w : World) (hr : Row2 w A n f g) (hib : IB n f g) :
    Calls Tryz.prog 124 #[.slice A n c, .int .i64 t] w fun e w' => e = .returned (.tuple #[.agg #[.int .i64 (hiW (grR n f g t)), .int .u64 (loW (grR n f g t))], .int .i64 (grE n f g t)]) ∧ Below w.heap.size w w' := by
  by_cases hn : 6 < n
  · have HC := hide (gr_5 (f := f) (g := g) (t := t) hn)
    go_enter Tryz.func124, Tryz.ntmps124
    go_wp2_with fail
    refine bodyPost_ret (by simp [results, Tryz.results124, go_sem, *] <;> rfl) rfl ⟨?_, ?_⟩
    · rw [HC.out.1, HC.out.2]; rfl
    (repeat (first | (with_reducible first | exact Below.refl _ _ | assumption | refine Below.drew ?_) | ((with_reducible first | refine Below.alloc ?_ ?_ _ | refine Below.setCell ?_ ?_ _); rotate_left; (first | omega | (simp <;> omega)))))
  have hn := Nat.not_lt.1 hn
  by_cases ht : wtOk t
  · have HIB := hide hib
    have HT := hide ht
    obtain ⟨t1, t2⟩ := ht
    clear hib
    go_enter Tryz.func124, Tryz.ntmps124
    go_wp2_with fail
    go_loopw [24] (fun v wr => GrInv n f g t w v wr) (fun v _ => n - (intOf v).toNat)
    case atStart =>
      refine ⟨0, by omega, rfl, fun j hj => by omega, by (repeat (first | (with_reducible first | exact Below.refl _ _ | assumption | refine Below.drew ?_) | ((with_reducible first | refine Below.alloc ?_ ?_ _ | refine Below.setCell ?_ ?_ _); rotate_left; (first | omega | (simp <;> omega))))), by simp, ⟨by simp [go_sem], by simp [go_sem], by simp [go_sem]⟩, ⟨by simp [go_sem, gsum, hiW], by simp [go_sem, gsum, loW], by simp [go_sem]⟩⟩
    case round =>
      obtain ⟨k, hk, rfl, ha, hB, hz, ⟨ca0, ca1, caf⟩, ⟨cb0, cb1, cbf⟩⟩ := hrel
      have HA := hide ha
      clear ha
      have hzB := hB.size
      have hz0 : w.heap.size < wr.heap.size := by omega
      have hnn0 : ¬ wr.heap.size = w.heap.size := by omega
      have hnn1 : ¬ wr.heap.size = w.heap.size + 1 := by omega
      have hnn2 : ¬ wr.heap.size + 1 = w.heap.size := by omega
      have hnn3 : ¬ wr.heap.size + 1 = w.heap.size + 1 := by omega
      by_cases hlt : k < n
      · obtain ⟨bb, off, rfl, hbl, hc⟩ := hr (by omega)
        have c0 := (hB.cell (p := ⟨bb, off + k * 2, none⟩) hbl).trans (hc k hlt).1
        have c1 := (hB.cell (p := ⟨bb, off + k * 2 + 1, none⟩) hbl).trans (hc k hlt).2
        clear hc
        by_cases hin : inS (f k) (g k)
        · have HD := hide (allS_succ HA.out hin)
          have HF := hide (fitR_of (gterm_win (HIB.out k hlt).1 hin HT.out))
          have HG := hide (fitR_of (show WIn (gsum f g t k + f k * g k * t) from gsum_win (k := k + 1) (by omega) (fun j hj => (HIB.out j (by omega)).1) HD.out HT.out))
          have hw1 := gmul_win (HIB.out k hlt).1 hin
          have hw2 := gterm_win (HIB.out k hlt).1 hin HT.out
          have hw3 := gsum_win (k := k) (by omega) (fun j hj => (HIB.out j (by omega)).1) HA.out HT.out
          obtain ⟨i1, i2, i3⟩ := hin
          have hi2 := (HIB.out k hlt).1.2
          go_wp2_with fail
          refine (wmul_any (f k) (g k) (by omega) hi2 (by omega) (by omega) _).mono ?_
          rintro e w1 ⟨rfl, hb⟩
          have q1B : Below w.heap.size w w1 := qB hb
          have q1z := hb.size
          try simp at q1z
          have q1t : w.heap.size ≤ w1.heap.size := (by omega)
          have q1s0 : w.heap.size < w1.heap.size := (by omega)
          have q1n0_0 : ¬ w1.heap.size = w.heap.size := (by omega)
          have q1n0_1 : ¬ w1.heap.size + 1 = w.heap.size := (by omega)
          have q1n0_2 : ¬ w1.heap.size + 2 = w.heap.size := (by omega)
          have q1c0_0 := cel hb w.heap.size 0
          simp [go_sem, *] at q1c0_0
          have q1c0_1 := cel hb w.heap.size 1
          simp [go_sem, *] at q1c0_1
          have q1f0 := fun o => fro hb w.heap.size o
          simp [go_sem, *] at q1f0
          have q1s1 : w.heap.size + 1 < w1.heap.size := (by omega)
          have q1n1_0 : ¬ w1.heap.size = w.heap.size + 1 := (by omega)
          have q1n1_1 : ¬ w1.heap.size + 1 = w.heap.size + 1 := (by omega)
          have q1n1_2 : ¬ w1.heap.size + 2 = w.heap.size + 1 := (by omega)
          have q1c1_0 := cel hb (w.heap.size + 1) 0
          simp [go_sem, *] at q1c1_0
          have q1c1_1 := cel hb (w.heap.size + 1) 1
          simp [go_sem, *] at q1c1_1
          have q1f1 := fun o => fro hb (w.heap.size + 1) o
          simp [go_sem, *] at q1f1
          have q1s2 : wr.heap.size < w1.heap.size := (by omega)
          have q1n2_0 : ¬ w1.heap.size = wr.heap.size := (by omega)
          have q1n2_1 : ¬ w1.heap.size + 1 = wr.heap.size := (by omega)
          have q1n2_2 : ¬ w1.heap.size + 2 = wr.heap.size := (by omega)
          have q1c2_0 := cel hb wr.heap.size 0
          simp [go_sem, *] at q1c2_0
          have q1c2_1 := cel hb wr.heap.size 1
          simp [go_sem, *] at q1c2_1
          have q1f2 := fun o => fro hb wr.heap.size o
          simp [go_sem, *] at q1f2
          have q1o := belO q1B
          clear hb
          go_wp2_with fail
          refine (scale_any (f k * g k) t hw1 (by omega) (by omega) _).mono ?_
          rintro e w2 ⟨rfl, hb⟩
          rw [HF.out]
          have q2B : Below w.heap.size w w2 := qB hb
          have q2z := hb.size
          try simp at q2z
          have q2t : w.heap.size ≤ w2.heap.size := (by omega)
          have q2s0 : w.heap.size < w2.heap.size := (by omega)
          have q2n0_0 : ¬ w2.heap.size = w.heap.size := (by omega)
          have q2n0_1 : ¬ w2.heap.size + 1 = w.heap.size := (by omega)
          have q2n0_2 : ¬ w2.heap.size + 2 = w.heap.size := (by omega)
          have q2c0_0 := cel hb w.heap.size 0
          simp [go_sem, *] at q2c0_0
          have q2c0_1 := cel hb w.heap.size 1
          simp [go_sem, *] at q2c0_1
          have q2f0 := fun o => fro hb w.heap.size o
          simp [go_sem, *] at q2f0
          have q2s1 : w.heap.size + 1 < w2.heap.size := (by omega)
          have q2n1_0 : ¬ w2.heap.size = w.heap.size + 1 := (by omega)
          have q2n1_1 : ¬ w2.heap.size + 1 = w.heap.size + 1 := (by omega)
          have q2n1_2 : ¬ w2.heap.size + 2 = w.heap.size + 1 := (by omega)
          have q2c1_0 := cel hb (w.heap.size + 1) 0
          simp [go_sem, *] at q2c1_0
          have q2c1_1 := cel hb (w.heap.size + 1) 1
          simp [go_sem, *] at q2c1_1
          have q2f1 := fun o => fro hb (w.heap.size + 1) o
          simp [go_sem, *] at q2f1
          have q2o := belO q2B
          clear hb q1o q1f2 q1c2_1 q1c2_0 q1s2 q1f1 q1c1_1 q1c1_0 q1s1 q1f0 q1c0_1 q1c0_0 q1s0 q1z q1B
          go_wp2_with fail
          refine (wadd_any _ _ hw3 hw2 _).mono ?_
          rintro e w3 ⟨rfl, hb⟩
          rw [HG.out]
          have q3B : Below w.heap.size w w3 := qB hb
          have q3z := hb.size
          try simp at q3z
          have q3t : w.heap.size ≤ w3.heap.size := (by omega)
          have q3s0 : w.heap.size < w3.heap.size := (by omega)
          have q3n0_0 : ¬ w3.heap.size = w.heap.size := (by omega)
          have q3n0_1 : ¬ w3.heap.size + 1 = w.heap.size := (by omega)
          have q3n0_2 : ¬ w3.heap.size + 2 = w.heap.size := (by omega)
          have q3c0_0 := cel hb w.heap.size 0
          simp [go_sem, *] at q3c0_0
          have q3c0_1 := cel hb w.heap.size 1
          simp [go_sem, *] at q3c0_1
          have q3f0 := fun o => fro hb w.heap.size o
          simp [go_sem, *] at q3f0
          have q3s1 : w.heap.size + 1 < w3.heap.size := (by omega)
          have q3n1_0 : ¬ w3.heap.size = w.heap.size + 1 := (by omega)
          have q3n1_1 : ¬ w3.heap.size + 1 = w.heap.size + 1 := (by omega)
          have q3n1_2 : ¬ w3.heap.size + 2 = w.heap.size + 1 := (by omega)
          have q3c1_0 := cel hb (w.heap.size + 1) 0
          simp [go_sem, *] at q3c1_0
          have q3c1_1 := cel hb (w.heap.size + 1) 1
          simp [go_sem, *] at q3c1_1
          have q3f1 := fun o => fro hb (w.heap.size + 1) o
          simp [go_sem, *] at q3f1
          have q3o := belO q3B
          clear hb q2o q2f1 q2c1_1 q2c1_0 q2s1 q2f0 q2c0_1 q2c0_0 q2s0 q2z q2B
          go_wp2_with fail
          go_roundw
          case rel => exact ⟨k + 1, by omega, by go_num, HD.out, by (repeat (first | (with_reducible first | exact Below.refl _ _ | assumption | refine Below.drew ?_) | ((with_reducible first | refine Below.alloc ?_ ?_ _ | refine Below.setCell ?_ ?_ _); rotate_left; (first | omega | (simp <;> omega))))), by simp; omega, ⟨by simp [go_sem, *], by simp [go_sem, *], by simp [go_sem, *]⟩, ⟨by simp [go_sem, gsum, *], by simp [go_sem, gsum, *], by simp [go_sem, *]⟩⟩
          case measure => simp [intOf]; omega
        · have HD := hide (gr_1 (t := t) hn (fun h => hin (h.1 k hlt)))
          have HI := hide hin
          clear hin
          go_wp2_with fail
          all_goals first
            | (exfalso; exact HI.out ⟨by omega, by omega, by omega⟩)
            | (refine bodyPost_ret (by simp [results, Tryz.results124, go_sem, *] <;> rfl) rfl ⟨?_, ?_⟩; (· rw [HD.out.1, HD.out.2]; rfl); (· (repeat (first | (with_reducible first | exact Below.refl _ _ | assumption | refine Below.drew ?_) | ((with_reducible first | refine Below.alloc ?_ ?_ _ | refine Below.setCell ?_ ?_ _); rotate_left; (first | omega | (simp <;> omega)))))))
      · have hkn : k = n := by omega
        subst hkn
        have HD := hide (gr_0 (t := t) hn ⟨HA.out, HT.out⟩)
        go_wp2_with fail
        refine bodyPost_ret (by simp [results, Tryz.results124, go_sem, *] <;> rfl) rfl ⟨?_, ?_⟩
        · rw [HD.out.1, HD.out.2]
        (repeat (first | (with_reducible first | exact Below.refl _ _ | assumption | refine Below.drew ?_) | ((with_reducible first | refine Below.alloc ?_ ?_ _ | refine Below.setCell ?_ ?_ _); rotate_left; (first | omega | (simp <;> omega)))))
  · have HD := hide (gr_1 (f := f) (g := g) hn (fun h => ht h.2))
    have HI := hide ht
    clear ht
    go_enter Tryz.func124, Tryz.ntmps124
    go_wp2_with fail
    all_goals first
      | (exfalso; exact HI.out ⟨by omega, by omega⟩)
      | (refine bodyPost_ret (by simp [results, Tryz.results124, go_sem, *] <;> rfl) rfl ⟨?_, ?_⟩; (· rw [HD.out.1, HD.out.2]; rfl); (· (repeat (first | (with_reducible first | exact Below.refl _ _ | assumption | refine Below.drew ?_) | ((with_reducible first | refine Below.alloc ?_ ?_ _ | refine Below.setCell ?_ ?_ _); rotate_left; (first | omega | (simp <;> omega)))))))
end Go.Proofs.YtdjlaiilngechaaGreatDoor
