/- Texts laid together: Ga Gb. -/
import Derived.Test.YtfolccncegejjaaQTf
import Derived.Test.YtfolccncegejjaaQWc
import Derived.Test.YtfolccncegejjaaQTierM
import Derived.Test.YtfolccncegejjaaQRc
import Derived.Deep.LoopGhost
namespace Go.Proofs.Ytfolccncegejjaa
set_option maxRecDepth 4000
set_option linter.unusedSimpArgs false
set_option linter.unusedVariables false
open Go.RowKit
def GrInv (n : Nat) (f g : Nat → Int) (t : Int) (w : World) (v : Value) (wr : World) : Prop :=
  ∃ k : Nat, k ≤ n ∧ v = .int .i64 k ∧ allS k f g ∧ Below w.heap.size w wr ∧ w.heap.size + 1 < wr.heap.size ∧
    (wr.cell? ⟨w.heap.size, 0, none⟩ = some (.int .i64 0) ∧ wr.cell? ⟨w.heap.size, 1, none⟩ = some (.int .u64 0) ∧ ∀ o, wr.frozen? ⟨w.heap.size, o, none⟩ = false) ∧
    (wr.cell? ⟨w.heap.size + 1, 0, none⟩ = some (.int .i64 (hiW (gsum f g t k))) ∧ wr.cell? ⟨w.heap.size + 1, 1, none⟩ = some (.int .u64 (loW (gsum f g t k))) ∧ ∀ o, wr.frozen? ⟨w.heap.size + 1, o, none⟩ = false)
set_option maxHeartbeats 1000000 in
theorem tgrains_any (A : Option Addr) (n c : Nat) (f g : Nat → Int) (t : Int) (hl : n ≤ 140737488355328) (w : World) (hr : Row2 w A n f g) (hib : IB n f g) :
    Calls Try.prog 65 #[.slice A n c, .int .i64 t] w fun e w' => e = .returned (.tuple #[.agg #[.int .i64 (hiW (grR n f g t)), .int .u64 (loW (grR n f g t))], .int .i64 (grE n f g t)]) ∧ Below w.heap.size w w' := by
  by_cases hn : 6 < n
  · have HC := hide (gr_5 (f := f) (g := g) (t := t) hn)
    go_enter Try.func65, Try.ntmps65
    go_wp2_with fail
    refine bodyPost_ret (by simp [results, Try.results65, go_sem, *] <;> rfl) rfl ⟨?_, ?_⟩
    · rw [HC.out.1, HC.out.2]; rfl
    (repeat (first | (with_reducible first | exact Below.refl _ _ | assumption | refine Below.drew ?_ | refine below_drewN ?_ _) | ((with_reducible first | refine Below.alloc ?_ ?_ _ | refine Below.setCell ?_ ?_ _); rotate_left; (first | omega | (simp <;> omega)))))
  have hn := Nat.not_lt.1 hn
  by_cases ht : wtOk t
  · have HIB := hide hib
    have HT := hide ht
    obtain ⟨t1, t2⟩ := ht
    clear hib
    go_enter Try.func65, Try.ntmps65
    go_wp2_with fail
    go_loopw [24] (fun v wr => GrInv n f g t w v wr) (fun v _ => n - (intOf v).toNat)
    case atStart =>
      refine ⟨0, by omega, rfl, fun j hj => by omega, by (repeat (first | (with_reducible first | exact Below.refl _ _ | assumption | refine Below.drew ?_ | refine below_drewN ?_ _) | ((with_reducible first | refine Below.alloc ?_ ?_ _ | refine Below.setCell ?_ ?_ _); rotate_left; (first | omega | (simp <;> omega))))), by simp, ⟨by simp [go_sem], by simp [go_sem], by simp [go_sem]⟩, ⟨by simp [go_sem, gsum, hiW], by simp [go_sem, gsum, loW], by simp [go_sem]⟩⟩
    case round =>
      obtain ⟨k, hk, rfl, ha, hB, hz, ⟨ca0, ca1, caf⟩, ⟨cb0, cb1, cbf⟩⟩ := hrel
      have HA := hide ha
      clear ha
      have hzB := hB.size
      have hz0 : w.heap.size < wr.heap.size := by omega
      have hnn0 : ¬ wr.heap.size = w.heap.size := by omega
      have hnn1 : ¬ wr.heap.size = w.heap.size + 1 := by omega
      have hnn2 : ¬ wr.heap.size + 1 = w.heap.size := by omega
      have hnn3 : ¬ wr.heap.size + 1 = w.heap.size + 1 := by omega
      by_cases hlt : k < n
      · obtain ⟨bb, off, rfl, hbl, hc⟩ := hr (by omega)
        have c0 := (hB.cell (p := ⟨bb, off + k * 2, none⟩) hbl).trans (hc k hlt).1
        have c1 := (hB.cell (p := ⟨bb, off + k * 2 + 1, none⟩) hbl).trans (hc k hlt).2
        clear hc
        by_cases hin : inS (f k) (g k)
        · have HD := hide (allS_succ HA.out hin)
          have HF := hide (fitR_of (gterm_win (HIB.out k hlt).1 hin HT.out))
          have HG := hide (fitR_of (show WIn (gsum f g t k + f k * g k * t) from gsum_win (k := k + 1) (by omega) (fun j hj => (HIB.out j (by omega)).1) HD.out HT.out))
          have hw1 := gmul_win (HIB.out k hlt).1 hin
          have hw2 := gterm_win (HIB.out k hlt).1 hin HT.out
          have hw3 := gsum_win (k := k) (by omega) (fun j hj => (HIB.out j (by omega)).1) HA.out HT.out
          obtain ⟨i1, i2, i3⟩ := hin
          have hi2 := (HIB.out k hlt).1.2
          go_wp2_with fail
          refine (wmul_any (f k) (g k) (by omega) hi2 (by omega) (by omega) _).mono ?_
          rintro e w1 ⟨rfl, hb⟩
          have q1B : Below w.heap.size w w1 := (by refine Below.trans ?_ (hb.mono (by first | omega | (simp <;> omega))); (repeat (first | (with_reducible first | exact Below.refl _ _ | assumption | refine Below.drew ?_ | refine below_drewN ?_ _) | ((with_reducible first | refine Below.alloc ?_ ?_ _ | refine Below.setCell ?_ ?_ _); rotate_left; (first | omega | (simp <;> omega))))))
          have q1z := hb.size
          try simp at q1z
          have q1t : w.heap.size ≤ w1.heap.size := (by omega)
          have q1s0 : w.heap.size < w1.heap.size := (by omega)
          have q1n0_0 : ¬ w1.heap.size = w.heap.size := (by omega)
          have q1n0_1 : ¬ w1.heap.size + 1 = w.heap.size := (by omega)
          have q1n0_2 : ¬ w1.heap.size + 2 = w.heap.size := (by omega)
          have q1c0_0 := hb.cell (p := ⟨w.heap.size, 0, none⟩) (by first | omega | (simp <;> omega))
          simp [go_sem, *] at q1c0_0
          have q1c0_1 := hb.cell (p := ⟨w.heap.size, 1, none⟩) (by first | omega | (simp <;> omega))
          simp [go_sem, *] at q1c0_1
          have q1f0 := fun o => hb.frozen (p := ⟨w.heap.size, o, none⟩) (by first | omega | (simp <;> omega))
          simp [go_sem, *] at q1f0
          have q1s1 : w.heap.size + 1 < w1.heap.size := (by omega)
          have q1n1_0 : ¬ w1.heap.size = w.heap.size + 1 := (by omega)
          have q1n1_1 : ¬ w1.heap.size + 1 = w.heap.size + 1 := (by omega)
          have q1n1_2 : ¬ w1.heap.size + 2 = w.heap.size + 1 := (by omega)
          have q1c1_0 := hb.cell (p := ⟨w.heap.size + 1, 0, none⟩) (by first | omega | (simp <;> omega))
          simp [go_sem, *] at q1c1_0
          have q1c1_1 := hb.cell (p := ⟨w.heap.size + 1, 1, none⟩) (by first | omega | (simp <;> omega))
          simp [go_sem, *] at q1c1_1
          have q1f1 := fun o => hb.frozen (p := ⟨w.heap.size + 1, o, none⟩) (by first | omega | (simp <;> omega))
          simp [go_sem, *] at q1f1
          have q1s2 : wr.heap.size < w1.heap.size := (by omega)
          have q1n2_0 : ¬ w1.heap.size = wr.heap.size := (by omega)
          have q1n2_1 : ¬ w1.heap.size + 1 = wr.heap.size := (by omega)
          have q1n2_2 : ¬ w1.heap.size + 2 = wr.heap.size := (by omega)
          have q1c2_0 := hb.cell (p := ⟨wr.heap.size, 0, none⟩) (by first | omega | (simp <;> omega))
          simp [go_sem, *] at q1c2_0
          have q1c2_1 := hb.cell (p := ⟨wr.heap.size, 1, none⟩) (by first | omega | (simp <;> omega))
          simp [go_sem, *] at q1c2_1
          have q1f2 := fun o => hb.frozen (p := ⟨wr.heap.size, o, none⟩) (by first | omega | (simp <;> omega))
          simp [go_sem, *] at q1f2
          have q1o : ∀ b o, b < w.heap.size → w1.cell? ⟨b, o, none⟩ = w.cell? ⟨b, o, none⟩ := fun b o h => q1B.cell (p := ⟨b, o, none⟩) h
          clear hb
          go_wp2_with fail
          refine (scale_any (f k * g k) t hw1 (by omega) (by omega) _).mono ?_
          rintro e w2 ⟨rfl, hb⟩
          rw [HF.out]
          have q2B : Below w.heap.size w w2 := (by refine Below.trans ?_ (hb.mono (by first | omega | (simp <;> omega))); (repeat (first | (with_reducible first | exact Below.refl _ _ | assumption | refine Below.drew ?_ | refine below_drewN ?_ _) | ((with_reducible first | refine Below.alloc ?_ ?_ _ | refine Below.setCell ?_ ?_ _); rotate_left; (first | omega | (simp <;> omega))))))
          have q2z := hb.size
          try simp at q2z
          have q2t : w.heap.size ≤ w2.heap.size := (by omega)
          have q2s0 : w.heap.size < w2.heap.size := (by omega)
          have q2n0_0 : ¬ w2.heap.size = w.heap.size := (by omega)
          have q2n0_1 : ¬ w2.heap.size + 1 = w.heap.size := (by omega)
          have q2n0_2 : ¬ w2.heap.size + 2 = w.heap.size := (by omega)
          have q2c0_0 := hb.cell (p := ⟨w.heap.size, 0, none⟩) (by first | omega | (simp <;> omega))
          simp [go_sem, *] at q2c0_0
          have q2c0_1 := hb.cell (p := ⟨w.heap.size, 1, none⟩) (by first | omega | (simp <;> omega))
          simp [go_sem, *] at q2c0_1
          have q2f0 := fun o => hb.frozen (p := ⟨w.heap.size, o, none⟩) (by first | omega | (simp <;> omega))
          simp [go_sem, *] at q2f0
          have q2s1 : w.heap.size + 1 < w2.heap.size := (by omega)
          have q2n1_0 : ¬ w2.heap.size = w.heap.size + 1 := (by omega)
          have q2n1_1 : ¬ w2.heap.size + 1 = w.heap.size + 1 := (by omega)
          have q2n1_2 : ¬ w2.heap.size + 2 = w.heap.size + 1 := (by omega)
          have q2c1_0 := hb.cell (p := ⟨w.heap.size + 1, 0, none⟩) (by first | omega | (simp <;> omega))
          simp [go_sem, *] at q2c1_0
          have q2c1_1 := hb.cell (p := ⟨w.heap.size + 1, 1, none⟩) (by first | omega | (simp <;> omega))
          simp [go_sem, *] at q2c1_1
          have q2f1 := fun o => hb.frozen (p := ⟨w.heap.size + 1, o, none⟩) (by first | omega | (simp <;> omega))
          simp [go_sem, *] at q2f1
          have q2o : ∀ b o, b < w.heap.size → w2.cell? ⟨b, o, none⟩ = w.cell? ⟨b, o, none⟩ := fun b o h => q2B.cell (p := ⟨b, o, none⟩) h
          clear hb q1o q1f2 q1c2_1 q1c2_0 q1s2 q1f1 q1c1_1 q1c1_0 q1s1 q1f0 q1c0_1 q1c0_0 q1s0 q1z q1B
          go_wp2_with fail
          refine (wadd_any _ _ hw3 hw2 _).mono ?_
          rintro e w3 ⟨rfl, hb⟩
          rw [HG.out]
          have q3B : Below w.heap.size w w3 := (by refine Below.trans ?_ (hb.mono (by first | omega | (simp <;> omega))); (repeat (first | (with_reducible first | exact Below.refl _ _ | assumption | refine Below.drew ?_ | refine below_drewN ?_ _) | ((with_reducible first | refine Below.alloc ?_ ?_ _ | refine Below.setCell ?_ ?_ _); rotate_left; (first | omega | (simp <;> omega))))))
          have q3z := hb.size
          try simp at q3z
          have q3t : w.heap.size ≤ w3.heap.size := (by omega)
          have q3s0 : w.heap.size < w3.heap.size := (by omega)
          have q3n0_0 : ¬ w3.heap.size = w.heap.size := (by omega)
          have q3n0_1 : ¬ w3.heap.size + 1 = w.heap.size := (by omega)
          have q3n0_2 : ¬ w3.heap.size + 2 = w.heap.size := (by omega)
          have q3c0_0 := hb.cell (p := ⟨w.heap.size, 0, none⟩) (by first | omega | (simp <;> omega))
          simp [go_sem, *] at q3c0_0
          have q3c0_1 := hb.cell (p := ⟨w.heap.size, 1, none⟩) (by first | omega | (simp <;> omega))
          simp [go_sem, *] at q3c0_1
          have q3f0 := fun o => hb.frozen (p := ⟨w.heap.size, o, none⟩) (by first | omega | (simp <;> omega))
          simp [go_sem, *] at q3f0
          have q3s1 : w.heap.size + 1 < w3.heap.size := (by omega)
          have q3n1_0 : ¬ w3.heap.size = w.heap.size + 1 := (by omega)
          have q3n1_1 : ¬ w3.heap.size + 1 = w.heap.size + 1 := (by omega)
          have q3n1_2 : ¬ w3.heap.size + 2 = w.heap.size + 1 := (by omega)
          have q3c1_0 := hb.cell (p := ⟨w.heap.size + 1, 0, none⟩) (by first | omega | (simp <;> omega))
          simp [go_sem, *] at q3c1_0
          have q3c1_1 := hb.cell (p := ⟨w.heap.size + 1, 1, none⟩) (by first | omega | (simp <;> omega))
          simp [go_sem, *] at q3c1_1
          have q3f1 := fun o => hb.frozen (p := ⟨w.heap.size + 1, o, none⟩) (by first | omega | (simp <;> omega))
          simp [go_sem, *] at q3f1
          have q3o : ∀ b o, b < w.heap.size → w3.cell? ⟨b, o, none⟩ = w.cell? ⟨b, o, none⟩ := fun b o h => q3B.cell (p := ⟨b, o, none⟩) h
          clear hb q2o q2f1 q2c1_1 q2c1_0 q2s1 q2f0 q2c0_1 q2c0_0 q2s0 q2z q2B
          go_wp2_with fail
          go_roundw
          case rel => exact ⟨k + 1, by omega, by go_num, HD.out, by (repeat (first | (with_reducible first | exact Below.refl _ _ | assumption | refine Below.drew ?_ | refine below_drewN ?_ _) | ((with_reducible first | refine Below.alloc ?_ ?_ _ | refine Below.setCell ?_ ?_ _); rotate_left; (first | omega | (simp <;> omega))))), by simp; omega, ⟨by simp [go_sem, *], by simp [go_sem, *], by simp [go_sem, *]⟩, ⟨by simp [go_sem, gsum, *], by simp [go_sem, gsum, *], by simp [go_sem, *]⟩⟩
          case measure => simp [intOf]; omega
        · have HD := hide (gr_1 (t := t) hn (fun h => hin (h.1 k hlt)))
          have HI := hide hin
          clear hin
          go_wp2_with fail
          all_goals first
            | (exfalso; exact HI.out ⟨by omega, by omega, by omega⟩)
            | (refine bodyPost_ret (by simp [results, Try.results65, go_sem, *] <;> rfl) rfl ⟨?_, ?_⟩; (· rw [HD.out.1, HD.out.2]; rfl); (· (repeat (first | (with_reducible first | exact Below.refl _ _ | assumption | refine Below.drew ?_ | refine below_drewN ?_ _) | ((with_reducible first | refine Below.alloc ?_ ?_ _ | refine Below.setCell ?_ ?_ _); rotate_left; (first | omega | (simp <;> omega)))))))
      · have hkn : k = n := by omega
        subst hkn
        have HD := hide (gr_0 (t := t) hn ⟨HA.out, HT.out⟩)
        go_wp2_with fail
        refine bodyPost_ret (by simp [results, Try.results65, go_sem, *] <;> rfl) rfl ⟨?_, ?_⟩
        · rw [HD.out.1, HD.out.2]
        (repeat (first | (with_reducible first | exact Below.refl _ _ | assumption | refine Below.drew ?_ | refine below_drewN ?_ _) | ((with_reducible first | refine Below.alloc ?_ ?_ _ | refine Below.setCell ?_ ?_ _); rotate_left; (first | omega | (simp <;> omega)))))
  · have HD := hide (gr_1 (f := f) (g := g) hn (fun h => ht h.2))
    have HI := hide ht
    clear ht
    go_enter Try.func65, Try.ntmps65
    go_wp2_with fail
    all_goals first
      | (exfalso; exact HI.out ⟨by omega, by omega⟩)
      | (refine bodyPost_ret (by simp [results, Try.results65, go_sem, *] <;> rfl) rfl ⟨?_, ?_⟩; (· rw [HD.out.1, HD.out.2]; rfl); (· (repeat (first | (with_reducible first | exact Below.refl _ _ | assumption | refine Below.drew ?_ | refine below_drewN ?_ _) | ((with_reducible first | refine Below.alloc ?_ ?_ _ | refine Below.setCell ?_ ?_ _); rotate_left; (first | omega | (simp <;> omega)))))))
end Go.Proofs.Ytfolccncegejjaa
namespace Go.Proofs.Ytfolccncegejjaa
set_option maxRecDepth 4000
set_option linter.unusedSimpArgs false
set_option linter.unusedVariables false
open Go.RowKit
def RGrInv1 (n : Nat) (f g : Nat → Int) (w : World) (v : Value) (wr : World) : Prop :=
  ∃ k : Nat, k ≤ n ∧ v = .int .i64 k ∧ allS k f g ∧ Below w.heap.size w wr ∧ w.heap.size < wr.heap.size ∧
    (wr.cell? ⟨w.heap.size, 0, none⟩ = some (.int .i64 0) ∧ wr.cell? ⟨w.heap.size, 1, none⟩ = some (.int .u64 0) ∧ ∀ o, wr.frozen? ⟨w.heap.size, o, none⟩ = false)
/-- In the second loop: s is the block of the sum. -/
def RGrInv2 (n : Nat) (f g : Nat → Int) (t : Int) (w : World) (s : Nat) (fuel : Nat) (v : Value) (wr : World) : Prop :=
  ∃ k : Nat, k ≤ n ∧ fuel = n - k ∧ v = .int .i64 k ∧ Below w.heap.size w wr ∧ w.heap.size < s ∧ s < wr.heap.size ∧
    (wr.cell? ⟨w.heap.size, 0, none⟩ = some (.int .i64 0) ∧ wr.cell? ⟨w.heap.size, 1, none⟩ = some (.int .u64 0) ∧ ∀ o, wr.frozen? ⟨w.heap.size, o, none⟩ = false) ∧
    (wr.cell? ⟨s, 0, none⟩ = some (.int .i64 (hiW (gsum f g t k))) ∧ wr.cell? ⟨s, 1, none⟩ = some (.int .u64 (loW (gsum f g t k))) ∧ ∀ o, wr.frozen? ⟨s, o, none⟩ = false)
def RGrCut (x : Int) (z : Int) (w : World) (s : Nat) (v9 : Value) (wx : World) : Prop :=
  ∃ p, v9 = .pointer (some ⟨p, 0, none⟩) ∧ (wx.cell? ⟨p, 0, none⟩ = some (.int .i64 (hiW x)) ∧ wx.cell? ⟨p, 1, none⟩ = some (.int .u64 (loW x))) ∧
    Below w.heap.size w wx ∧ w.heap.size < s ∧ s < wx.heap.size ∧ p < wx.heap.size ∧
    (wx.cell? ⟨w.heap.size, 0, none⟩ = some (.int .i64 0) ∧ wx.cell? ⟨w.heap.size, 1, none⟩ = some (.int .u64 0) ∧ ∀ o, wx.frozen? ⟨w.heap.size, o, none⟩ = false) ∧
    (wx.cell? ⟨s, 0, none⟩ = some (.int .i64 (hiW z)) ∧ wx.cell? ⟨s, 1, none⟩ = some (.int .u64 (loW z)) ∧ ∀ o, wx.frozen? ⟨s, o, none⟩ = false)
set_option maxHeartbeats 2000000 in
theorem rgrains_any (A : Option Addr) (n c : Nat) (f g : Nat → Int) (t : Int) (hl : n ≤ 140737488355328) (w : World) (hr : Row2 w A n f g) (hib : IB n f g) :
    Calls Try.prog 30 #[.slice A n c, .int .i64 t] w fun e w' => e = .returned (.tuple #[.agg #[.int .i64 (hiW (grR n f g t)), .int .u64 (loW (grR n f g t))], .int .i64 (grE n f g t)]) ∧ Below w.heap.size w w' := by
  by_cases hn : 6 < n
  · have HC := hide (gr_5 (f := f) (g := g) (t := t) hn)
    go_enter Try.func30, Try.ntmps30
    go_wp2_with fail
    refine bodyPost_ret (by simp [results, Try.results30, go_sem, *] <;> rfl) rfl ⟨?_, ?_⟩
    · rw [HC.out.1, HC.out.2]; rfl
    (repeat (first | (with_reducible first | exact Below.refl _ _ | assumption | refine Below.drew ?_ | refine below_drewN ?_ _) | ((with_reducible first | refine Below.alloc ?_ ?_ _ | refine Below.setCell ?_ ?_ _); rotate_left; (first | omega | (simp <;> omega)))))
  have hn := Nat.not_lt.1 hn
  have HIB := hide hib
  clear hib
  go_enter Try.func30, Try.ntmps30
  go_wp2_with fail
  go_loopw [6] (fun v wr => RGrInv1 n f g w v wr) (fun v _ => n - (intOf v).toNat)
  case atStart => exact ⟨0, by omega, rfl, fun j hj => by omega, by (repeat (first | (with_reducible first | exact Below.refl _ _ | assumption | refine Below.drew ?_ | refine below_drewN ?_ _) | ((with_reducible first | refine Below.alloc ?_ ?_ _ | refine Below.setCell ?_ ?_ _); rotate_left; (first | omega | (simp <;> omega))))), by simp, ⟨by simp [go_sem], by simp [go_sem], by simp [go_sem]⟩⟩
  case round =>
    obtain ⟨k, hk, rfl, ha, hB, hz, ⟨ca0, ca1, caf⟩⟩ := hrel
    have HA := hide ha
    clear ha
    have hzB := hB.size
    by_cases hlt : k < n
    · obtain ⟨bb, off, rfl, hbl, hc⟩ := hr (by omega)
      have c0 := (hB.cell (p := ⟨bb, off + k * 2, none⟩) hbl).trans (hc k hlt).1
      have c1 := (hB.cell (p := ⟨bb, off + k * 2 + 1, none⟩) hbl).trans (hc k hlt).2
      clear hc
      by_cases hin : inS (f k) (g k)
      · have HD := hide (allS_succ HA.out hin)
        obtain ⟨i1, i2, i3⟩ := hin
        go_wp2_with fail
        go_roundw
        case rel => exact ⟨k + 1, by omega, by go_num, HD.out, hB, hz, ⟨ca0, ca1, caf⟩⟩
        case measure => simp [intOf]; omega
      · have HD := hide (gr_1 (t := t) hn (fun h => hin (h.1 k hlt)))
        have HI := hide hin
        clear hin
        go_wp2_with fail
        all_goals first
          | (exfalso; exact HI.out ⟨by omega, by omega, by omega⟩)
          | (refine bodyPost_ret (by simp [results, Try.results30, go_sem, *] <;> rfl) rfl ⟨?_, ?_⟩; (· rw [HD.out.1, HD.out.2]; rfl); (· (repeat (first | (with_reducible first | exact Below.refl _ _ | assumption | refine Below.drew ?_ | refine below_drewN ?_ _) | ((with_reducible first | refine Below.alloc ?_ ?_ _ | refine Below.setCell ?_ ?_ _); rotate_left; (first | omega | (simp <;> omega)))))))
    · have hkn : k = n := by omega
      subst hkn
      clear hlt hk
      by_cases ht : wtOk t
      · have HT := hide ht
        obtain ⟨t1, t2⟩ := ht
        go_wp2_with fail
        obtain ⟨s, hs, hs1⟩ : ∃ s, s = wr.heap.size ∧ w.heap.size < s := ⟨_, rfl, hz⟩
        rw [← hs]
        have HS := hide hs
        go_loopg [8] k (fun fuel v wx => RGrInv2 k f g t w s fuel v wx)
        case atStart =>
          subst hs
          exact ⟨0, by omega, by omega, rfl, by (repeat (first | (with_reducible first | exact Below.refl _ _ | assumption | refine Below.drew ?_ | refine below_drewN ?_ _) | ((with_reducible first | refine Below.alloc ?_ ?_ _ | refine Below.setCell ?_ ?_ _); rotate_left; (first | omega | (simp <;> omega))))), hs1, by simp, ⟨by simp [go_sem, *], by simp [go_sem, *], by simp [go_sem, *]⟩, ⟨by simp [go_sem, gsum, hiW], by simp [go_sem, gsum, loW], by simp [go_sem]⟩⟩
        case round =>
          clear hs
          obtain ⟨j, hj, hfu, rfl, hBx, _, hsx, ⟨ca0, ca1, caf⟩, ⟨cb0, cb1, cbf⟩⟩ := hrel
          have HFU := hide hfu
          clear hfu
          have hzB := hBx.size
          have hz0 : w.heap.size < wr.heap.size := by omega
          have hnn0 : ¬ wr.heap.size = w.heap.size := by omega
          have hnn1 : ¬ wr.heap.size = s := by omega
          have hnn2 : ¬ wr.heap.size + 1 = w.heap.size := by omega
          have hnn3 : ¬ wr.heap.size + 1 = s := by omega
          by_cases hlt : j < k
          · obtain ⟨bb, off, rfl, hbl, hc⟩ := hr (by omega)
            have c0 := (hBx.cell (p := ⟨bb, off + j * 2, none⟩) hbl).trans (hc j hlt).1
            have c1 := (hBx.cell (p := ⟨bb, off + j * 2 + 1, none⟩) hbl).trans (hc j hlt).2
            clear hc
            have hm1 : (j : Int) < k := by omega
            have hin := HA.out j hlt
            have HF := hide (fitR_of (gterm_win (HIB.out j hlt).1 hin HT.out))
            have HD : Hid (allS (j + 1) f g) := fun i hi => HA.out i (by omega)
            have HG := hide (fitR_of (show WIn (gsum f g t j + f j * g j * t) from gsum_win (k := j + 1) (by omega) (fun i hi => (HIB.out i (by omega)).1) HD.out HT.out))
            have hw1 := gmul_win (HIB.out j hlt).1 hin
            have hw2 := gterm_win (HIB.out j hlt).1 hin HT.out
            have hw3 := gsum_win (k := j) (by omega) (fun i hi => (HIB.out i (by omega)).1) (fun i hi => HA.out i (by omega)) HT.out
            obtain ⟨i1, i2, i3⟩ := hin
            have hi2 := (HIB.out j hlt).1.2
            go_upto_region 14 with fail
            go_cut [9] (fun v9 wx => RGrCut (f j * g j * t) (gsum f g t j) w s v9 wx)
            case first =>
              refine ord_start (SB (w.heap.size) [] _) 19 #[false, false, false, false, false, false, false, false, false, false, false, false, false, false, false, false, false, false, false] (by kernel_rfl) (by kernel_rfl) (by kernel_rfl) SB.refl.drew (fun hHeld => ?_)
              refine ord_take (i := 0) #[true, false, false, false, false, false, false, false, false, false, false, false, false, false, false, false, false, false, false] ?_ rfl (by kernel_rfl) (by kernel_rfl) (by kernel_rfl) (by kernel_rfl) (fun _ _ _ h => h) hHeld (by rfl) (fun wx hSx => ?_) ?_
              rotate_left
              · (unfold SB at hSx; go_simp; (try with_reducible rfl))
              (try simp only [Act.put, putA, putB, putC])
              refine ord_take (i := 1) #[true, true, false, false, false, false, false, false, false, false, false, false, false, false, false, false, false, false, false] ?_ rfl (by kernel_rfl) (by kernel_rfl) (by kernel_rfl) (by kernel_rfl) (fun _ _ _ h => h) hHeld (by rfl) (fun wx hSx => ?_) ?_
              rotate_left
              · (unfold SB at hSx; go_simp; (try with_reducible rfl))
              (try simp only [Act.put, putA, putB, putC])
              refine ord_take (i := 2) #[true, true, true, false, false, false, false, false, false, false, false, false, false, false, false, false, false, false, false] ?_ rfl (by kernel_rfl) (by kernel_rfl) (by kernel_rfl) (by kernel_rfl) (fun _ _ _ h => h) hHeld (by rfl) (fun wx hSx => ?_) ?_
              rotate_left
              · (unfold SB at hSx; go_simp; (try with_reducible rfl))
              (try simp only [Act.put, putA, putB, putC])
              refine ord_take (i := 3) #[true, true, true, true, false, false, false, false, false, false, false, false, false, false, false, false, false, false, false] ?_ rfl (by kernel_rfl) (by kernel_rfl) (by kernel_rfl) (by kernel_rfl) (fun _ _ _ h => h) hHeld (by rfl) (fun wx hSx => ?_) ?_
              rotate_left
              · (unfold SB at hSx; go_simp; (try with_reducible rfl))
              (try simp only [Act.put, putA, putB, putC])
              refine ord_take (i := 4) #[true, true, true, true, true, false, false, false, false, false, false, false, false, false, false, false, false, false, false] ?_ rfl (by kernel_rfl) (by kernel_rfl) (by kernel_rfl) (by kernel_rfl) (fun _ _ _ h => h) hHeld (by rfl) (fun wx hSx => ?_) ?_
              rotate_left
              · (unfold SB at hSx; go_simp; (try with_reducible rfl))
              (try simp only [Act.put, putA, putB, putC])
              refine ord_take (i := 5) #[true, true, true, true, true, true, false, false, false, false, false, false, false, false, false, false, false, false, false] ?_ rfl (by kernel_rfl) (by kernel_rfl) (by kernel_rfl) (by kernel_rfl) (fun _ _ _ h => h) hHeld (by rfl) (fun wx hSx => ?_) ?_
              rotate_left
              · (unfold SB at hSx; go_simp; (try with_reducible rfl))
              (try simp only [Act.put, putA, putB, putC])
              refine ord_take (i := 6) #[true, true, true, true, true, true, true, false, false, false, false, false, false, false, false, false, false, false, false] ?_ rfl (by kernel_rfl) (by kernel_rfl) (by kernel_rfl) (by kernel_rfl) (fun _ _ _ h => h) hHeld (by rfl) (fun wx hSx => ?_) ?_
              rotate_left
              · (unfold SB at hSx; go_simp; (try with_reducible rfl))
              (try simp only [Act.put, putA, putB, putC])
              refine ord_take (i := 7) #[true, true, true, true, true, true, true, true, false, false, false, false, false, false, false, false, false, false, false] ?_ rfl (by kernel_rfl) (by kernel_rfl) (by kernel_rfl) (by kernel_rfl) (fun _ _ _ h => h) hHeld (by rfl) (fun wx hSx => ?_) ?_
              rotate_left
              · (unfold SB at hSx; go_simp; (try with_reducible rfl))
              (try simp only [Act.put, putA, putB, putC])
              refine ord_take (i := 8) #[true, true, true, true, true, true, true, true, true, false, false, false, false, false, false, false, false, false, false] ?_ rfl (by kernel_rfl) (by kernel_rfl) (by kernel_rfl) (by kernel_rfl) (fun _ _ _ h => h) hHeld (by rfl) (fun wx hSx => ?_) ?_
              rotate_left
              · (unfold SB at hSx; go_simp; (try with_reducible rfl))
              (try simp only [Act.put, putA, putB, putC])
              refine ord_take (i := 9) #[true, true, true, true, true, true, true, true, true, true, false, false, false, false, false, false, false, false, false] ?_ rfl (by kernel_rfl) (by kernel_rfl) (by kernel_rfl) (by kernel_rfl) (fun _ _ _ h => h) hHeld (by rfl) (fun wx hSx => ?_) ?_
              rotate_left
              · (unfold SB at hSx; go_simp; (try with_reducible rfl))
              (try simp only [Act.put, putA, putB, putC])
              refine ord_take (i := 11) #[true, true, true, true, true, true, true, true, true, true, false, true, false, false, false, false, false, false, false] ?_ rfl (by kernel_rfl) (by kernel_rfl) (by kernel_rfl) (by kernel_rfl) (fun _ _ _ h => h) hHeld (by rfl) (fun wx hSx => ?_) ?_
              rotate_left
              · (unfold SB at hSx; go_simp; (try with_reducible rfl))
              (try simp only [Act.put, putA, putB, putC])
              refine wpAnyH_ready (rs := [10, 16]) (by kernel_rfl) (by simp) ?_
              refine ord_run (i := 10) #[true, true, true, true, true, true, true, true, true, true, true, true, false, false, false, false, false, false, false] rfl (by kernel_rfl) (by rfl) (fun K hK => ?_) ?_
              · go_simp
                go_wp2_with (go_at_call 46; refine (rmul_any (f j) (g j) (by omega) hi2 (by omega) (by omega) _).mono ?_; rintro e w1 ⟨rfl, hb⟩; (first | (have q1B : Below w.heap.size w w1 := (by refine Below.trans ?_ (hb.mono (by first | omega | (simp <;> omega))); (repeat (first | (with_reducible first | exact Below.refl _ _ | assumption | refine Below.drew ?_ | refine below_drewN ?_ _) | ((with_reducible first | refine Below.alloc ?_ ?_ _ | refine Below.setCell ?_ ?_ _); rotate_left; (first | omega | (simp <;> omega)))))); have q1z := hb.size; (try simp at q1z); have q1t : w.heap.size ≤ w1.heap.size := (by omega); have q1s0 : w.heap.size < w1.heap.size := (by omega); have q1n0_0 : ¬ w1.heap.size = w.heap.size := (by omega); have q1n0_1 : ¬ w1.heap.size + 1 = w.heap.size := (by omega); have q1n0_2 : ¬ w1.heap.size + 2 = w.heap.size := (by omega); have q1c0_0 := hb.cell (p := ⟨w.heap.size, 0, none⟩) (by first | omega | (simp <;> omega)); simp [go_sem, *] at q1c0_0; have q1c0_1 := hb.cell (p := ⟨w.heap.size, 1, none⟩) (by first | omega | (simp <;> omega)); simp [go_sem, *] at q1c0_1; have q1f0 := fun o => hb.frozen (p := ⟨w.heap.size, o, none⟩) (by first | omega | (simp <;> omega)); simp [go_sem, *] at q1f0; have q1s1 : s < w1.heap.size := (by omega); have q1n1_0 : ¬ w1.heap.size = s := (by omega); have q1n1_1 : ¬ w1.heap.size + 1 = s := (by omega); have q1n1_2 : ¬ w1.heap.size + 2 = s := (by omega); have q1c1_0 := hb.cell (p := ⟨s, 0, none⟩) (by first | omega | (simp <;> omega)); simp [go_sem, *] at q1c1_0; have q1c1_1 := hb.cell (p := ⟨s, 1, none⟩) (by first | omega | (simp <;> omega)); simp [go_sem, *] at q1c1_1; have q1f1 := fun o => hb.frozen (p := ⟨s, o, none⟩) (by first | omega | (simp <;> omega)); simp [go_sem, *] at q1f1; have q1s2 : wr.heap.size < w1.heap.size := (by omega); have q1n2_0 : ¬ w1.heap.size = wr.heap.size := (by omega); have q1n2_1 : ¬ w1.heap.size + 1 = wr.heap.size := (by omega); have q1n2_2 : ¬ w1.heap.size + 2 = wr.heap.size := (by omega); have q1c2_0 := hb.cell (p := ⟨wr.heap.size, 0, none⟩) (by first | omega | (simp <;> omega)); simp [go_sem, *] at q1c2_0; have q1c2_1 := hb.cell (p := ⟨wr.heap.size, 1, none⟩) (by first | omega | (simp <;> omega)); simp [go_sem, *] at q1c2_1; have q1f2 := fun o => hb.frozen (p := ⟨wr.heap.size, o, none⟩) (by first | omega | (simp <;> omega)); simp [go_sem, *] at q1f2; have q1o : ∀ b o, b < w.heap.size → w1.cell? ⟨b, o, none⟩ = w.cell? ⟨b, o, none⟩ := fun b o h => q1B.cell (p := ⟨b, o, none⟩) h; have hbS := hb; have hbS1 := hb; clear hb) | (have q1B : Below w.heap.size w w1 := (by refine Below.trans ?_ (hb.mono (by first | omega | (simp <;> omega))); (repeat (first | (with_reducible first | exact Below.refl _ _ | assumption | refine Below.drew ?_ | refine below_drewN ?_ _) | ((with_reducible first | refine Below.alloc ?_ ?_ _ | refine Below.setCell ?_ ?_ _); rotate_left; (first | omega | (simp <;> omega)))))); have q1z := hb.size; (try simp at q1z); have q1t : w.heap.size ≤ w1.heap.size := (by omega); have q1s0 : w.heap.size < w1.heap.size := (by omega); have q1n0_0 : ¬ w1.heap.size = w.heap.size := (by omega); have q1n0_1 : ¬ w1.heap.size + 1 = w.heap.size := (by omega); have q1n0_2 : ¬ w1.heap.size + 2 = w.heap.size := (by omega); have q1c0_0 := hb.cell (p := ⟨w.heap.size, 0, none⟩) (by first | omega | (simp <;> omega)); simp [go_sem, *] at q1c0_0; have q1c0_1 := hb.cell (p := ⟨w.heap.size, 1, none⟩) (by first | omega | (simp <;> omega)); simp [go_sem, *] at q1c0_1; have q1f0 := fun o => hb.frozen (p := ⟨w.heap.size, o, none⟩) (by first | omega | (simp <;> omega)); simp [go_sem, *] at q1f0; have q1s1 : s < w1.heap.size := (by omega); have q1n1_0 : ¬ w1.heap.size = s := (by omega); have q1n1_1 : ¬ w1.heap.size + 1 = s := (by omega); have q1n1_2 : ¬ w1.heap.size + 2 = s := (by omega); have q1c1_0 := hb.cell (p := ⟨s, 0, none⟩) (by first | omega | (simp <;> omega)); simp [go_sem, *] at q1c1_0; have q1c1_1 := hb.cell (p := ⟨s, 1, none⟩) (by first | omega | (simp <;> omega)); simp [go_sem, *] at q1c1_1; have q1f1 := fun o => hb.frozen (p := ⟨s, o, none⟩) (by first | omega | (simp <;> omega)); simp [go_sem, *] at q1f1; have q1o : ∀ b o, b < w.heap.size → w1.cell? ⟨b, o, none⟩ = w.cell? ⟨b, o, none⟩ := fun b o h => q1B.cell (p := ⟨b, o, none⟩) h; have hbS := hb; have hbS1 := hb; clear hb)))
                refine hK.out _ _ ?_ (fun hHeld => ?_)
                · (repeat (first | (with_reducible exact SB.refl) | (with_reducible exact hHeld) | (with_reducible refine SB.drew ?_) | (with_reducible refine SB.drewN ?_ _) | ((with_reducible refine SB.alloc ?_ ?_ _); (rotate_left); (first | omega | (simp <;> omega))) | ((with_reducible refine SB.setCell ?_ ?_ _); (rotate_left); (focus (first | (simp; done) | (right; first | omega | (simp <;> omega))))) | ((with_reducible refine SB.below ?_ hbS ?_); (rotate_left); (first | omega | (simp <;> omega))) | ((with_reducible refine SB.below ?_ hbS1 ?_); (rotate_left); (first | omega | (simp <;> omega))) | ((with_reducible refine SB.below ?_ hbS2 ?_); (rotate_left); (first | omega | (simp <;> omega))) | ((with_reducible refine SB.below ?_ hbS3 ?_); (rotate_left); (first | omega | (simp <;> omega))) | ((with_reducible refine SB.below ?_ hbS4 ?_); (rotate_left); (first | omega | (simp <;> omega))) | (with_reducible refine SB.undrew ?_) | ((with_reducible refine SB.congr ?_ ?_); (rotate_left); (focus (simp; done))) | ((with_reducible refine SB.realloc ?_ ?_ ?_); (rotate_left); (focus (simp; done)); (focus (simp; done)))))
                clear hK K
                (try simp only [Act.put, putA, putB, putC])
                refine wpAnyH_ready (rs := [12, 16]) (by kernel_rfl) (by simp) ?_
                refine ord_run (i := 12) #[true, true, true, true, true, true, true, true, true, true, true, true, true, false, false, false, false, false, false] rfl (by kernel_rfl) (by rfl) (fun K hK => ?_) ?_
                · go_simp
                  go_wp2_with (go_at_call 45; refine (rscale_any (f j * g j) t hw1 (by omega) (by omega) _).mono ?_; rintro e w2 ⟨rfl, hb⟩; rw [HF.out]; (first | (have q2B : Below w.heap.size w w2 := (by refine Below.trans ?_ (hb.mono (by first | omega | (simp <;> omega))); (repeat (first | (with_reducible first | exact Below.refl _ _ | assumption | refine Below.drew ?_ | refine below_drewN ?_ _) | ((with_reducible first | refine Below.alloc ?_ ?_ _ | refine Below.setCell ?_ ?_ _); rotate_left; (first | omega | (simp <;> omega)))))); have q2z := hb.size; (try simp at q2z); have q2t : w.heap.size ≤ w2.heap.size := (by omega); have q2s0 : w.heap.size < w2.heap.size := (by omega); have q2n0_0 : ¬ w2.heap.size = w.heap.size := (by omega); have q2n0_1 : ¬ w2.heap.size + 1 = w.heap.size := (by omega); have q2n0_2 : ¬ w2.heap.size + 2 = w.heap.size := (by omega); have q2c0_0 := hb.cell (p := ⟨w.heap.size, 0, none⟩) (by first | omega | (simp <;> omega)); simp [go_sem, *] at q2c0_0; have q2c0_1 := hb.cell (p := ⟨w.heap.size, 1, none⟩) (by first | omega | (simp <;> omega)); simp [go_sem, *] at q2c0_1; have q2f0 := fun o => hb.frozen (p := ⟨w.heap.size, o, none⟩) (by first | omega | (simp <;> omega)); simp [go_sem, *] at q2f0; have q2s1 : s < w2.heap.size := (by omega); have q2n1_0 : ¬ w2.heap.size = s := (by omega); have q2n1_1 : ¬ w2.heap.size + 1 = s := (by omega); have q2n1_2 : ¬ w2.heap.size + 2 = s := (by omega); have q2c1_0 := hb.cell (p := ⟨s, 0, none⟩) (by first | omega | (simp <;> omega)); simp [go_sem, *] at q2c1_0; have q2c1_1 := hb.cell (p := ⟨s, 1, none⟩) (by first | omega | (simp <;> omega)); simp [go_sem, *] at q2c1_1; have q2f1 := fun o => hb.frozen (p := ⟨s, o, none⟩) (by first | omega | (simp <;> omega)); simp [go_sem, *] at q2f1; have q2s2 : w1.heap.size < w2.heap.size := (by omega); have q2n2_0 : ¬ w2.heap.size = w1.heap.size := (by omega); have q2n2_1 : ¬ w2.heap.size + 1 = w1.heap.size := (by omega); have q2n2_2 : ¬ w2.heap.size + 2 = w1.heap.size := (by omega); have q2c2_0 := hb.cell (p := ⟨w1.heap.size, 0, none⟩) (by first | omega | (simp <;> omega)); simp [go_sem, *] at q2c2_0; have q2c2_1 := hb.cell (p := ⟨w1.heap.size, 1, none⟩) (by first | omega | (simp <;> omega)); simp [go_sem, *] at q2c2_1; have q2f2 := fun o => hb.frozen (p := ⟨w1.heap.size, o, none⟩) (by first | omega | (simp <;> omega)); simp [go_sem, *] at q2f2; have q2o : ∀ b o, b < w.heap.size → w2.cell? ⟨b, o, none⟩ = w.cell? ⟨b, o, none⟩ := fun b o h => q2B.cell (p := ⟨b, o, none⟩) h; have hbS := hb; have hbS2 := hb; clear hb) | (have q2B : Below w.heap.size w w2 := (by refine Below.trans ?_ (hb.mono (by first | omega | (simp <;> omega))); (repeat (first | (with_reducible first | exact Below.refl _ _ | assumption | refine Below.drew ?_ | refine below_drewN ?_ _) | ((with_reducible first | refine Below.alloc ?_ ?_ _ | refine Below.setCell ?_ ?_ _); rotate_left; (first | omega | (simp <;> omega)))))); have q2z := hb.size; (try simp at q2z); have q2t : w.heap.size ≤ w2.heap.size := (by omega); have q2s0 : w.heap.size < w2.heap.size := (by omega); have q2n0_0 : ¬ w2.heap.size = w.heap.size := (by omega); have q2n0_1 : ¬ w2.heap.size + 1 = w.heap.size := (by omega); have q2n0_2 : ¬ w2.heap.size + 2 = w.heap.size := (by omega); have q2c0_0 := hb.cell (p := ⟨w.heap.size, 0, none⟩) (by first | omega | (simp <;> omega)); simp [go_sem, *] at q2c0_0; have q2c0_1 := hb.cell (p := ⟨w.heap.size, 1, none⟩) (by first | omega | (simp <;> omega)); simp [go_sem, *] at q2c0_1; have q2f0 := fun o => hb.frozen (p := ⟨w.heap.size, o, none⟩) (by first | omega | (simp <;> omega)); simp [go_sem, *] at q2f0; have q2s1 : s < w2.heap.size := (by omega); have q2n1_0 : ¬ w2.heap.size = s := (by omega); have q2n1_1 : ¬ w2.heap.size + 1 = s := (by omega); have q2n1_2 : ¬ w2.heap.size + 2 = s := (by omega); have q2c1_0 := hb.cell (p := ⟨s, 0, none⟩) (by first | omega | (simp <;> omega)); simp [go_sem, *] at q2c1_0; have q2c1_1 := hb.cell (p := ⟨s, 1, none⟩) (by first | omega | (simp <;> omega)); simp [go_sem, *] at q2c1_1; have q2f1 := fun o => hb.frozen (p := ⟨s, o, none⟩) (by first | omega | (simp <;> omega)); simp [go_sem, *] at q2f1; have q2s2 : wr.heap.size < w2.heap.size := (by omega); have q2n2_0 : ¬ w2.heap.size = wr.heap.size := (by omega); have q2n2_1 : ¬ w2.heap.size + 1 = wr.heap.size := (by omega); have q2n2_2 : ¬ w2.heap.size + 2 = wr.heap.size := (by omega); have q2c2_0 := hb.cell (p := ⟨wr.heap.size, 0, none⟩) (by first | omega | (simp <;> omega)); simp [go_sem, *] at q2c2_0; have q2c2_1 := hb.cell (p := ⟨wr.heap.size, 1, none⟩) (by first | omega | (simp <;> omega)); simp [go_sem, *] at q2c2_1; have q2f2 := fun o => hb.frozen (p := ⟨wr.heap.size, o, none⟩) (by first | omega | (simp <;> omega)); simp [go_sem, *] at q2f2; have q2o : ∀ b o, b < w.heap.size → w2.cell? ⟨b, o, none⟩ = w.cell? ⟨b, o, none⟩ := fun b o h => q2B.cell (p := ⟨b, o, none⟩) h; have hbS := hb; have hbS2 := hb; clear hb) | (have q2B : Below w.heap.size w w2 := (by refine Below.trans ?_ (hb.mono (by first | omega | (simp <;> omega))); (repeat (first | (with_reducible first | exact Below.refl _ _ | assumption | refine Below.drew ?_ | refine below_drewN ?_ _) | ((with_reducible first | refine Below.alloc ?_ ?_ _ | refine Below.setCell ?_ ?_ _); rotate_left; (first | omega | (simp <;> omega)))))); have q2z := hb.size; (try simp at q2z); have q2t : w.heap.size ≤ w2.heap.size := (by omega); have q2s0 : w.heap.size < w2.heap.size := (by omega); have q2n0_0 : ¬ w2.heap.size = w.heap.size := (by omega); have q2n0_1 : ¬ w2.heap.size + 1 = w.heap.size := (by omega); have q2n0_2 : ¬ w2.heap.size + 2 = w.heap.size := (by omega); have q2c0_0 := hb.cell (p := ⟨w.heap.size, 0, none⟩) (by first | omega | (simp <;> omega)); simp [go_sem, *] at q2c0_0; have q2c0_1 := hb.cell (p := ⟨w.heap.size, 1, none⟩) (by first | omega | (simp <;> omega)); simp [go_sem, *] at q2c0_1; have q2f0 := fun o => hb.frozen (p := ⟨w.heap.size, o, none⟩) (by first | omega | (simp <;> omega)); simp [go_sem, *] at q2f0; have q2s1 : s < w2.heap.size := (by omega); have q2n1_0 : ¬ w2.heap.size = s := (by omega); have q2n1_1 : ¬ w2.heap.size + 1 = s := (by omega); have q2n1_2 : ¬ w2.heap.size + 2 = s := (by omega); have q2c1_0 := hb.cell (p := ⟨s, 0, none⟩) (by first | omega | (simp <;> omega)); simp [go_sem, *] at q2c1_0; have q2c1_1 := hb.cell (p := ⟨s, 1, none⟩) (by first | omega | (simp <;> omega)); simp [go_sem, *] at q2c1_1; have q2f1 := fun o => hb.frozen (p := ⟨s, o, none⟩) (by first | omega | (simp <;> omega)); simp [go_sem, *] at q2f1; have q2o : ∀ b o, b < w.heap.size → w2.cell? ⟨b, o, none⟩ = w.cell? ⟨b, o, none⟩ := fun b o h => q2B.cell (p := ⟨b, o, none⟩) h; have hbS := hb; have hbS2 := hb; clear hb)))
                  refine hK.out _ _ ?_ (fun hHeld => ?_)
                  · (repeat (first | (with_reducible exact SB.refl) | (with_reducible exact hHeld) | (with_reducible refine SB.drew ?_) | (with_reducible refine SB.drewN ?_ _) | ((with_reducible refine SB.alloc ?_ ?_ _); (rotate_left); (first | omega | (simp <;> omega))) | ((with_reducible refine SB.setCell ?_ ?_ _); (rotate_left); (focus (first | (simp; done) | (right; first | omega | (simp <;> omega))))) | ((with_reducible refine SB.below ?_ hbS ?_); (rotate_left); (first | omega | (simp <;> omega))) | ((with_reducible refine SB.below ?_ hbS1 ?_); (rotate_left); (first | omega | (simp <;> omega))) | ((with_reducible refine SB.below ?_ hbS2 ?_); (rotate_left); (first | omega | (simp <;> omega))) | ((with_reducible refine SB.below ?_ hbS3 ?_); (rotate_left); (first | omega | (simp <;> omega))) | ((with_reducible refine SB.below ?_ hbS4 ?_); (rotate_left); (first | omega | (simp <;> omega))) | (with_reducible refine SB.undrew ?_) | ((with_reducible refine SB.congr ?_ ?_); (rotate_left); (focus (simp; done))) | ((with_reducible refine SB.realloc ?_ ?_ ?_); (rotate_left); (focus (simp; done)); (focus (simp; done)))))
                  clear hK K
                  (try simp only [Act.put, putA, putB, putC])
                  refine ord_take (i := 13) #[true, true, true, true, true, true, true, true, true, true, true, true, true, true, false, false, false, false, false] ?_ rfl (by kernel_rfl) (by kernel_rfl) (by kernel_rfl) (by kernel_rfl) (fun _ _ _ h => h) hHeld (by rfl) (fun wx hSx => ?_) ?_
                  rotate_left
                  · (unfold SB at hSx; go_simp; (try with_reducible rfl))
                  (try simp only [Act.put, putA, putB, putC])
                  refine ord_take (i := 14) #[true, true, true, true, true, true, true, true, true, true, true, true, true, true, true, false, false, false, false] ?_ rfl (by kernel_rfl) (by kernel_rfl) (by kernel_rfl) (by kernel_rfl) (fun _ _ _ h => h) hHeld (by rfl) (fun wx hSx => ?_) ?_
                  rotate_left
                  · (unfold SB at hSx; go_simp; (try with_reducible rfl))
                  (try simp only [Act.put, putA, putB, putC])
                  refine ord_take (i := 15) #[true, true, true, true, true, true, true, true, true, true, true, true, true, true, true, true, false, false, false] ?_ rfl (by kernel_rfl) (by kernel_rfl) (by kernel_rfl) (by kernel_rfl) (fun _ _ _ h => h) hHeld (by rfl) (fun wx hSx => ?_) ?_
                  rotate_left
                  · (unfold SB at hSx; go_simp; (try with_reducible rfl))
                  (try simp only [Act.put, putA, putB, putC])
                  refine wpAnyH_ready (rs := [16]) (by kernel_rfl) (by simp) ?_
                  refine ord_run (i := 16) #[true, true, true, true, true, true, true, true, true, true, true, true, true, true, true, true, true, false, false] rfl (by kernel_rfl) (by rfl) (fun K hK => ?_) AllReadyH.nil
                  go_simp
                  refine hK.out _ _ ?_ (fun hHeld => ?_)
                  · (repeat (first | (with_reducible exact SB.refl) | (with_reducible exact hHeld) | (with_reducible refine SB.drew ?_) | (with_reducible refine SB.drewN ?_ _) | ((with_reducible refine SB.alloc ?_ ?_ _); (rotate_left); (first | omega | (simp <;> omega))) | ((with_reducible refine SB.setCell ?_ ?_ _); (rotate_left); (focus (first | (simp; done) | (right; first | omega | (simp <;> omega))))) | ((with_reducible refine SB.below ?_ hbS ?_); (rotate_left); (first | omega | (simp <;> omega))) | ((with_reducible refine SB.below ?_ hbS1 ?_); (rotate_left); (first | omega | (simp <;> omega))) | ((with_reducible refine SB.below ?_ hbS2 ?_); (rotate_left); (first | omega | (simp <;> omega))) | ((with_reducible refine SB.below ?_ hbS3 ?_); (rotate_left); (first | omega | (simp <;> omega))) | ((with_reducible refine SB.below ?_ hbS4 ?_); (rotate_left); (first | omega | (simp <;> omega))) | (with_reducible refine SB.undrew ?_) | ((with_reducible refine SB.congr ?_ ?_); (rotate_left); (focus (simp; done))) | ((with_reducible refine SB.realloc ?_ ?_ ?_); (rotate_left); (focus (simp; done)); (focus (simp; done)))))
                  clear hK K
                  (try simp only [Act.put, putA, putB, putC])
                  refine wpAnyH_ready (rs := [17]) (by kernel_rfl) (by simp) ?_
                  refine ord_run (i := 17) #[true, true, true, true, true, true, true, true, true, true, true, true, true, true, true, true, true, true, false] rfl (by kernel_rfl) (by rfl) (fun K hK => ?_) AllReadyH.nil
                  go_simp
                  refine hK.out _ _ ?_ (fun hHeld => ?_)
                  · (repeat (first | (with_reducible exact SB.refl) | (with_reducible exact hHeld) | (with_reducible refine SB.drew ?_) | (with_reducible refine SB.drewN ?_ _) | ((with_reducible refine SB.alloc ?_ ?_ _); (rotate_left); (first | omega | (simp <;> omega))) | ((with_reducible refine SB.setCell ?_ ?_ _); (rotate_left); (focus (first | (simp; done) | (right; first | omega | (simp <;> omega))))) | ((with_reducible refine SB.below ?_ hbS ?_); (rotate_left); (first | omega | (simp <;> omega))) | ((with_reducible refine SB.below ?_ hbS1 ?_); (rotate_left); (first | omega | (simp <;> omega))) | ((with_reducible refine SB.below ?_ hbS2 ?_); (rotate_left); (first | omega | (simp <;> omega))) | ((with_reducible refine SB.below ?_ hbS3 ?_); (rotate_left); (first | omega | (simp <;> omega))) | ((with_reducible refine SB.below ?_ hbS4 ?_); (rotate_left); (first | omega | (simp <;> omega))) | (with_reducible refine SB.undrew ?_) | ((with_reducible refine SB.congr ?_ ?_); (rotate_left); (focus (simp; done))) | ((with_reducible refine SB.realloc ?_ ?_ ?_); (rotate_left); (focus (simp; done)); (focus (simp; done)))))
                  clear hK K
                  (try simp only [Act.put, putA, putB, putC])
                  refine ord_take (i := 18) #[true, true, true, true, true, true, true, true, true, true, true, true, true, true, true, true, true, true, true] ?_ rfl (by kernel_rfl) (by kernel_rfl) (by kernel_rfl) (by kernel_rfl) (fun _ _ _ h => h) hHeld (by rfl) (fun wx hSx => ?_) ?_
                  rotate_left
                  · (unfold SB at hSx; go_simp; (try with_reducible rfl))
                  (try simp only [Act.put, putA, putB, putC])
                  refine wpAnyH_done (by kernel_rfl) ?_ _
                  go_wp2_with fail; go_meet; exact ⟨_, rfl, ⟨(by simp [go_sem, *]), (by simp [go_sem, *])⟩, (by (repeat (first | (with_reducible first | exact Below.refl _ _ | assumption | refine Below.drew ?_ | refine below_drewN ?_ _) | ((with_reducible first | refine Below.alloc ?_ ?_ _ | refine Below.setCell ?_ ?_ _); rotate_left; (first | omega | (simp <;> omega)))))), hs1, (by first | omega | (simp <;> omega)), (by first | omega | (simp <;> omega)), ⟨(by simp [go_sem, *]), (by simp [go_sem, *]), (by simp [go_sem, *])⟩, ⟨(by simp [go_sem, *]), (by simp [go_sem, *]), (by simp [go_sem, *])⟩⟩
                refine ord_run (i := 16) #[true, true, true, true, true, true, true, true, true, true, true, true, false, false, false, false, true, false, false] rfl (by kernel_rfl) (by rfl) (fun K hK => ?_) ?_
                · go_simp
                  refine hK.out _ _ ?_ (fun hHeld => ?_)
                  · (repeat (first | (with_reducible exact SB.refl) | (with_reducible exact hHeld) | (with_reducible refine SB.drew ?_) | (with_reducible refine SB.drewN ?_ _) | ((with_reducible refine SB.alloc ?_ ?_ _); (rotate_left); (first | omega | (simp <;> omega))) | ((with_reducible refine SB.setCell ?_ ?_ _); (rotate_left); (focus (first | (simp; done) | (right; first | omega | (simp <;> omega))))) | ((with_reducible refine SB.below ?_ hbS ?_); (rotate_left); (first | omega | (simp <;> omega))) | ((with_reducible refine SB.below ?_ hbS1 ?_); (rotate_left); (first | omega | (simp <;> omega))) | ((with_reducible refine SB.below ?_ hbS2 ?_); (rotate_left); (first | omega | (simp <;> omega))) | ((with_reducible refine SB.below ?_ hbS3 ?_); (rotate_left); (first | omega | (simp <;> omega))) | ((with_reducible refine SB.below ?_ hbS4 ?_); (rotate_left); (first | omega | (simp <;> omega))) | (with_reducible refine SB.undrew ?_) | ((with_reducible refine SB.congr ?_ ?_); (rotate_left); (focus (simp; done))) | ((with_reducible refine SB.realloc ?_ ?_ ?_); (rotate_left); (focus (simp; done)); (focus (simp; done)))))
                  clear hK K
                  (try simp only [Act.put, putA, putB, putC])
                  refine wpAnyH_ready (rs := [12]) (by kernel_rfl) (by simp) ?_
                  refine ord_run (i := 12) #[true, true, true, true, true, true, true, true, true, true, true, true, true, false, false, false, true, false, false] rfl (by kernel_rfl) (by rfl) (fun K hK => ?_) AllReadyH.nil
                  go_simp
                  go_wp2_with (go_at_call 45; refine (rscale_any (f j * g j) t hw1 (by omega) (by omega) _).mono ?_; rintro e w2 ⟨rfl, hb⟩; rw [HF.out]; (first | (have q2B : Below w.heap.size w w2 := (by refine Below.trans ?_ (hb.mono (by first | omega | (simp <;> omega))); (repeat (first | (with_reducible first | exact Below.refl _ _ | assumption | refine Below.drew ?_ | refine below_drewN ?_ _) | ((with_reducible first | refine Below.alloc ?_ ?_ _ | refine Below.setCell ?_ ?_ _); rotate_left; (first | omega | (simp <;> omega)))))); have q2z := hb.size; (try simp at q2z); have q2t : w.heap.size ≤ w2.heap.size := (by omega); have q2s0 : w.heap.size < w2.heap.size := (by omega); have q2n0_0 : ¬ w2.heap.size = w.heap.size := (by omega); have q2n0_1 : ¬ w2.heap.size + 1 = w.heap.size := (by omega); have q2n0_2 : ¬ w2.heap.size + 2 = w.heap.size := (by omega); have q2c0_0 := hb.cell (p := ⟨w.heap.size, 0, none⟩) (by first | omega | (simp <;> omega)); simp [go_sem, *] at q2c0_0; have q2c0_1 := hb.cell (p := ⟨w.heap.size, 1, none⟩) (by first | omega | (simp <;> omega)); simp [go_sem, *] at q2c0_1; have q2f0 := fun o => hb.frozen (p := ⟨w.heap.size, o, none⟩) (by first | omega | (simp <;> omega)); simp [go_sem, *] at q2f0; have q2s1 : s < w2.heap.size := (by omega); have q2n1_0 : ¬ w2.heap.size = s := (by omega); have q2n1_1 : ¬ w2.heap.size + 1 = s := (by omega); have q2n1_2 : ¬ w2.heap.size + 2 = s := (by omega); have q2c1_0 := hb.cell (p := ⟨s, 0, none⟩) (by first | omega | (simp <;> omega)); simp [go_sem, *] at q2c1_0; have q2c1_1 := hb.cell (p := ⟨s, 1, none⟩) (by first | omega | (simp <;> omega)); simp [go_sem, *] at q2c1_1; have q2f1 := fun o => hb.frozen (p := ⟨s, o, none⟩) (by first | omega | (simp <;> omega)); simp [go_sem, *] at q2f1; have q2s2 : w1.heap.size < w2.heap.size := (by omega); have q2n2_0 : ¬ w2.heap.size = w1.heap.size := (by omega); have q2n2_1 : ¬ w2.heap.size + 1 = w1.heap.size := (by omega); have q2n2_2 : ¬ w2.heap.size + 2 = w1.heap.size := (by omega); have q2c2_0 := hb.cell (p := ⟨w1.heap.size, 0, none⟩) (by first | omega | (simp <;> omega)); simp [go_sem, *] at q2c2_0; have q2c2_1 := hb.cell (p := ⟨w1.heap.size, 1, none⟩) (by first | omega | (simp <;> omega)); simp [go_sem, *] at q2c2_1; have q2f2 := fun o => hb.frozen (p := ⟨w1.heap.size, o, none⟩) (by first | omega | (simp <;> omega)); simp [go_sem, *] at q2f2; have q2o : ∀ b o, b < w.heap.size → w2.cell? ⟨b, o, none⟩ = w.cell? ⟨b, o, none⟩ := fun b o h => q2B.cell (p := ⟨b, o, none⟩) h; have hbS := hb; have hbS2 := hb; clear hb) | (have q2B : Below w.heap.size w w2 := (by refine Below.trans ?_ (hb.mono (by first | omega | (simp <;> omega))); (repeat (first | (with_reducible first | exact Below.refl _ _ | assumption | refine Below.drew ?_ | refine below_drewN ?_ _) | ((with_reducible first | refine Below.alloc ?_ ?_ _ | refine Below.setCell ?_ ?_ _); rotate_left; (first | omega | (simp <;> omega)))))); have q2z := hb.size; (try simp at q2z); have q2t : w.heap.size ≤ w2.heap.size := (by omega); have q2s0 : w.heap.size < w2.heap.size := (by omega); have q2n0_0 : ¬ w2.heap.size = w.heap.size := (by omega); have q2n0_1 : ¬ w2.heap.size + 1 = w.heap.size := (by omega); have q2n0_2 : ¬ w2.heap.size + 2 = w.heap.size := (by omega); have q2c0_0 := hb.cell (p := ⟨w.heap.size, 0, none⟩) (by first | omega | (simp <;> omega)); simp [go_sem, *] at q2c0_0; have q2c0_1 := hb.cell (p := ⟨w.heap.size, 1, none⟩) (by first | omega | (simp <;> omega)); simp [go_sem, *] at q2c0_1; have q2f0 := fun o => hb.frozen (p := ⟨w.heap.size, o, none⟩) (by first | omega | (simp <;> omega)); simp [go_sem, *] at q2f0; have q2s1 : s < w2.heap.size := (by omega); have q2n1_0 : ¬ w2.heap.size = s := (by omega); have q2n1_1 : ¬ w2.heap.size + 1 = s := (by omega); have q2n1_2 : ¬ w2.heap.size + 2 = s := (by omega); have q2c1_0 := hb.cell (p := ⟨s, 0, none⟩) (by first | omega | (simp <;> omega)); simp [go_sem, *] at q2c1_0; have q2c1_1 := hb.cell (p := ⟨s, 1, none⟩) (by first | omega | (simp <;> omega)); simp [go_sem, *] at q2c1_1; have q2f1 := fun o => hb.frozen (p := ⟨s, o, none⟩) (by first | omega | (simp <;> omega)); simp [go_sem, *] at q2f1; have q2s2 : wr.heap.size < w2.heap.size := (by omega); have q2n2_0 : ¬ w2.heap.size = wr.heap.size := (by omega); have q2n2_1 : ¬ w2.heap.size + 1 = wr.heap.size := (by omega); have q2n2_2 : ¬ w2.heap.size + 2 = wr.heap.size := (by omega); have q2c2_0 := hb.cell (p := ⟨wr.heap.size, 0, none⟩) (by first | omega | (simp <;> omega)); simp [go_sem, *] at q2c2_0; have q2c2_1 := hb.cell (p := ⟨wr.heap.size, 1, none⟩) (by first | omega | (simp <;> omega)); simp [go_sem, *] at q2c2_1; have q2f2 := fun o => hb.frozen (p := ⟨wr.heap.size, o, none⟩) (by first | omega | (simp <;> omega)); simp [go_sem, *] at q2f2; have q2o : ∀ b o, b < w.heap.size → w2.cell? ⟨b, o, none⟩ = w.cell? ⟨b, o, none⟩ := fun b o h => q2B.cell (p := ⟨b, o, none⟩) h; have hbS := hb; have hbS2 := hb; clear hb) | (have q2B : Below w.heap.size w w2 := (by refine Below.trans ?_ (hb.mono (by first | omega | (simp <;> omega))); (repeat (first | (with_reducible first | exact Below.refl _ _ | assumption | refine Below.drew ?_ | refine below_drewN ?_ _) | ((with_reducible first | refine Below.alloc ?_ ?_ _ | refine Below.setCell ?_ ?_ _); rotate_left; (first | omega | (simp <;> omega)))))); have q2z := hb.size; (try simp at q2z); have q2t : w.heap.size ≤ w2.heap.size := (by omega); have q2s0 : w.heap.size < w2.heap.size := (by omega); have q2n0_0 : ¬ w2.heap.size = w.heap.size := (by omega); have q2n0_1 : ¬ w2.heap.size + 1 = w.heap.size := (by omega); have q2n0_2 : ¬ w2.heap.size + 2 = w.heap.size := (by omega); have q2c0_0 := hb.cell (p := ⟨w.heap.size, 0, none⟩) (by first | omega | (simp <;> omega)); simp [go_sem, *] at q2c0_0; have q2c0_1 := hb.cell (p := ⟨w.heap.size, 1, none⟩) (by first | omega | (simp <;> omega)); simp [go_sem, *] at q2c0_1; have q2f0 := fun o => hb.frozen (p := ⟨w.heap.size, o, none⟩) (by first | omega | (simp <;> omega)); simp [go_sem, *] at q2f0; have q2s1 : s < w2.heap.size := (by omega); have q2n1_0 : ¬ w2.heap.size = s := (by omega); have q2n1_1 : ¬ w2.heap.size + 1 = s := (by omega); have q2n1_2 : ¬ w2.heap.size + 2 = s := (by omega); have q2c1_0 := hb.cell (p := ⟨s, 0, none⟩) (by first | omega | (simp <;> omega)); simp [go_sem, *] at q2c1_0; have q2c1_1 := hb.cell (p := ⟨s, 1, none⟩) (by first | omega | (simp <;> omega)); simp [go_sem, *] at q2c1_1; have q2f1 := fun o => hb.frozen (p := ⟨s, o, none⟩) (by first | omega | (simp <;> omega)); simp [go_sem, *] at q2f1; have q2o : ∀ b o, b < w.heap.size → w2.cell? ⟨b, o, none⟩ = w.cell? ⟨b, o, none⟩ := fun b o h => q2B.cell (p := ⟨b, o, none⟩) h; have hbS := hb; have hbS2 := hb; clear hb)))
                  refine hK.out _ _ ?_ (fun hHeld => ?_)
                  · (repeat (first | (with_reducible exact SB.refl) | (with_reducible exact hHeld) | (with_reducible refine SB.drew ?_) | (with_reducible refine SB.drewN ?_ _) | ((with_reducible refine SB.alloc ?_ ?_ _); (rotate_left); (first | omega | (simp <;> omega))) | ((with_reducible refine SB.setCell ?_ ?_ _); (rotate_left); (focus (first | (simp; done) | (right; first | omega | (simp <;> omega))))) | ((with_reducible refine SB.below ?_ hbS ?_); (rotate_left); (first | omega | (simp <;> omega))) | ((with_reducible refine SB.below ?_ hbS1 ?_); (rotate_left); (first | omega | (simp <;> omega))) | ((with_reducible refine SB.below ?_ hbS2 ?_); (rotate_left); (first | omega | (simp <;> omega))) | ((with_reducible refine SB.below ?_ hbS3 ?_); (rotate_left); (first | omega | (simp <;> omega))) | ((with_reducible refine SB.below ?_ hbS4 ?_); (rotate_left); (first | omega | (simp <;> omega))) | (with_reducible refine SB.undrew ?_) | ((with_reducible refine SB.congr ?_ ?_); (rotate_left); (focus (simp; done))) | ((with_reducible refine SB.realloc ?_ ?_ ?_); (rotate_left); (focus (simp; done)); (focus (simp; done)))))
                  clear hK K
                  (try simp only [Act.put, putA, putB, putC])
                  refine ord_take (i := 13) #[true, true, true, true, true, true, true, true, true, true, true, true, true, true, false, false, true, false, false] ?_ rfl (by kernel_rfl) (by kernel_rfl) (by kernel_rfl) (by kernel_rfl) (fun _ _ _ h => h) hHeld (by rfl) (fun wx hSx => ?_) ?_
                  rotate_left
                  · (unfold SB at hSx; go_simp; (try with_reducible rfl))
                  (try simp only [Act.put, putA, putB, putC])
                  refine ord_take (i := 14) #[true, true, true, true, true, true, true, true, true, true, true, true, true, true, true, false, true, false, false] ?_ rfl (by kernel_rfl) (by kernel_rfl) (by kernel_rfl) (by kernel_rfl) (fun _ _ _ h => h) hHeld (by rfl) (fun wx hSx => ?_) ?_
                  rotate_left
                  · (unfold SB at hSx; go_simp; (try with_reducible rfl))
                  (try simp only [Act.put, putA, putB, putC])
                  refine ord_take (i := 15) #[true, true, true, true, true, true, true, true, true, true, true, true, true, true, true, true, true, false, false] ?_ rfl (by kernel_rfl) (by kernel_rfl) (by kernel_rfl) (by kernel_rfl) (fun _ _ _ h => h) hHeld (by rfl) (fun wx hSx => ?_) ?_
                  rotate_left
                  · (unfold SB at hSx; go_simp; (try with_reducible rfl))
                  (try simp only [Act.put, putA, putB, putC])
                  refine wpAnyH_ready (rs := [17]) (by kernel_rfl) (by simp) ?_
                  refine ord_run (i := 17) #[true, true, true, true, true, true, true, true, true, true, true, true, true, true, true, true, true, true, false] rfl (by kernel_rfl) (by rfl) (fun K hK => ?_) AllReadyH.nil
                  go_simp
                  refine hK.out _ _ ?_ (fun hHeld => ?_)
                  · (repeat (first | (with_reducible exact SB.refl) | (with_reducible exact hHeld) | (with_reducible refine SB.drew ?_) | (with_reducible refine SB.drewN ?_ _) | ((with_reducible refine SB.alloc ?_ ?_ _); (rotate_left); (first | omega | (simp <;> omega))) | ((with_reducible refine SB.setCell ?_ ?_ _); (rotate_left); (focus (first | (simp; done) | (right; first | omega | (simp <;> omega))))) | ((with_reducible refine SB.below ?_ hbS ?_); (rotate_left); (first | omega | (simp <;> omega))) | ((with_reducible refine SB.below ?_ hbS1 ?_); (rotate_left); (first | omega | (simp <;> omega))) | ((with_reducible refine SB.below ?_ hbS2 ?_); (rotate_left); (first | omega | (simp <;> omega))) | ((with_reducible refine SB.below ?_ hbS3 ?_); (rotate_left); (first | omega | (simp <;> omega))) | ((with_reducible refine SB.below ?_ hbS4 ?_); (rotate_left); (first | omega | (simp <;> omega))) | (with_reducible refine SB.undrew ?_) | ((with_reducible refine SB.congr ?_ ?_); (rotate_left); (focus (simp; done))) | ((with_reducible refine SB.realloc ?_ ?_ ?_); (rotate_left); (focus (simp; done)); (focus (simp; done)))))
                  clear hK K
                  (try simp only [Act.put, putA, putB, putC])
                  refine ord_take (i := 18) #[true, true, true, true, true, true, true, true, true, true, true, true, true, true, true, true, true, true, true] ?_ rfl (by kernel_rfl) (by kernel_rfl) (by kernel_rfl) (by kernel_rfl) (fun _ _ _ h => h) hHeld (by rfl) (fun wx hSx => ?_) ?_
                  rotate_left
                  · (unfold SB at hSx; go_simp; (try with_reducible rfl))
                  (try simp only [Act.put, putA, putB, putC])
                  refine wpAnyH_done (by kernel_rfl) ?_ _
                  go_wp2_with fail; go_meet; exact ⟨_, rfl, ⟨(by simp [go_sem, *]), (by simp [go_sem, *])⟩, (by (repeat (first | (with_reducible first | exact Below.refl _ _ | assumption | refine Below.drew ?_ | refine below_drewN ?_ _) | ((with_reducible first | refine Below.alloc ?_ ?_ _ | refine Below.setCell ?_ ?_ _); rotate_left; (first | omega | (simp <;> omega)))))), hs1, (by first | omega | (simp <;> omega)), (by first | omega | (simp <;> omega)), ⟨(by simp [go_sem, *]), (by simp [go_sem, *]), (by simp [go_sem, *])⟩, ⟨(by simp [go_sem, *]), (by simp [go_sem, *]), (by simp [go_sem, *])⟩⟩
                exact AllReadyH.nil
              refine ord_run (i := 16) #[true, true, true, true, true, true, true, true, true, true, false, true, false, false, false, false, true, false, false] rfl (by kernel_rfl) (by rfl) (fun K hK => ?_) ?_
              · go_simp
                refine hK.out _ _ ?_ (fun hHeld => ?_)
                · (repeat (first | (with_reducible exact SB.refl) | (with_reducible exact hHeld) | (with_reducible refine SB.drew ?_) | (with_reducible refine SB.drewN ?_ _) | ((with_reducible refine SB.alloc ?_ ?_ _); (rotate_left); (first | omega | (simp <;> omega))) | ((with_reducible refine SB.setCell ?_ ?_ _); (rotate_left); (focus (first | (simp; done) | (right; first | omega | (simp <;> omega))))) | ((with_reducible refine SB.below ?_ hbS ?_); (rotate_left); (first | omega | (simp <;> omega))) | ((with_reducible refine SB.below ?_ hbS1 ?_); (rotate_left); (first | omega | (simp <;> omega))) | ((with_reducible refine SB.below ?_ hbS2 ?_); (rotate_left); (first | omega | (simp <;> omega))) | ((with_reducible refine SB.below ?_ hbS3 ?_); (rotate_left); (first | omega | (simp <;> omega))) | ((with_reducible refine SB.below ?_ hbS4 ?_); (rotate_left); (first | omega | (simp <;> omega))) | (with_reducible refine SB.undrew ?_) | ((with_reducible refine SB.congr ?_ ?_); (rotate_left); (focus (simp; done))) | ((with_reducible refine SB.realloc ?_ ?_ ?_); (rotate_left); (focus (simp; done)); (focus (simp; done)))))
                clear hK K
                (try simp only [Act.put, putA, putB, putC])
                refine wpAnyH_ready (rs := [10]) (by kernel_rfl) (by simp) ?_
                refine ord_run (i := 10) #[true, true, true, true, true, true, true, true, true, true, true, true, false, false, false, false, true, false, false] rfl (by kernel_rfl) (by rfl) (fun K hK => ?_) AllReadyH.nil
                go_simp
                go_wp2_with (go_at_call 46; refine (rmul_any (f j) (g j) (by omega) hi2 (by omega) (by omega) _).mono ?_; rintro e w1 ⟨rfl, hb⟩; (first | (have q1B : Below w.heap.size w w1 := (by refine Below.trans ?_ (hb.mono (by first | omega | (simp <;> omega))); (repeat (first | (with_reducible first | exact Below.refl _ _ | assumption | refine Below.drew ?_ | refine below_drewN ?_ _) | ((with_reducible first | refine Below.alloc ?_ ?_ _ | refine Below.setCell ?_ ?_ _); rotate_left; (first | omega | (simp <;> omega)))))); have q1z := hb.size; (try simp at q1z); have q1t : w.heap.size ≤ w1.heap.size := (by omega); have q1s0 : w.heap.size < w1.heap.size := (by omega); have q1n0_0 : ¬ w1.heap.size = w.heap.size := (by omega); have q1n0_1 : ¬ w1.heap.size + 1 = w.heap.size := (by omega); have q1n0_2 : ¬ w1.heap.size + 2 = w.heap.size := (by omega); have q1c0_0 := hb.cell (p := ⟨w.heap.size, 0, none⟩) (by first | omega | (simp <;> omega)); simp [go_sem, *] at q1c0_0; have q1c0_1 := hb.cell (p := ⟨w.heap.size, 1, none⟩) (by first | omega | (simp <;> omega)); simp [go_sem, *] at q1c0_1; have q1f0 := fun o => hb.frozen (p := ⟨w.heap.size, o, none⟩) (by first | omega | (simp <;> omega)); simp [go_sem, *] at q1f0; have q1s1 : s < w1.heap.size := (by omega); have q1n1_0 : ¬ w1.heap.size = s := (by omega); have q1n1_1 : ¬ w1.heap.size + 1 = s := (by omega); have q1n1_2 : ¬ w1.heap.size + 2 = s := (by omega); have q1c1_0 := hb.cell (p := ⟨s, 0, none⟩) (by first | omega | (simp <;> omega)); simp [go_sem, *] at q1c1_0; have q1c1_1 := hb.cell (p := ⟨s, 1, none⟩) (by first | omega | (simp <;> omega)); simp [go_sem, *] at q1c1_1; have q1f1 := fun o => hb.frozen (p := ⟨s, o, none⟩) (by first | omega | (simp <;> omega)); simp [go_sem, *] at q1f1; have q1s2 : wr.heap.size < w1.heap.size := (by omega); have q1n2_0 : ¬ w1.heap.size = wr.heap.size := (by omega); have q1n2_1 : ¬ w1.heap.size + 1 = wr.heap.size := (by omega); have q1n2_2 : ¬ w1.heap.size + 2 = wr.heap.size := (by omega); have q1c2_0 := hb.cell (p := ⟨wr.heap.size, 0, none⟩) (by first | omega | (simp <;> omega)); simp [go_sem, *] at q1c2_0; have q1c2_1 := hb.cell (p := ⟨wr.heap.size, 1, none⟩) (by first | omega | (simp <;> omega)); simp [go_sem, *] at q1c2_1; have q1f2 := fun o => hb.frozen (p := ⟨wr.heap.size, o, none⟩) (by first | omega | (simp <;> omega)); simp [go_sem, *] at q1f2; have q1o : ∀ b o, b < w.heap.size → w1.cell? ⟨b, o, none⟩ = w.cell? ⟨b, o, none⟩ := fun b o h => q1B.cell (p := ⟨b, o, none⟩) h; have hbS := hb; have hbS1 := hb; clear hb) | (have q1B : Below w.heap.size w w1 := (by refine Below.trans ?_ (hb.mono (by first | omega | (simp <;> omega))); (repeat (first | (with_reducible first | exact Below.refl _ _ | assumption | refine Below.drew ?_ | refine below_drewN ?_ _) | ((with_reducible first | refine Below.alloc ?_ ?_ _ | refine Below.setCell ?_ ?_ _); rotate_left; (first | omega | (simp <;> omega)))))); have q1z := hb.size; (try simp at q1z); have q1t : w.heap.size ≤ w1.heap.size := (by omega); have q1s0 : w.heap.size < w1.heap.size := (by omega); have q1n0_0 : ¬ w1.heap.size = w.heap.size := (by omega); have q1n0_1 : ¬ w1.heap.size + 1 = w.heap.size := (by omega); have q1n0_2 : ¬ w1.heap.size + 2 = w.heap.size := (by omega); have q1c0_0 := hb.cell (p := ⟨w.heap.size, 0, none⟩) (by first | omega | (simp <;> omega)); simp [go_sem, *] at q1c0_0; have q1c0_1 := hb.cell (p := ⟨w.heap.size, 1, none⟩) (by first | omega | (simp <;> omega)); simp [go_sem, *] at q1c0_1; have q1f0 := fun o => hb.frozen (p := ⟨w.heap.size, o, none⟩) (by first | omega | (simp <;> omega)); simp [go_sem, *] at q1f0; have q1s1 : s < w1.heap.size := (by omega); have q1n1_0 : ¬ w1.heap.size = s := (by omega); have q1n1_1 : ¬ w1.heap.size + 1 = s := (by omega); have q1n1_2 : ¬ w1.heap.size + 2 = s := (by omega); have q1c1_0 := hb.cell (p := ⟨s, 0, none⟩) (by first | omega | (simp <;> omega)); simp [go_sem, *] at q1c1_0; have q1c1_1 := hb.cell (p := ⟨s, 1, none⟩) (by first | omega | (simp <;> omega)); simp [go_sem, *] at q1c1_1; have q1f1 := fun o => hb.frozen (p := ⟨s, o, none⟩) (by first | omega | (simp <;> omega)); simp [go_sem, *] at q1f1; have q1o : ∀ b o, b < w.heap.size → w1.cell? ⟨b, o, none⟩ = w.cell? ⟨b, o, none⟩ := fun b o h => q1B.cell (p := ⟨b, o, none⟩) h; have hbS := hb; have hbS1 := hb; clear hb)))
                refine hK.out _ _ ?_ (fun hHeld => ?_)
                · (repeat (first | (with_reducible exact SB.refl) | (with_reducible exact hHeld) | (with_reducible refine SB.drew ?_) | (with_reducible refine SB.drewN ?_ _) | ((with_reducible refine SB.alloc ?_ ?_ _); (rotate_left); (first | omega | (simp <;> omega))) | ((with_reducible refine SB.setCell ?_ ?_ _); (rotate_left); (focus (first | (simp; done) | (right; first | omega | (simp <;> omega))))) | ((with_reducible refine SB.below ?_ hbS ?_); (rotate_left); (first | omega | (simp <;> omega))) | ((with_reducible refine SB.below ?_ hbS1 ?_); (rotate_left); (first | omega | (simp <;> omega))) | ((with_reducible refine SB.below ?_ hbS2 ?_); (rotate_left); (first | omega | (simp <;> omega))) | ((with_reducible refine SB.below ?_ hbS3 ?_); (rotate_left); (first | omega | (simp <;> omega))) | ((with_reducible refine SB.below ?_ hbS4 ?_); (rotate_left); (first | omega | (simp <;> omega))) | (with_reducible refine SB.undrew ?_) | ((with_reducible refine SB.congr ?_ ?_); (rotate_left); (focus (simp; done))) | ((with_reducible refine SB.realloc ?_ ?_ ?_); (rotate_left); (focus (simp; done)); (focus (simp; done)))))
                clear hK K
                (try simp only [Act.put, putA, putB, putC])
                refine wpAnyH_ready (rs := [12]) (by kernel_rfl) (by simp) ?_
                refine ord_run (i := 12) #[true, true, true, true, true, true, true, true, true, true, true, true, true, false, false, false, true, false, false] rfl (by kernel_rfl) (by rfl) (fun K hK => ?_) AllReadyH.nil
                go_simp
                go_wp2_with (go_at_call 45; refine (rscale_any (f j * g j) t hw1 (by omega) (by omega) _).mono ?_; rintro e w2 ⟨rfl, hb⟩; rw [HF.out]; (first | (have q2B : Below w.heap.size w w2 := (by refine Below.trans ?_ (hb.mono (by first | omega | (simp <;> omega))); (repeat (first | (with_reducible first | exact Below.refl _ _ | assumption | refine Below.drew ?_ | refine below_drewN ?_ _) | ((with_reducible first | refine Below.alloc ?_ ?_ _ | refine Below.setCell ?_ ?_ _); rotate_left; (first | omega | (simp <;> omega)))))); have q2z := hb.size; (try simp at q2z); have q2t : w.heap.size ≤ w2.heap.size := (by omega); have q2s0 : w.heap.size < w2.heap.size := (by omega); have q2n0_0 : ¬ w2.heap.size = w.heap.size := (by omega); have q2n0_1 : ¬ w2.heap.size + 1 = w.heap.size := (by omega); have q2n0_2 : ¬ w2.heap.size + 2 = w.heap.size := (by omega); have q2c0_0 := hb.cell (p := ⟨w.heap.size, 0, none⟩) (by first | omega | (simp <;> omega)); simp [go_sem, *] at q2c0_0; have q2c0_1 := hb.cell (p := ⟨w.heap.size, 1, none⟩) (by first | omega | (simp <;> omega)); simp [go_sem, *] at q2c0_1; have q2f0 := fun o => hb.frozen (p := ⟨w.heap.size, o, none⟩) (by first | omega | (simp <;> omega)); simp [go_sem, *] at q2f0; have q2s1 : s < w2.heap.size := (by omega); have q2n1_0 : ¬ w2.heap.size = s := (by omega); have q2n1_1 : ¬ w2.heap.size + 1 = s := (by omega); have q2n1_2 : ¬ w2.heap.size + 2 = s := (by omega); have q2c1_0 := hb.cell (p := ⟨s, 0, none⟩) (by first | omega | (simp <;> omega)); simp [go_sem, *] at q2c1_0; have q2c1_1 := hb.cell (p := ⟨s, 1, none⟩) (by first | omega | (simp <;> omega)); simp [go_sem, *] at q2c1_1; have q2f1 := fun o => hb.frozen (p := ⟨s, o, none⟩) (by first | omega | (simp <;> omega)); simp [go_sem, *] at q2f1; have q2s2 : w1.heap.size < w2.heap.size := (by omega); have q2n2_0 : ¬ w2.heap.size = w1.heap.size := (by omega); have q2n2_1 : ¬ w2.heap.size + 1 = w1.heap.size := (by omega); have q2n2_2 : ¬ w2.heap.size + 2 = w1.heap.size := (by omega); have q2c2_0 := hb.cell (p := ⟨w1.heap.size, 0, none⟩) (by first | omega | (simp <;> omega)); simp [go_sem, *] at q2c2_0; have q2c2_1 := hb.cell (p := ⟨w1.heap.size, 1, none⟩) (by first | omega | (simp <;> omega)); simp [go_sem, *] at q2c2_1; have q2f2 := fun o => hb.frozen (p := ⟨w1.heap.size, o, none⟩) (by first | omega | (simp <;> omega)); simp [go_sem, *] at q2f2; have q2o : ∀ b o, b < w.heap.size → w2.cell? ⟨b, o, none⟩ = w.cell? ⟨b, o, none⟩ := fun b o h => q2B.cell (p := ⟨b, o, none⟩) h; have hbS := hb; have hbS2 := hb; clear hb) | (have q2B : Below w.heap.size w w2 := (by refine Below.trans ?_ (hb.mono (by first | omega | (simp <;> omega))); (repeat (first | (with_reducible first | exact Below.refl _ _ | assumption | refine Below.drew ?_ | refine below_drewN ?_ _) | ((with_reducible first | refine Below.alloc ?_ ?_ _ | refine Below.setCell ?_ ?_ _); rotate_left; (first | omega | (simp <;> omega)))))); have q2z := hb.size; (try simp at q2z); have q2t : w.heap.size ≤ w2.heap.size := (by omega); have q2s0 : w.heap.size < w2.heap.size := (by omega); have q2n0_0 : ¬ w2.heap.size = w.heap.size := (by omega); have q2n0_1 : ¬ w2.heap.size + 1 = w.heap.size := (by omega); have q2n0_2 : ¬ w2.heap.size + 2 = w.heap.size := (by omega); have q2c0_0 := hb.cell (p := ⟨w.heap.size, 0, none⟩) (by first | omega | (simp <;> omega)); simp [go_sem, *] at q2c0_0; have q2c0_1 := hb.cell (p := ⟨w.heap.size, 1, none⟩) (by first | omega | (simp <;> omega)); simp [go_sem, *] at q2c0_1; have q2f0 := fun o => hb.frozen (p := ⟨w.heap.size, o, none⟩) (by first | omega | (simp <;> omega)); simp [go_sem, *] at q2f0; have q2s1 : s < w2.heap.size := (by omega); have q2n1_0 : ¬ w2.heap.size = s := (by omega); have q2n1_1 : ¬ w2.heap.size + 1 = s := (by omega); have q2n1_2 : ¬ w2.heap.size + 2 = s := (by omega); have q2c1_0 := hb.cell (p := ⟨s, 0, none⟩) (by first | omega | (simp <;> omega)); simp [go_sem, *] at q2c1_0; have q2c1_1 := hb.cell (p := ⟨s, 1, none⟩) (by first | omega | (simp <;> omega)); simp [go_sem, *] at q2c1_1; have q2f1 := fun o => hb.frozen (p := ⟨s, o, none⟩) (by first | omega | (simp <;> omega)); simp [go_sem, *] at q2f1; have q2s2 : wr.heap.size < w2.heap.size := (by omega); have q2n2_0 : ¬ w2.heap.size = wr.heap.size := (by omega); have q2n2_1 : ¬ w2.heap.size + 1 = wr.heap.size := (by omega); have q2n2_2 : ¬ w2.heap.size + 2 = wr.heap.size := (by omega); have q2c2_0 := hb.cell (p := ⟨wr.heap.size, 0, none⟩) (by first | omega | (simp <;> omega)); simp [go_sem, *] at q2c2_0; have q2c2_1 := hb.cell (p := ⟨wr.heap.size, 1, none⟩) (by first | omega | (simp <;> omega)); simp [go_sem, *] at q2c2_1; have q2f2 := fun o => hb.frozen (p := ⟨wr.heap.size, o, none⟩) (by first | omega | (simp <;> omega)); simp [go_sem, *] at q2f2; have q2o : ∀ b o, b < w.heap.size → w2.cell? ⟨b, o, none⟩ = w.cell? ⟨b, o, none⟩ := fun b o h => q2B.cell (p := ⟨b, o, none⟩) h; have hbS := hb; have hbS2 := hb; clear hb) | (have q2B : Below w.heap.size w w2 := (by refine Below.trans ?_ (hb.mono (by first | omega | (simp <;> omega))); (repeat (first | (with_reducible first | exact Below.refl _ _ | assumption | refine Below.drew ?_ | refine below_drewN ?_ _) | ((with_reducible first | refine Below.alloc ?_ ?_ _ | refine Below.setCell ?_ ?_ _); rotate_left; (first | omega | (simp <;> omega)))))); have q2z := hb.size; (try simp at q2z); have q2t : w.heap.size ≤ w2.heap.size := (by omega); have q2s0 : w.heap.size < w2.heap.size := (by omega); have q2n0_0 : ¬ w2.heap.size = w.heap.size := (by omega); have q2n0_1 : ¬ w2.heap.size + 1 = w.heap.size := (by omega); have q2n0_2 : ¬ w2.heap.size + 2 = w.heap.size := (by omega); have q2c0_0 := hb.cell (p := ⟨w.heap.size, 0, none⟩) (by first | omega | (simp <;> omega)); simp [go_sem, *] at q2c0_0; have q2c0_1 := hb.cell (p := ⟨w.heap.size, 1, none⟩) (by first | omega | (simp <;> omega)); simp [go_sem, *] at q2c0_1; have q2f0 := fun o => hb.frozen (p := ⟨w.heap.size, o, none⟩) (by first | omega | (simp <;> omega)); simp [go_sem, *] at q2f0; have q2s1 : s < w2.heap.size := (by omega); have q2n1_0 : ¬ w2.heap.size = s := (by omega); have q2n1_1 : ¬ w2.heap.size + 1 = s := (by omega); have q2n1_2 : ¬ w2.heap.size + 2 = s := (by omega); have q2c1_0 := hb.cell (p := ⟨s, 0, none⟩) (by first | omega | (simp <;> omega)); simp [go_sem, *] at q2c1_0; have q2c1_1 := hb.cell (p := ⟨s, 1, none⟩) (by first | omega | (simp <;> omega)); simp [go_sem, *] at q2c1_1; have q2f1 := fun o => hb.frozen (p := ⟨s, o, none⟩) (by first | omega | (simp <;> omega)); simp [go_sem, *] at q2f1; have q2o : ∀ b o, b < w.heap.size → w2.cell? ⟨b, o, none⟩ = w.cell? ⟨b, o, none⟩ := fun b o h => q2B.cell (p := ⟨b, o, none⟩) h; have hbS := hb; have hbS2 := hb; clear hb)))
                refine hK.out _ _ ?_ (fun hHeld => ?_)
                · (repeat (first | (with_reducible exact SB.refl) | (with_reducible exact hHeld) | (with_reducible refine SB.drew ?_) | (with_reducible refine SB.drewN ?_ _) | ((with_reducible refine SB.alloc ?_ ?_ _); (rotate_left); (first | omega | (simp <;> omega))) | ((with_reducible refine SB.setCell ?_ ?_ _); (rotate_left); (focus (first | (simp; done) | (right; first | omega | (simp <;> omega))))) | ((with_reducible refine SB.below ?_ hbS ?_); (rotate_left); (first | omega | (simp <;> omega))) | ((with_reducible refine SB.below ?_ hbS1 ?_); (rotate_left); (first | omega | (simp <;> omega))) | ((with_reducible refine SB.below ?_ hbS2 ?_); (rotate_left); (first | omega | (simp <;> omega))) | ((with_reducible refine SB.below ?_ hbS3 ?_); (rotate_left); (first | omega | (simp <;> omega))) | ((with_reducible refine SB.below ?_ hbS4 ?_); (rotate_left); (first | omega | (simp <;> omega))) | (with_reducible refine SB.undrew ?_) | ((with_reducible refine SB.congr ?_ ?_); (rotate_left); (focus (simp; done))) | ((with_reducible refine SB.realloc ?_ ?_ ?_); (rotate_left); (focus (simp; done)); (focus (simp; done)))))
                clear hK K
                (try simp only [Act.put, putA, putB, putC])
                refine ord_take (i := 13) #[true, true, true, true, true, true, true, true, true, true, true, true, true, true, false, false, true, false, false] ?_ rfl (by kernel_rfl) (by kernel_rfl) (by kernel_rfl) (by kernel_rfl) (fun _ _ _ h => h) hHeld (by rfl) (fun wx hSx => ?_) ?_
                rotate_left
                · (unfold SB at hSx; go_simp; (try with_reducible rfl))
                (try simp only [Act.put, putA, putB, putC])
                refine ord_take (i := 14) #[true, true, true, true, true, true, true, true, true, true, true, true, true, true, true, false, true, false, false] ?_ rfl (by kernel_rfl) (by kernel_rfl) (by kernel_rfl) (by kernel_rfl) (fun _ _ _ h => h) hHeld (by rfl) (fun wx hSx => ?_) ?_
                rotate_left
                · (unfold SB at hSx; go_simp; (try with_reducible rfl))
                (try simp only [Act.put, putA, putB, putC])
                refine ord_take (i := 15) #[true, true, true, true, true, true, true, true, true, true, true, true, true, true, true, true, true, false, false] ?_ rfl (by kernel_rfl) (by kernel_rfl) (by kernel_rfl) (by kernel_rfl) (fun _ _ _ h => h) hHeld (by rfl) (fun wx hSx => ?_) ?_
                rotate_left
                · (unfold SB at hSx; go_simp; (try with_reducible rfl))
                (try simp only [Act.put, putA, putB, putC])
                refine wpAnyH_ready (rs := [17]) (by kernel_rfl) (by simp) ?_
                refine ord_run (i := 17) #[true, true, true, true, true, true, true, true, true, true, true, true, true, true, true, true, true, true, false] rfl (by kernel_rfl) (by rfl) (fun K hK => ?_) AllReadyH.nil
                go_simp
                refine hK.out _ _ ?_ (fun hHeld => ?_)
                · (repeat (first | (with_reducible exact SB.refl) | (with_reducible exact hHeld) | (with_reducible refine SB.drew ?_) | (with_reducible refine SB.drewN ?_ _) | ((with_reducible refine SB.alloc ?_ ?_ _); (rotate_left); (first | omega | (simp <;> omega))) | ((with_reducible refine SB.setCell ?_ ?_ _); (rotate_left); (focus (first | (simp; done) | (right; first | omega | (simp <;> omega))))) | ((with_reducible refine SB.below ?_ hbS ?_); (rotate_left); (first | omega | (simp <;> omega))) | ((with_reducible refine SB.below ?_ hbS1 ?_); (rotate_left); (first | omega | (simp <;> omega))) | ((with_reducible refine SB.below ?_ hbS2 ?_); (rotate_left); (first | omega | (simp <;> omega))) | ((with_reducible refine SB.below ?_ hbS3 ?_); (rotate_left); (first | omega | (simp <;> omega))) | ((with_reducible refine SB.below ?_ hbS4 ?_); (rotate_left); (first | omega | (simp <;> omega))) | (with_reducible refine SB.undrew ?_) | ((with_reducible refine SB.congr ?_ ?_); (rotate_left); (focus (simp; done))) | ((with_reducible refine SB.realloc ?_ ?_ ?_); (rotate_left); (focus (simp; done)); (focus (simp; done)))))
                clear hK K
                (try simp only [Act.put, putA, putB, putC])
                refine ord_take (i := 18) #[true, true, true, true, true, true, true, true, true, true, true, true, true, true, true, true, true, true, true] ?_ rfl (by kernel_rfl) (by kernel_rfl) (by kernel_rfl) (by kernel_rfl) (fun _ _ _ h => h) hHeld (by rfl) (fun wx hSx => ?_) ?_
                rotate_left
                · (unfold SB at hSx; go_simp; (try with_reducible rfl))
                (try simp only [Act.put, putA, putB, putC])
                refine wpAnyH_done (by kernel_rfl) ?_ _
                go_wp2_with fail; go_meet; exact ⟨_, rfl, ⟨(by simp [go_sem, *]), (by simp [go_sem, *])⟩, (by (repeat (first | (with_reducible first | exact Below.refl _ _ | assumption | refine Below.drew ?_ | refine below_drewN ?_ _) | ((with_reducible first | refine Below.alloc ?_ ?_ _ | refine Below.setCell ?_ ?_ _); rotate_left; (first | omega | (simp <;> omega)))))), hs1, (by first | omega | (simp <;> omega)), (by first | omega | (simp <;> omega)), ⟨(by simp [go_sem, *]), (by simp [go_sem, *]), (by simp [go_sem, *])⟩, ⟨(by simp [go_sem, *]), (by simp [go_sem, *]), (by simp [go_sem, *])⟩⟩
              exact AllReadyH.nil
            case rest =>
              obtain ⟨p, rfl, ⟨cp0, cp1⟩, hBy, _, hsy, hpy, ⟨cy0, cy1, cyf⟩, ⟨cz0, cz1, czf⟩⟩ := hcut
              have hzB := hBy.size
              have hnm0 : ¬ wc.heap.size = w.heap.size := by omega
              have hnm1 : ¬ wc.heap.size = s := by omega
              have hnm2 : ¬ wc.heap.size + 1 = w.heap.size := by omega
              have hnm3 : ¬ wc.heap.size + 1 = s := by omega
              go_wp2_with fail
              refine (radd_any _ _ hw3 hw2 _).mono ?_
              rintro e w1 ⟨rfl, hb⟩
              rw [HG.out]
              have q1B : Below w.heap.size w w1 := (by refine Below.trans ?_ (hb.mono (by first | omega | (simp <;> omega))); (repeat (first | (with_reducible first | exact Below.refl _ _ | assumption | refine Below.drew ?_ | refine below_drewN ?_ _) | ((with_reducible first | refine Below.alloc ?_ ?_ _ | refine Below.setCell ?_ ?_ _); rotate_left; (first | omega | (simp <;> omega))))))
              have q1z := hb.size
              try simp at q1z
              have q1t : w.heap.size ≤ w1.heap.size := (by omega)
              have q1s0 : w.heap.size < w1.heap.size := (by omega)
              have q1n0_0 : ¬ w1.heap.size = w.heap.size := (by omega)
              have q1n0_1 : ¬ w1.heap.size + 1 = w.heap.size := (by omega)
              have q1n0_2 : ¬ w1.heap.size + 2 = w.heap.size := (by omega)
              have q1c0_0 := hb.cell (p := ⟨w.heap.size, 0, none⟩) (by first | omega | (simp <;> omega))
              simp [go_sem, *] at q1c0_0
              have q1c0_1 := hb.cell (p := ⟨w.heap.size, 1, none⟩) (by first | omega | (simp <;> omega))
              simp [go_sem, *] at q1c0_1
              have q1f0 := fun o => hb.frozen (p := ⟨w.heap.size, o, none⟩) (by first | omega | (simp <;> omega))
              simp [go_sem, *] at q1f0
              have q1s1 : s < w1.heap.size := (by omega)
              have q1n1_0 : ¬ w1.heap.size = s := (by omega)
              have q1n1_1 : ¬ w1.heap.size + 1 = s := (by omega)
              have q1n1_2 : ¬ w1.heap.size + 2 = s := (by omega)
              have q1c1_0 := hb.cell (p := ⟨s, 0, none⟩) (by first | omega | (simp <;> omega))
              simp [go_sem, *] at q1c1_0
              have q1c1_1 := hb.cell (p := ⟨s, 1, none⟩) (by first | omega | (simp <;> omega))
              simp [go_sem, *] at q1c1_1
              have q1f1 := fun o => hb.frozen (p := ⟨s, o, none⟩) (by first | omega | (simp <;> omega))
              simp [go_sem, *] at q1f1
              have q1o : ∀ b o, b < w.heap.size → w1.cell? ⟨b, o, none⟩ = w.cell? ⟨b, o, none⟩ := fun b o h => q1B.cell (p := ⟨b, o, none⟩) h
              clear hb
              go_wp2_with fail
              go_roundg (k - (j + 1))
              case rel => exact ⟨j + 1, by omega, rfl, by go_num, by (repeat (first | (with_reducible first | exact Below.refl _ _ | assumption | refine Below.drew ?_ | refine below_drewN ?_ _) | ((with_reducible first | refine Below.alloc ?_ ?_ _ | refine Below.setCell ?_ ?_ _); rotate_left; (first | omega | (simp <;> omega))))), hs1, by first | omega | (simp <;> omega), ⟨by simp [go_sem, *], by simp [go_sem, *], by simp [go_sem, *]⟩, ⟨by simp [go_sem, gsum, *], by simp [go_sem, gsum, *], by simp [go_sem, *]⟩⟩
              case measure => have := HFU.out; omega
          · have hjk : j = k := by omega
            subst hjk
            have HD := hide (gr_0 (t := t) hn ⟨HA.out, HT.out⟩)
            go_wp2_with fail
            refine bodyPost_ret (by simp [results, Try.results30, go_sem, *] <;> rfl) rfl ⟨?_, ?_⟩
            · rw [HD.out.1, HD.out.2]
            (repeat (first | (with_reducible first | exact Below.refl _ _ | assumption | refine Below.drew ?_ | refine below_drewN ?_ _) | ((with_reducible first | refine Below.alloc ?_ ?_ _ | refine Below.setCell ?_ ?_ _); rotate_left; (first | omega | (simp <;> omega)))))
      · have HD := hide (gr_1 (f := f) (g := g) hn (fun h => ht h.2))
        have HI := hide ht
        clear ht
        go_wp2_with fail
        all_goals first
          | (exfalso; exact HI.out ⟨by omega, by omega⟩)
          | (refine bodyPost_ret (by simp [results, Try.results30, go_sem, *] <;> rfl) rfl ⟨?_, ?_⟩; (· rw [HD.out.1, HD.out.2]; rfl); (· (repeat (first | (with_reducible first | exact Below.refl _ _ | assumption | refine Below.drew ?_ | refine below_drewN ?_ _) | ((with_reducible first | refine Below.alloc ?_ ?_ _ | refine Below.setCell ?_ ?_ _); rotate_left; (first | omega | (simp <;> omega)))))))
end Go.Proofs.Ytfolccncegejjaa
