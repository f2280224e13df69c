/- Texts laid together: AcZ. -/
import Derived.Test.YtfolccncegejjaaQAcX
import Derived.Test.YtfolccncegejjaaQAcS
import Derived.Test.YtfolccncegejjaaQAcU
namespace Go.Proofs.Ytfolccncegejjaa
set_option maxRecDepth 4000
set_option linter.unusedSimpArgs false
set_option linter.unusedVariables false
open Go.RowKit
theorem lv_hi1 : hiW 6588000000000 = 0 := by decide +kernel
theorem lv_lo1 : loW 6588000000000 = 6588000000000 := by decide +kernel
theorem lv_hi2 : hiW 13176000000000 = 0 := by decide +kernel
theorem lv_lo2 : loW 13176000000000 = 13176000000000 := by decide +kernel
theorem lv_hi0 : hiW 0 = 0 := by decide +kernel
theorem lv_lo0 : loW 0 = 0 := by decide +kernel
theorem lv_of1 (w : World) : Calls Try.prog 20 #[.int .i64 6588000000000] w fun e w' => e = .returned (.agg #[.int .i64 0, .int .u64 6588000000000]) ∧ Below w.heap.size w w' := by
  have h := rof_any 6588000000000 (by decide) (by decide) w
  rw [lv_hi1, lv_lo1] at h
  exact h
theorem lv_of2 (w : World) : Calls Try.prog 20 #[.int .i64 13176000000000] w fun e w' => e = .returned (.agg #[.int .i64 0, .int .u64 13176000000000]) ∧ Below w.heap.size w w' := by
  have h := rof_any 13176000000000 (by decide) (by decide) w
  rw [lv_hi2, lv_lo2] at h
  exact h
def LvS (w : World) (e : Ending) (w' : World) : Prop := ∃ A c, e = .returned (.tuple #[.slice A 5 c, .int .i64 0]) ∧ RowAcr w' A 5 (atR smL) ∧ Below w.heap.size w w'
theorem lv_ser {C : Array Value} {tb pb ab jb b1 b2 : Nat} {s : ByteArray} (hB : BkOK (smB C tb pb ab jb b1 b2 s)) (w : World) (hw : BkIn w (smB C tb pb ab jb b1 b2 s)) : Calls Try.prog 13 #[.agg C, .int .i64 1000, .int .i64 0, .int .i64 4] w (LvS w) := by
  have h := series_any _ hB 1000 0 4 w hw
  unfold SerRet at h
  rw [sm_ser, sm_serE] at h
  exact h
theorem lv_day3 {C : Array Value} {tb pb ab jb b1 b2 : Nat} {s : ByteArray} (hB : BkOK (smB C tb pb ab jb b1 b2 s)) (w : World) (hw : BkIn w (smB C tb pb ab jb b1 b2 s)) : Calls Try.prog 11 #[.agg C, .int .i64 1000, .int .i64 3] w fun e w' => e = .returned (.tuple #[.agg #[.int .i64 1000, .int .i64 3, .int .i64 100000, .int .i64 0, .int .u64 6588000000000, .int .i64 0, .int .u64 0], .int .i64 0]) ∧ Below w.heap.size w w' := by
  have h := day_any _ hB 1000 3 w hw
  unfold DayRet at h
  rw [(sm_day3 C tb pb ab jb b1 b2 s).1, (sm_day3 C tb pb ab jb b1 b2 s).2] at h
  unfold AcrV at h
  simp only [lv_hi1, lv_lo1, lv_hi0, lv_lo0] at h
  exact h
theorem lv_day1 {C : Array Value} {tb pb ab jb b1 b2 : Nat} {s : ByteArray} (hB : BkOK (smB C tb pb ab jb b1 b2 s)) (w : World) (hw : BkIn w (smB C tb pb ab jb b1 b2 s)) : Calls Try.prog 11 #[.agg C, .int .i64 1001, .int .i64 3] w fun e w' => e = .returned (.tuple #[.agg #[.int .i64 0, .int .i64 0, .int .i64 0, .int .i64 0, .int .u64 0, .int .i64 0, .int .u64 0], .int .i64 11]) ∧ Below w.heap.size w w' := by
  have h := day_any _ hB 1001 3 w hw
  unfold DayRet at h
  rw [(sm_day1 C tb pb ab jb b1 b2 s).1, (sm_day1 C tb pb ab jb b1 b2 s).2] at h
  exact h
theorem lv_tot (A : Option Addr) (c : Nat) (w : World) (hr : RowAcr w A 5 (atR smL)) : Calls Try.prog 16 #[.slice A 5 c] w fun e w' => e = .returned (.tuple #[.agg #[.int .i64 0, .int .u64 13176000000000], .agg #[.int .i64 0, .int .u64 6588000000000], .int .i64 0]) ∧ Below w.heap.size w w' := by
  have h := tot_any A 5 c (atR smL) (by decide) (fun k hk => by
    have : k = 0 ∨ k = 1 ∨ k = 2 ∨ k = 3 ∨ k = 4 := by omega
    rcases this with rfl | rfl | rfl | rfl | rfl <;> exact ⟨by unfold WIn; decide +kernel, by unfold WIn; decide +kernel⟩) w hr
  rw [sm_tot] at h
  unfold TotRet at h
  simp only [lv_hi1, lv_lo1, lv_hi2, lv_lo2] at h
  exact h
theorem lv_at4 : ∀ {w : World} {A : Option Addr}, RowAcr w A 5 (atR smL) → ∃ b off, A = some ⟨b, off, none⟩ ∧ b < w.heap.size ∧
    (w.cell? ⟨b, off + 28, none⟩ = some (.int .i64 1000) ∧ w.cell? ⟨b, off + 29, none⟩ = some (.int .i64 4) ∧ w.cell? ⟨b, off + 30, none⟩ = some (.int .i64 (-100000)) ∧ w.cell? ⟨b, off + 31, none⟩ = some (.int .i64 0) ∧
    w.cell? ⟨b, off + 32, none⟩ = some (.int .u64 0) ∧ w.cell? ⟨b, off + 33, none⟩ = some (.int .i64 0) ∧ w.cell? ⟨b, off + 34, none⟩ = some (.int .u64 6588000000000)) ∧
    (w.cell? ⟨b, off, none⟩ = some (.int .i64 1000) ∧ w.cell? ⟨b, off + 1, none⟩ = some (.int .i64 0) ∧ w.cell? ⟨b, off + 2, none⟩ = some (.int .i64 0) ∧ w.cell? ⟨b, off + 3, none⟩ = some (.int .i64 0) ∧
    w.cell? ⟨b, off + 4, none⟩ = some (.int .u64 0) ∧ w.cell? ⟨b, off + 5, none⟩ = some (.int .i64 0) ∧ w.cell? ⟨b, off + 6, none⟩ = some (.int .u64 0)) := by
  intro w A h
  obtain ⟨b, off, rfl, hb, h4⟩ := RowAcr.at h (show 4 < 5 by decide)
  obtain ⟨b', off', he, _, h0⟩ := RowAcr.at h (show 0 < 5 by decide)
  injection he with he
  injection he with e1 e2 _
  subst e1
  subst e2
  refine ⟨b, off, rfl, hb, ?_, ?_⟩
  · have e : atR smL 4 = ⟨1000, 4, -100000, 0, 6588000000000⟩ := rfl
    rw [e] at h4
    simpa only [lv_hi1, lv_lo1, lv_hi0, lv_lo0] using h4
  · have e : atR smL 0 = ⟨1000, 0, 0, 0, 0⟩ := rfl
    rw [e] at h0
    simpa only [lv_hi1, lv_lo1, lv_hi0, lv_lo0, Nat.zero_mul, Nat.add_zero] using h0
theorem gen_w {P : Program} {Q : Exit → Act → World → Prop} {a : Act} {c : Code} (S : World → Prop) {w : World} (hs : S w) (h : ∀ w, S w → c.wp P Q a w) : c.wp P Q a w := h w hs
/-- What the last region of lives finds. -/
def LvIn (a d p : Nat) (b off : Nat) (w W : World) : Prop :=
  Below w.heap.size w W ∧ w.heap.size ≤ a ∧ a < d ∧ d < p ∧ p + 1 < W.heap.size ∧ b < W.heap.size ∧
    (W.cell? ⟨a, 0, none⟩ = some (.int .i64 0) ∧ W.cell? ⟨a, 1, none⟩ = some (.int .u64 6588000000000)) ∧
    (W.cell? ⟨d, 0, none⟩ = some (.int .i64 1000) ∧ W.cell? ⟨d, 1, none⟩ = some (.int .i64 3) ∧ W.cell? ⟨d, 2, none⟩ = some (.int .i64 100000) ∧ W.cell? ⟨d, 3, none⟩ = some (.int .i64 0) ∧ W.cell? ⟨d, 4, none⟩ = some (.int .u64 6588000000000) ∧ W.cell? ⟨d, 5, none⟩ = some (.int .i64 0) ∧ W.cell? ⟨d, 6, none⟩ = some (.int .u64 0)) ∧
    (W.cell? ⟨p, 0, none⟩ = some (.int .i64 0) ∧ W.cell? ⟨p, 1, none⟩ = some (.int .u64 13176000000000)) ∧
    (W.cell? ⟨p + 1, 0, none⟩ = some (.int .i64 0) ∧ W.cell? ⟨p + 1, 1, none⟩ = some (.int .u64 6588000000000)) ∧
    (∀ o, W.frozen? ⟨a, o, none⟩ = false) ∧ (∀ o, W.frozen? ⟨p + 1, o, none⟩ = false) ∧
    (W.cell? ⟨b, off + 28, none⟩ = some (.int .i64 1000) ∧ W.cell? ⟨b, off + 29, none⟩ = some (.int .i64 4) ∧ W.cell? ⟨b, off + 30, none⟩ = some (.int .i64 (-100000)) ∧ W.cell? ⟨b, off + 31, none⟩ = some (.int .i64 0) ∧
    W.cell? ⟨b, off + 32, none⟩ = some (.int .u64 0) ∧ W.cell? ⟨b, off + 33, none⟩ = some (.int .i64 0) ∧ W.cell? ⟨b, off + 34, none⟩ = some (.int .u64 6588000000000)) ∧
    (W.cell? ⟨b, off, none⟩ = some (.int .i64 1000) ∧ W.cell? ⟨b, off + 1, none⟩ = some (.int .i64 0) ∧ W.cell? ⟨b, off + 2, none⟩ = some (.int .i64 0) ∧ W.cell? ⟨b, off + 3, none⟩ = some (.int .i64 0) ∧
    W.cell? ⟨b, off + 4, none⟩ = some (.int .u64 0) ∧ W.cell? ⟨b, off + 5, none⟩ = some (.int .i64 0) ∧ W.cell? ⟨b, off + 6, none⟩ = some (.int .u64 0))
set_option maxRecDepth 8000 in
set_option maxHeartbeats 8000000 in
theorem lives_any (w : World) : Calls Try.prog 10 #[] w fun e w' => e = .returned (.bool true) ∧ Below w.heap.size w w' := by
  go_enter Try.func10, Try.ntmps10
  go_wp2_with fail
  refine (lv_of1 _).mono ?_
  rintro e w1 ⟨rfl, hb⟩
  have q1B : Below w.heap.size w w1 := (by refine Below.trans ?_ (hb.mono (by first | omega | (simp <;> omega))); (repeat (first | (with_reducible first | exact Below.refl _ _ | assumption | refine Below.drew ?_ | refine below_drewN ?_ _) | ((with_reducible first | refine Below.alloc ?_ ?_ _ | refine Below.setCell ?_ ?_ _); rotate_left; (first | omega | (simp <;> omega))))))
  have q1z := hb.size
  try simp at q1z
  have q1t : w.heap.size ≤ w1.heap.size := (by omega)
  have q1o : ∀ b o, b < w.heap.size → w1.cell? ⟨b, o, none⟩ = w.cell? ⟨b, o, none⟩ := fun b o h => q1B.cell (p := ⟨b, o, none⟩) h
  clear hb
  go_wp2_with fail
  refine (sample_any _).mono ?_
  rintro e w2 ⟨C, tb, pb, ab, jb, b1, b2, s, rfl, hok, hin, hb⟩
  have HO := hide (And.intro hok hin)
  clear hok hin
  have q2B : Below w.heap.size w w2 := (by refine Below.trans ?_ (hb.mono (by first | omega | (simp <;> omega))); (repeat (first | (with_reducible first | exact Below.refl _ _ | assumption | refine Below.drew ?_ | refine below_drewN ?_ _) | ((with_reducible first | refine Below.alloc ?_ ?_ _ | refine Below.setCell ?_ ?_ _); rotate_left; (first | omega | (simp <;> omega))))))
  have q2z := hb.size
  try simp at q2z
  have q2t : w.heap.size ≤ w2.heap.size := (by omega)
  have q2s0 : w1.heap.size < w2.heap.size := (by omega)
  have q2n0_0 : ¬ w2.heap.size = w1.heap.size := (by omega)
  have q2n0_1 : ¬ w2.heap.size + 1 = w1.heap.size := (by omega)
  have q2n0_2 : ¬ w2.heap.size + 2 = w1.heap.size := (by omega)
  have q2c0_0 := hb.cell (p := ⟨w1.heap.size, 0, none⟩) (by first | omega | (simp <;> omega))
  simp [go_sem, *] at q2c0_0
  have q2c0_1 := hb.cell (p := ⟨w1.heap.size, 1, none⟩) (by first | omega | (simp <;> omega))
  simp [go_sem, *] at q2c0_1
  have q2f0 := fun o => hb.frozen (p := ⟨w1.heap.size, o, none⟩) (by first | omega | (simp <;> omega))
  simp [go_sem, *] at q2f0
  have q2o : ∀ b o, b < w.heap.size → w2.cell? ⟨b, o, none⟩ = w.cell? ⟨b, o, none⟩ := fun b o h => q2B.cell (p := ⟨b, o, none⟩) h
  clear hb q1o q1z q1B
  go_wp2_with fail
  refine (lv_ser HO.out.1 _ HO.out.2).mono ?_
  rintro e w3 ⟨A, c, rfl, hA, hb⟩
  have HA := hide hA
  clear hA HO
  have q3B : Below w.heap.size w w3 := (by refine Below.trans ?_ (hb.mono (by first | omega | (simp <;> omega))); (repeat (first | (with_reducible first | exact Below.refl _ _ | assumption | refine Below.drew ?_ | refine below_drewN ?_ _) | ((with_reducible first | refine Below.alloc ?_ ?_ _ | refine Below.setCell ?_ ?_ _); rotate_left; (first | omega | (simp <;> omega))))))
  have q3z := hb.size
  try simp at q3z
  have q3t : w.heap.size ≤ w3.heap.size := (by omega)
  have q3s0 : w1.heap.size < w3.heap.size := (by omega)
  have q3n0_0 : ¬ w3.heap.size = w1.heap.size := (by omega)
  have q3n0_1 : ¬ w3.heap.size + 1 = w1.heap.size := (by omega)
  have q3n0_2 : ¬ w3.heap.size + 2 = w1.heap.size := (by omega)
  have q3c0_0 := hb.cell (p := ⟨w1.heap.size, 0, none⟩) (by first | omega | (simp <;> omega))
  simp [go_sem, *] at q3c0_0
  have q3c0_1 := hb.cell (p := ⟨w1.heap.size, 1, none⟩) (by first | omega | (simp <;> omega))
  simp [go_sem, *] at q3c0_1
  have q3f0 := fun o => hb.frozen (p := ⟨w1.heap.size, o, none⟩) (by first | omega | (simp <;> omega))
  simp [go_sem, *] at q3f0
  have q3o : ∀ b o, b < w.heap.size → w3.cell? ⟨b, o, none⟩ = w.cell? ⟨b, o, none⟩ := fun b o h => q3B.cell (p := ⟨b, o, none⟩) h
  clear hb q2o q2f0 q2c0_1 q2c0_0 q2s0 q2z q2B
  have B3 := hide q3B
  go_wp2_with fail
  refine (sample_any _).mono ?_
  rintro e w4 ⟨C, tb, pb, ab, jb, b1, b2, s, rfl, hok, hin, hb⟩
  have HO := hide (And.intro hok hin)
  clear hok hin
  have hb3 := hb
  have q4B : Below w.heap.size w w4 := (by refine Below.trans ?_ (hb.mono (by first | omega | (simp <;> omega))); (repeat (first | (with_reducible first | exact Below.refl _ _ | assumption | refine Below.drew ?_ | refine below_drewN ?_ _) | ((with_reducible first | refine Below.alloc ?_ ?_ _ | refine Below.setCell ?_ ?_ _); rotate_left; (first | omega | (simp <;> omega))))))
  have q4z := hb.size
  try simp at q4z
  have q4t : w.heap.size ≤ w4.heap.size := (by omega)
  have q4s0 : w1.heap.size < w4.heap.size := (by omega)
  have q4n0_0 : ¬ w4.heap.size = w1.heap.size := (by omega)
  have q4n0_1 : ¬ w4.heap.size + 1 = w1.heap.size := (by omega)
  have q4n0_2 : ¬ w4.heap.size + 2 = w1.heap.size := (by omega)
  have q4c0_0 := hb.cell (p := ⟨w1.heap.size, 0, none⟩) (by first | omega | (simp <;> omega))
  simp [go_sem, *] at q4c0_0
  have q4c0_1 := hb.cell (p := ⟨w1.heap.size, 1, none⟩) (by first | omega | (simp <;> omega))
  simp [go_sem, *] at q4c0_1
  have q4f0 := fun o => hb.frozen (p := ⟨w1.heap.size, o, none⟩) (by first | omega | (simp <;> omega))
  simp [go_sem, *] at q4f0
  have q4o : ∀ b o, b < w.heap.size → w4.cell? ⟨b, o, none⟩ = w.cell? ⟨b, o, none⟩ := fun b o h => q4B.cell (p := ⟨b, o, none⟩) h
  clear hb q3o q3f0 q3c0_1 q3c0_0 q3s0 q3z q3B
  go_wp2_with fail
  refine (lv_day3 HO.out.1 _ HO.out.2).mono ?_
  rintro e w5 ⟨rfl, hb⟩
  have B5 := hide (hb3.trans (hb.mono hb3.size))
  clear HO hb3
  have q5B : Below w.heap.size w w5 := (by refine Below.trans ?_ (hb.mono (by first | omega | (simp <;> omega))); (repeat (first | (with_reducible first | exact Below.refl _ _ | assumption | refine Below.drew ?_ | refine below_drewN ?_ _) | ((with_reducible first | refine Below.alloc ?_ ?_ _ | refine Below.setCell ?_ ?_ _); rotate_left; (first | omega | (simp <;> omega))))))
  have q5z := hb.size
  try simp at q5z
  have q5t : w.heap.size ≤ w5.heap.size := (by omega)
  have q5s0 : w1.heap.size < w5.heap.size := (by omega)
  have q5n0_0 : ¬ w5.heap.size = w1.heap.size := (by omega)
  have q5n0_1 : ¬ w5.heap.size + 1 = w1.heap.size := (by omega)
  have q5n0_2 : ¬ w5.heap.size + 2 = w1.heap.size := (by omega)
  have q5c0_0 := hb.cell (p := ⟨w1.heap.size, 0, none⟩) (by first | omega | (simp <;> omega))
  simp [go_sem, *] at q5c0_0
  have q5c0_1 := hb.cell (p := ⟨w1.heap.size, 1, none⟩) (by first | omega | (simp <;> omega))
  simp [go_sem, *] at q5c0_1
  have q5f0 := fun o => hb.frozen (p := ⟨w1.heap.size, o, none⟩) (by first | omega | (simp <;> omega))
  simp [go_sem, *] at q5f0
  have q5o : ∀ b o, b < w.heap.size → w5.cell? ⟨b, o, none⟩ = w.cell? ⟨b, o, none⟩ := fun b o h => q5B.cell (p := ⟨b, o, none⟩) h
  clear hb q4o q4f0 q4c0_1 q4c0_0 q4s0 q4z q4B
  have HT := hide (show w1.heap.size < w5.heap.size by omega)
  go_wp2_with fail
  refine (sample_any _).mono ?_
  rintro e w6 ⟨C, tb, pb, ab, jb, b1, b2, s, rfl, hok, hin, hb⟩
  have HO := hide (And.intro hok hin)
  clear hok hin
  have z3 := B5.out.size
  have B6 := hide (B5.out.trans (show Below w3.heap.size w5 w6 from Below.trans (by (repeat (first | (with_reducible first | exact Below.refl _ _ | assumption | refine Below.drew ?_ | refine below_drewN ?_ _) | ((with_reducible first | refine Below.alloc ?_ ?_ _ | refine Below.setCell ?_ ?_ _); rotate_left; (first | omega | (simp <;> omega)))))) (hb.mono (by simp; omega))))
  have q6B : Below w.heap.size w w6 := (by refine Below.trans ?_ (hb.mono (by first | omega | (simp <;> omega))); (repeat (first | (with_reducible first | exact Below.refl _ _ | assumption | refine Below.drew ?_ | refine below_drewN ?_ _) | ((with_reducible first | refine Below.alloc ?_ ?_ _ | refine Below.setCell ?_ ?_ _); rotate_left; (first | omega | (simp <;> omega))))))
  have q6z := hb.size
  try simp at q6z
  have q6t : w.heap.size ≤ w6.heap.size := (by omega)
  have q6s0 : w1.heap.size < w6.heap.size := (by omega)
  have q6n0_0 : ¬ w6.heap.size = w1.heap.size := (by omega)
  have q6n0_1 : ¬ w6.heap.size + 1 = w1.heap.size := (by omega)
  have q6n0_2 : ¬ w6.heap.size + 2 = w1.heap.size := (by omega)
  have q6c0_0 := hb.cell (p := ⟨w1.heap.size, 0, none⟩) (by first | omega | (simp <;> omega))
  simp [go_sem, *] at q6c0_0
  have q6c0_1 := hb.cell (p := ⟨w1.heap.size, 1, none⟩) (by first | omega | (simp <;> omega))
  simp [go_sem, *] at q6c0_1
  have q6f0 := fun o => hb.frozen (p := ⟨w1.heap.size, o, none⟩) (by first | omega | (simp <;> omega))
  simp [go_sem, *] at q6f0
  have q6s1 : w5.heap.size < w6.heap.size := (by omega)
  have q6n1_0 : ¬ w6.heap.size = w5.heap.size := (by omega)
  have q6n1_1 : ¬ w6.heap.size + 1 = w5.heap.size := (by omega)
  have q6n1_2 : ¬ w6.heap.size + 2 = w5.heap.size := (by omega)
  have q6c1_0 := hb.cell (p := ⟨w5.heap.size, 0, none⟩) (by first | omega | (simp <;> omega))
  simp [go_sem, *] at q6c1_0
  have q6c1_1 := hb.cell (p := ⟨w5.heap.size, 1, none⟩) (by first | omega | (simp <;> omega))
  simp [go_sem, *] at q6c1_1
  have q6c1_2 := hb.cell (p := ⟨w5.heap.size, 2, none⟩) (by first | omega | (simp <;> omega))
  simp [go_sem, *] at q6c1_2
  have q6c1_3 := hb.cell (p := ⟨w5.heap.size, 3, none⟩) (by first | omega | (simp <;> omega))
  simp [go_sem, *] at q6c1_3
  have q6c1_4 := hb.cell (p := ⟨w5.heap.size, 4, none⟩) (by first | omega | (simp <;> omega))
  simp [go_sem, *] at q6c1_4
  have q6c1_5 := hb.cell (p := ⟨w5.heap.size, 5, none⟩) (by first | omega | (simp <;> omega))
  simp [go_sem, *] at q6c1_5
  have q6c1_6 := hb.cell (p := ⟨w5.heap.size, 6, none⟩) (by first | omega | (simp <;> omega))
  simp [go_sem, *] at q6c1_6
  have q6f1 := fun o => hb.frozen (p := ⟨w5.heap.size, o, none⟩) (by first | omega | (simp <;> omega))
  simp [go_sem, *] at q6f1
  have q6o : ∀ b o, b < w.heap.size → w6.cell? ⟨b, o, none⟩ = w.cell? ⟨b, o, none⟩ := fun b o h => q6B.cell (p := ⟨b, o, none⟩) h
  clear hb q5o q5f0 q5c0_1 q5c0_0 q5s0 q5z q5B
  go_wp2_with fail
  refine (lv_day1 HO.out.1 _ HO.out.2).mono ?_
  rintro e w7 ⟨rfl, hb⟩
  have B7 := hide (B6.out.trans (hb.mono B6.out.size))
  clear HO
  have q7B : Below w.heap.size w w7 := (by refine Below.trans ?_ (hb.mono (by first | omega | (simp <;> omega))); (repeat (first | (with_reducible first | exact Below.refl _ _ | assumption | refine Below.drew ?_ | refine below_drewN ?_ _) | ((with_reducible first | refine Below.alloc ?_ ?_ _ | refine Below.setCell ?_ ?_ _); rotate_left; (first | omega | (simp <;> omega))))))
  have q7z := hb.size
  try simp at q7z
  have q7t : w.heap.size ≤ w7.heap.size := (by omega)
  have q7s0 : w1.heap.size < w7.heap.size := (by omega)
  have q7n0_0 : ¬ w7.heap.size = w1.heap.size := (by omega)
  have q7n0_1 : ¬ w7.heap.size + 1 = w1.heap.size := (by omega)
  have q7n0_2 : ¬ w7.heap.size + 2 = w1.heap.size := (by omega)
  have q7c0_0 := hb.cell (p := ⟨w1.heap.size, 0, none⟩) (by first | omega | (simp <;> omega))
  simp [go_sem, *] at q7c0_0
  have q7c0_1 := hb.cell (p := ⟨w1.heap.size, 1, none⟩) (by first | omega | (simp <;> omega))
  simp [go_sem, *] at q7c0_1
  have q7f0 := fun o => hb.frozen (p := ⟨w1.heap.size, o, none⟩) (by first | omega | (simp <;> omega))
  simp [go_sem, *] at q7f0
  have q7s1 : w5.heap.size < w7.heap.size := (by omega)
  have q7n1_0 : ¬ w7.heap.size = w5.heap.size := (by omega)
  have q7n1_1 : ¬ w7.heap.size + 1 = w5.heap.size := (by omega)
  have q7n1_2 : ¬ w7.heap.size + 2 = w5.heap.size := (by omega)
  have q7c1_0 := hb.cell (p := ⟨w5.heap.size, 0, none⟩) (by first | omega | (simp <;> omega))
  simp [go_sem, *] at q7c1_0
  have q7c1_1 := hb.cell (p := ⟨w5.heap.size, 1, none⟩) (by first | omega | (simp <;> omega))
  simp [go_sem, *] at q7c1_1
  have q7c1_2 := hb.cell (p := ⟨w5.heap.size, 2, none⟩) (by first | omega | (simp <;> omega))
  simp [go_sem, *] at q7c1_2
  have q7c1_3 := hb.cell (p := ⟨w5.heap.size, 3, none⟩) (by first | omega | (simp <;> omega))
  simp [go_sem, *] at q7c1_3
  have q7c1_4 := hb.cell (p := ⟨w5.heap.size, 4, none⟩) (by first | omega | (simp <;> omega))
  simp [go_sem, *] at q7c1_4
  have q7c1_5 := hb.cell (p := ⟨w5.heap.size, 5, none⟩) (by first | omega | (simp <;> omega))
  simp [go_sem, *] at q7c1_5
  have q7c1_6 := hb.cell (p := ⟨w5.heap.size, 6, none⟩) (by first | omega | (simp <;> omega))
  simp [go_sem, *] at q7c1_6
  have q7f1 := fun o => hb.frozen (p := ⟨w5.heap.size, o, none⟩) (by first | omega | (simp <;> omega))
  simp [go_sem, *] at q7f1
  have q7o : ∀ b o, b < w.heap.size → w7.cell? ⟨b, o, none⟩ = w.cell? ⟨b, o, none⟩ := fun b o h => q7B.cell (p := ⟨b, o, none⟩) h
  clear hb q6o q6f1 q6c1_6 q6c1_5 q6c1_4 q6c1_3 q6c1_2 q6c1_1 q6c1_0 q6s1 q6f0 q6c0_1 q6c0_0 q6s0 q6z q6B
  go_wp2_with fail
  refine (lv_tot A c _ (HA.out.below (B7.out.trans (by (repeat (first | (with_reducible first | exact Below.refl _ _ | assumption | refine Below.drew ?_ | refine below_drewN ?_ _) | ((with_reducible first | refine Below.alloc ?_ ?_ _ | refine Below.setCell ?_ ?_ _); rotate_left; (first | omega | (simp <;> omega))))))))).mono ?_
  rintro e w8 ⟨rfl, hb⟩
  have HR := hide (HA.out.below (B7.out.trans (Below.trans (by (repeat (first | (with_reducible first | exact Below.refl _ _ | assumption | refine Below.drew ?_ | refine below_drewN ?_ _) | ((with_reducible first | refine Below.alloc ?_ ?_ _ | refine Below.setCell ?_ ?_ _); rotate_left; (first | omega | (simp <;> omega)))))) (hb.mono (by simp; omega)))))
  have q8B : Below w.heap.size w w8 := (by refine Below.trans ?_ (hb.mono (by first | omega | (simp <;> omega))); (repeat (first | (with_reducible first | exact Below.refl _ _ | assumption | refine Below.drew ?_ | refine below_drewN ?_ _) | ((with_reducible first | refine Below.alloc ?_ ?_ _ | refine Below.setCell ?_ ?_ _); rotate_left; (first | omega | (simp <;> omega))))))
  have q8z := hb.size
  try simp at q8z
  have q8t : w.heap.size ≤ w8.heap.size := (by omega)
  have q8s0 : w1.heap.size < w8.heap.size := (by omega)
  have q8n0_0 : ¬ w8.heap.size = w1.heap.size := (by omega)
  have q8n0_1 : ¬ w8.heap.size + 1 = w1.heap.size := (by omega)
  have q8n0_2 : ¬ w8.heap.size + 2 = w1.heap.size := (by omega)
  have q8c0_0 := hb.cell (p := ⟨w1.heap.size, 0, none⟩) (by first | omega | (simp <;> omega))
  simp [go_sem, *] at q8c0_0
  have q8c0_1 := hb.cell (p := ⟨w1.heap.size, 1, none⟩) (by first | omega | (simp <;> omega))
  simp [go_sem, *] at q8c0_1
  have q8f0 := fun o => hb.frozen (p := ⟨w1.heap.size, o, none⟩) (by first | omega | (simp <;> omega))
  simp [go_sem, *] at q8f0
  have q8s1 : w5.heap.size < w8.heap.size := (by omega)
  have q8n1_0 : ¬ w8.heap.size = w5.heap.size := (by omega)
  have q8n1_1 : ¬ w8.heap.size + 1 = w5.heap.size := (by omega)
  have q8n1_2 : ¬ w8.heap.size + 2 = w5.heap.size := (by omega)
  have q8c1_0 := hb.cell (p := ⟨w5.heap.size, 0, none⟩) (by first | omega | (simp <;> omega))
  simp [go_sem, *] at q8c1_0
  have q8c1_1 := hb.cell (p := ⟨w5.heap.size, 1, none⟩) (by first | omega | (simp <;> omega))
  simp [go_sem, *] at q8c1_1
  have q8c1_2 := hb.cell (p := ⟨w5.heap.size, 2, none⟩) (by first | omega | (simp <;> omega))
  simp [go_sem, *] at q8c1_2
  have q8c1_3 := hb.cell (p := ⟨w5.heap.size, 3, none⟩) (by first | omega | (simp <;> omega))
  simp [go_sem, *] at q8c1_3
  have q8c1_4 := hb.cell (p := ⟨w5.heap.size, 4, none⟩) (by first | omega | (simp <;> omega))
  simp [go_sem, *] at q8c1_4
  have q8c1_5 := hb.cell (p := ⟨w5.heap.size, 5, none⟩) (by first | omega | (simp <;> omega))
  simp [go_sem, *] at q8c1_5
  have q8c1_6 := hb.cell (p := ⟨w5.heap.size, 6, none⟩) (by first | omega | (simp <;> omega))
  simp [go_sem, *] at q8c1_6
  have q8f1 := fun o => hb.frozen (p := ⟨w5.heap.size, o, none⟩) (by first | omega | (simp <;> omega))
  simp [go_sem, *] at q8f1
  have q8o : ∀ b o, b < w.heap.size → w8.cell? ⟨b, o, none⟩ = w.cell? ⟨b, o, none⟩ := fun b o h => q8B.cell (p := ⟨b, o, none⟩) h
  clear hb q7o q7f1 q7c1_6 q7c1_5 q7c1_4 q7c1_3 q7c1_2 q7c1_1 q7c1_0 q7s1 q7f0 q7c0_1 q7c0_0 q7s0 q7z q7B
  obtain ⟨b, off, rfl, hbl, r4, r0⟩ := lv_at4 HR.out
  clear HA HR B3 B5 B6 B7
  obtain ⟨r40, r41, r42, r43, r44, r45, r46⟩ := r4
  obtain ⟨r00, r01, r02, r03, r04, r05, r06⟩ := r0
  go_upto_region 8 with fail
  refine gen_w (LvIn w1.heap.size w5.heap.size w8.heap.size b off w) ⟨by (repeat (first | (with_reducible first | exact Below.refl _ _ | assumption | refine Below.drew ?_ | refine below_drewN ?_ _) | ((with_reducible first | refine Below.alloc ?_ ?_ _ | refine Below.setCell ?_ ?_ _); rotate_left; (first | omega | (simp <;> omega))))), by omega, HT.out, by omega, by simp, by simp; omega, ⟨by simp [go_sem, *], by simp [go_sem, *]⟩, ⟨by simp [go_sem, *], by simp [go_sem, *], by simp [go_sem, *], by simp [go_sem, *], by simp [go_sem, *], by simp [go_sem, *], by simp [go_sem, *]⟩, ⟨by simp [go_sem, *], by simp [go_sem, *]⟩, ⟨by simp [go_sem, *], by simp [go_sem, *]⟩, by simp [go_sem, *], by simp [go_sem, *], ⟨by simp [go_sem, *], by simp [go_sem, *], by simp [go_sem, *], by simp [go_sem, *], by simp [go_sem, *], by simp [go_sem, *], by simp [go_sem, *]⟩, ⟨by simp [go_sem, *], by simp [go_sem, *], by simp [go_sem, *], by simp [go_sem, *], by simp [go_sem, *], by simp [go_sem, *], by simp [go_sem, *]⟩⟩ ?_
  clear q8B q8z q8t q8s0 q8n0_0 q8n0_1 q8n0_2 q8c0_0 q8c0_1 q8f0 q8s1 q8n1_0 q8n1_1 q8n1_2 q8c1_0 q8c1_1 q8c1_2 q8c1_3 q8c1_4 q8c1_5 q8c1_6 q8f1 q8o z3 hbl r40 r41 r42 r43 r44 r45 r46 r00 r01 r02 r03 r04 r05 r06
  generalize w1.heap.size = a at *
  generalize w5.heap.size = d at *
  generalize w8.heap.size = p at *
  rintro W ⟨hW, ha0, had, hdp, hp, hbW, ⟨a0, a1⟩, ⟨d0, d1, d2, d3, d4, d5, d6⟩, ⟨p0, p1⟩, ⟨p2, p3⟩, fa, fp, ⟨r40, r41, r42, r43, r44, r45, r46⟩, ⟨r00, r01, r02, r03, r04, r05, r06⟩⟩
  have hWz := hW.size
  have ha1 : a < W.heap.size := by omega
  have hd1 : d < W.heap.size := by omega
  have hp1 : p < W.heap.size := by omega
  refine ord_start (SB (W.heap.size) [] _) 42 #[false, false, false, false, false, false, false, false, false, false, false, false, false, false, false, false, false, false, false, false, false, false, false, false, false, false, false, false, false, false, false, false, false, false, false, false, false, false, false, false, false, false] (by kernel_rfl) (by kernel_rfl) (by kernel_rfl) SB.refl.drew (fun hHeld => ?_)
  refine ord_take (i := 0) #[true, false, false, false, false, false, false, false, false, false, false, false, false, false, false, false, false, false, false, false, false, false, false, false, false, false, false, false, false, false, false, false, false, false, false, false, false, false, false, false, false, false] ?_ rfl (by kernel_rfl) (by kernel_rfl) (by kernel_rfl) (by kernel_rfl) (fun _ _ _ h => h) hHeld (by rfl) (fun wx hSx => ?_) ?_
  rotate_left
  · (unfold SB at hSx; go_simp; (try with_reducible rfl))
  (try simp only [Act.put, putA, putB, putC])
  refine ord_take (i := 1) #[true, true, false, false, false, false, false, false, false, false, false, false, false, false, false, false, false, false, false, false, false, false, false, false, false, false, false, false, false, false, false, false, false, false, false, false, false, false, false, false, false, false] ?_ rfl (by kernel_rfl) (by kernel_rfl) (by kernel_rfl) (by kernel_rfl) (fun _ _ _ h => h) hHeld (by rfl) (fun wx hSx => ?_) ?_
  rotate_left
  · (unfold SB at hSx; go_simp; (try with_reducible rfl))
  (try simp only [Act.put, putA, putB, putC])
  refine ord_take (i := 2) #[true, true, true, false, false, false, false, false, false, false, false, false, false, false, false, false, false, false, false, false, false, false, false, false, false, false, false, false, false, false, false, false, false, false, false, false, false, false, false, false, false, false] ?_ rfl (by kernel_rfl) (by kernel_rfl) (by kernel_rfl) (by kernel_rfl) (fun _ _ _ h => h) hHeld (by rfl) (fun wx hSx => ?_) ?_
  rotate_left
  · (unfold SB at hSx; go_simp; (try with_reducible rfl))
  (try simp only [Act.put, putA, putB, putC])
  refine ord_take (i := 3) #[true, true, true, true, false, false, false, false, false, false, false, false, false, false, false, false, false, false, false, false, false, false, false, false, false, false, false, false, false, false, false, false, false, false, false, false, false, false, false, false, false, false] ?_ rfl (by kernel_rfl) (by kernel_rfl) (by kernel_rfl) (by kernel_rfl) (fun _ _ _ h => h) hHeld (by rfl) (fun wx hSx => ?_) ?_
  rotate_left
  · (unfold SB at hSx; go_simp; (try with_reducible rfl))
  (try simp only [Act.put, putA, putB, putC])
  refine ord_take (i := 4) #[true, true, true, true, true, false, false, false, false, false, false, false, false, false, false, false, false, false, false, false, false, false, false, false, false, false, false, false, false, false, false, false, false, false, false, false, false, false, false, false, false, false] ?_ rfl (by kernel_rfl) (by kernel_rfl) (by kernel_rfl) (by kernel_rfl) (fun _ _ _ h => h) hHeld (by rfl) (fun wx hSx => ?_) ?_
  rotate_left
  · (unfold SB at hSx; go_simp; (try with_reducible rfl))
  (try simp only [Act.put, putA, putB, putC])
  refine ord_take (i := 5) #[true, true, true, true, true, true, false, false, false, false, false, false, false, false, false, false, false, false, false, false, false, false, false, false, false, false, false, false, false, false, false, false, false, false, false, false, false, false, false, false, false, false] ?_ rfl (by kernel_rfl) (by kernel_rfl) (by kernel_rfl) (by kernel_rfl) (fun _ _ _ h => h) hHeld (by rfl) (fun wx hSx => ?_) ?_
  rotate_left
  · (unfold SB at hSx; go_simp; (try with_reducible rfl))
  (try simp only [Act.put, putA, putB, putC])
  refine ord_take (i := 6) #[true, true, true, true, true, true, true, false, false, false, false, false, false, false, false, false, false, false, false, false, false, false, false, false, false, false, false, false, false, false, false, false, false, false, false, false, false, false, false, false, false, false] ?_ rfl (by kernel_rfl) (by kernel_rfl) (by kernel_rfl) (by kernel_rfl) (fun _ _ _ h => h) hHeld (by rfl) (fun wx hSx => ?_) ?_
  rotate_left
  · (unfold SB at hSx; go_simp; (try with_reducible rfl))
  (try simp only [Act.put, putA, putB, putC])
  refine ord_take (i := 7) #[true, true, true, true, true, true, true, true, false, false, false, false, false, false, false, false, false, false, false, false, false, false, false, false, false, false, false, false, false, false, false, false, false, false, false, false, false, false, false, false, false, false] ?_ rfl (by kernel_rfl) (by kernel_rfl) (by kernel_rfl) (by kernel_rfl) (fun _ _ _ h => h) hHeld (by rfl) (fun wx hSx => ?_) ?_
  rotate_left
  · (unfold SB at hSx; go_simp; (try with_reducible rfl))
  (try simp only [Act.put, putA, putB, putC])
  refine ord_take (i := 8) #[true, true, true, true, true, true, true, true, true, false, false, false, false, false, false, false, false, false, false, false, false, false, false, false, false, false, false, false, false, false, false, false, false, false, false, false, false, false, false, false, false, false] ?_ rfl (by kernel_rfl) (by kernel_rfl) (by kernel_rfl) (by kernel_rfl) (fun _ _ _ h => h) hHeld (by rfl) (fun wx hSx => ?_) ?_
  rotate_left
  · (unfold SB at hSx; go_simp; (try with_reducible rfl))
  (try simp only [Act.put, putA, putB, putC])
  refine ord_take (i := 9) #[true, true, true, true, true, true, true, true, true, true, false, false, false, false, false, false, false, false, false, false, false, false, false, false, false, false, false, false, false, false, false, false, false, false, false, false, false, false, false, false, false, false] ?_ rfl (by kernel_rfl) (by kernel_rfl) (by kernel_rfl) (by kernel_rfl) (fun _ _ _ h => h) hHeld (by rfl) (fun wx hSx => ?_) ?_
  rotate_left
  · (unfold SB at hSx; go_simp; (try with_reducible rfl))
  (try simp only [Act.put, putA, putB, putC])
  refine ord_take (i := 10) #[true, true, true, true, true, true, true, true, true, true, true, false, false, false, false, false, false, false, false, false, false, false, false, false, false, false, false, false, false, false, false, false, false, false, false, false, false, false, false, false, false, false] ?_ rfl (by kernel_rfl) (by kernel_rfl) (by kernel_rfl) (by kernel_rfl) (fun _ _ _ h => h) hHeld (by rfl) (fun wx hSx => ?_) ?_
  rotate_left
  · (unfold SB at hSx; go_simp; (try with_reducible rfl))
  (try simp only [Act.put, putA, putB, putC])
  refine ord_take (i := 11) #[true, true, true, true, true, true, true, true, true, true, true, true, false, false, false, false, false, false, false, false, false, false, false, false, false, false, false, false, false, false, false, false, false, false, false, false, false, false, false, false, false, false] ?_ rfl (by kernel_rfl) (by kernel_rfl) (by kernel_rfl) (by kernel_rfl) (fun _ _ _ h => h) hHeld (by rfl) (fun wx hSx => ?_) ?_
  rotate_left
  · (unfold SB at hSx; go_simp; (try with_reducible rfl))
  (try simp only [Act.put, putA, putB, putC])
  refine ord_take (i := 12) #[true, true, true, true, true, true, true, true, true, true, true, true, true, false, false, false, false, false, false, false, false, false, false, false, false, false, false, false, false, false, false, false, false, false, false, false, false, false, false, false, false, false] ?_ rfl (by kernel_rfl) (by kernel_rfl) (by kernel_rfl) (by kernel_rfl) (fun _ _ _ h => h) hHeld (by rfl) (fun wx hSx => ?_) ?_
  rotate_left
  · (unfold SB at hSx; go_simp; (try with_reducible rfl))
  (try simp only [Act.put, putA, putB, putC])
  refine ord_take (i := 13) #[true, true, true, true, true, true, true, true, true, true, true, true, true, true, false, false, false, false, false, false, false, false, false, false, false, false, false, false, false, false, false, false, false, false, false, false, false, false, false, false, false, false] ?_ rfl (by kernel_rfl) (by kernel_rfl) (by kernel_rfl) (by kernel_rfl) (fun _ _ _ h => h) hHeld (by rfl) (fun wx hSx => ?_) ?_
  rotate_left
  · (unfold SB at hSx; go_simp; (try with_reducible rfl))
  (try simp only [Act.put, putA, putB, putC])
  refine ord_take (i := 14) #[true, true, true, true, true, true, true, true, true, true, true, true, true, true, true, false, false, false, false, false, false, false, false, false, false, false, false, false, false, false, false, false, false, false, false, false, false, false, false, false, false, false] ?_ rfl (by kernel_rfl) (by kernel_rfl) (by kernel_rfl) (by kernel_rfl) (fun _ _ _ h => h) hHeld (by rfl) (fun wx hSx => ?_) ?_
  rotate_left
  · (unfold SB at hSx; go_simp; (try with_reducible rfl))
  (try simp only [Act.put, putA, putB, putC])
  refine ord_take (i := 15) #[true, true, true, true, true, true, true, true, true, true, true, true, true, true, true, true, false, false, false, false, false, false, false, false, false, false, false, false, false, false, false, false, false, false, false, false, false, false, false, false, false, false] ?_ rfl (by kernel_rfl) (by kernel_rfl) (by kernel_rfl) (by kernel_rfl) (fun _ _ _ h => h) hHeld (by rfl) (fun wx hSx => ?_) ?_
  rotate_left
  · (unfold SB at hSx; go_simp; (try with_reducible rfl))
  (try simp only [Act.put, putA, putB, putC])
  refine ord_take (i := 16) #[true, true, true, true, true, true, true, true, true, true, true, true, true, true, true, true, true, false, false, false, false, false, false, false, false, false, false, false, false, false, false, false, false, false, false, false, false, false, false, false, false, false] ?_ rfl (by kernel_rfl) (by kernel_rfl) (by kernel_rfl) (by kernel_rfl) (fun _ _ _ h => h) hHeld (by rfl) (fun wx hSx => ?_) ?_
  rotate_left
  · (unfold SB at hSx; go_simp; (try with_reducible rfl))
  (try simp only [Act.put, putA, putB, putC])
  refine ord_take (i := 17) #[true, true, true, true, true, true, true, true, true, true, true, true, true, true, true, true, true, true, false, false, false, false, false, false, false, false, false, false, false, false, false, false, false, false, false, false, false, false, false, false, false, false] ?_ rfl (by kernel_rfl) (by kernel_rfl) (by kernel_rfl) (by kernel_rfl) (fun _ _ _ h => h) hHeld (by rfl) (fun wx hSx => ?_) ?_
  rotate_left
  · (unfold SB at hSx; go_simp; (try with_reducible rfl))
  (try simp only [Act.put, putA, putB, putC])
  refine ord_take (i := 18) #[true, true, true, true, true, true, true, true, true, true, true, true, true, true, true, true, true, true, true, false, false, false, false, false, false, false, false, false, false, false, false, false, false, false, false, false, false, false, false, false, false, false] ?_ rfl (by kernel_rfl) (by kernel_rfl) (by kernel_rfl) (by kernel_rfl) (fun _ _ _ h => h) hHeld (by rfl) (fun wx hSx => ?_) ?_
  rotate_left
  · (unfold SB at hSx; go_simp; (try with_reducible rfl))
  (try simp only [Act.put, putA, putB, putC])
  refine ord_take (i := 19) #[true, true, true, true, true, true, true, true, true, true, true, true, true, true, true, true, true, true, true, true, false, false, false, false, false, false, false, false, false, false, false, false, false, false, false, false, false, false, false, false, false, false] ?_ rfl (by kernel_rfl) (by kernel_rfl) (by kernel_rfl) (by kernel_rfl) (fun _ _ _ h => h) hHeld (by rfl) (fun wx hSx => ?_) ?_
  rotate_left
  · (unfold SB at hSx; go_simp; (try with_reducible rfl))
  (try simp only [Act.put, putA, putB, putC])
  refine ord_take (i := 20) #[true, true, true, true, true, true, true, true, true, true, true, true, true, true, true, true, true, true, true, true, true, false, false, false, false, false, false, false, false, false, false, false, false, false, false, false, false, false, false, false, false, false] ?_ rfl (by kernel_rfl) (by kernel_rfl) (by kernel_rfl) (by kernel_rfl) (fun _ _ _ h => h) hHeld (by rfl) (fun wx hSx => ?_) ?_
  rotate_left
  · (unfold SB at hSx; go_simp; (try with_reducible rfl))
  (try simp only [Act.put, putA, putB, putC])
  refine ord_take (i := 21) #[true, true, true, true, true, true, true, true, true, true, true, true, true, true, true, true, true, true, true, true, true, true, false, false, false, false, false, false, false, false, false, false, false, false, false, false, false, false, false, false, false, false] ?_ rfl (by kernel_rfl) (by kernel_rfl) (by kernel_rfl) (by kernel_rfl) (fun _ _ _ h => h) hHeld (by rfl) (fun wx hSx => ?_) ?_
  rotate_left
  · (unfold SB at hSx; go_simp; (try with_reducible rfl))
  (try simp only [Act.put, putA, putB, putC])
  refine ord_take (i := 22) #[true, true, true, true, true, true, true, true, true, true, true, true, true, true, true, true, true, true, true, true, true, true, true, false, false, false, false, false, false, false, false, false, false, false, false, false, false, false, false, false, false, false] ?_ rfl (by kernel_rfl) (by kernel_rfl) (by kernel_rfl) (by kernel_rfl) (fun _ _ _ h => h) hHeld (by rfl) (fun wx hSx => ?_) ?_
  rotate_left
  · (unfold SB at hSx; go_simp; (try with_reducible rfl))
  (try simp only [Act.put, putA, putB, putC])
  refine ord_take (i := 23) #[true, true, true, true, true, true, true, true, true, true, true, true, true, true, true, true, true, true, true, true, true, true, true, true, false, false, false, false, false, false, false, false, false, false, false, false, false, false, false, false, false, false] ?_ rfl (by kernel_rfl) (by kernel_rfl) (by kernel_rfl) (by kernel_rfl) (fun _ _ _ h => h) hHeld (by rfl) (fun wx hSx => ?_) ?_
  rotate_left
  · (unfold SB at hSx; go_simp; (try with_reducible rfl))
  (try simp only [Act.put, putA, putB, putC])
  refine ord_take (i := 24) #[true, true, true, true, true, true, true, true, true, true, true, true, true, true, true, true, true, true, true, true, true, true, true, true, true, false, false, false, false, false, false, false, false, false, false, false, false, false, false, false, false, false] ?_ rfl (by kernel_rfl) (by kernel_rfl) (by kernel_rfl) (by kernel_rfl) (fun _ _ _ h => h) hHeld (by rfl) (fun wx hSx => ?_) ?_
  rotate_left
  · (unfold SB at hSx; go_simp; (try with_reducible rfl))
  (try simp only [Act.put, putA, putB, putC])
  refine ord_take (i := 25) #[true, true, true, true, true, true, true, true, true, true, true, true, true, true, true, true, true, true, true, true, true, true, true, true, true, true, false, false, false, false, false, false, false, false, false, false, false, false, false, false, false, false] ?_ rfl (by kernel_rfl) (by kernel_rfl) (by kernel_rfl) (by kernel_rfl) (fun _ _ _ h => h) hHeld (by rfl) (fun wx hSx => ?_) ?_
  rotate_left
  · (unfold SB at hSx; go_simp; (try with_reducible rfl))
  (try simp only [Act.put, putA, putB, putC])
  refine ord_take (i := 26) #[true, true, true, true, true, true, true, true, true, true, true, true, true, true, true, true, true, true, true, true, true, true, true, true, true, true, true, false, false, false, false, false, false, false, false, false, false, false, false, false, false, false] ?_ rfl (by kernel_rfl) (by kernel_rfl) (by kernel_rfl) (by kernel_rfl) (fun _ _ _ h => h) hHeld (by rfl) (fun wx hSx => ?_) ?_
  rotate_left
  · (unfold SB at hSx; go_simp; (try with_reducible rfl))
  (try simp only [Act.put, putA, putB, putC])
  refine ord_take (i := 27) #[true, true, true, true, true, true, true, true, true, true, true, true, true, true, true, true, true, true, true, true, true, true, true, true, true, true, true, true, false, false, false, false, false, false, false, false, false, false, false, false, false, false] ?_ rfl (by kernel_rfl) (by kernel_rfl) (by kernel_rfl) (by kernel_rfl) (fun _ _ _ h => h) hHeld (by rfl) (fun wx hSx => ?_) ?_
  rotate_left
  · (unfold SB at hSx; go_simp; (try with_reducible rfl))
  (try simp only [Act.put, putA, putB, putC])
  refine ord_take (i := 28) #[true, true, true, true, true, true, true, true, true, true, true, true, true, true, true, true, true, true, true, true, true, true, true, true, true, true, true, true, true, false, false, false, false, false, false, false, false, false, false, false, false, false] ?_ rfl (by kernel_rfl) (by kernel_rfl) (by kernel_rfl) (by kernel_rfl) (fun _ _ _ h => h) hHeld (by rfl) (fun wx hSx => ?_) ?_
  rotate_left
  · (unfold SB at hSx; go_simp; (try with_reducible rfl))
  (try simp only [Act.put, putA, putB, putC])
  refine wpAnyH_ready (rs := [29]) (by kernel_rfl) (by simp) ?_
  refine ord_run (i := 29) #[true, true, true, true, true, true, true, true, true, true, true, true, true, true, true, true, true, true, true, true, true, true, true, true, true, true, true, true, true, true, false, false, false, false, false, false, false, false, false, false, false, false] rfl (by kernel_rfl) (by rfl) (fun K hK => ?_) AllReadyH.nil
  go_simp
  go_wp2_with (refine (lv_of2 _).mono ?_; rintro e w9 ⟨rfl, hb⟩; (have q1B : Below W.heap.size W w9 := (by refine Below.trans ?_ (hb.mono (by first | omega | (simp <;> omega))); (repeat (first | (with_reducible first | exact Below.refl _ _ | assumption | refine Below.drew ?_ | refine below_drewN ?_ _) | ((with_reducible first | refine Below.alloc ?_ ?_ _ | refine Below.setCell ?_ ?_ _); rotate_left; (first | omega | (simp <;> omega)))))); have q1z := hb.size; (try simp at q1z); have q1t : W.heap.size ≤ w9.heap.size := (by omega); have q1s0 : p + 1 < w9.heap.size := (by omega); have q1n0_0 : ¬ w9.heap.size = p + 1 := (by omega); have q1n0_1 : ¬ w9.heap.size + 1 = p + 1 := (by omega); have q1n0_2 : ¬ w9.heap.size + 2 = p + 1 := (by omega); have q1c0_0 := hb.cell (p := ⟨p + 1, 0, none⟩) (by first | omega | (simp <;> omega)); simp [go_sem, *] at q1c0_0; have q1c0_1 := hb.cell (p := ⟨p + 1, 1, none⟩) (by first | omega | (simp <;> omega)); simp [go_sem, *] at q1c0_1; have q1f0 := fun o => hb.frozen (p := ⟨p + 1, o, none⟩) (by first | omega | (simp <;> omega)); simp [go_sem, *] at q1f0; have q1s1 : a < w9.heap.size := (by omega); have q1n1_0 : ¬ w9.heap.size = a := (by omega); have q1n1_1 : ¬ w9.heap.size + 1 = a := (by omega); have q1n1_2 : ¬ w9.heap.size + 2 = a := (by omega); have q1c1_0 := hb.cell (p := ⟨a, 0, none⟩) (by first | omega | (simp <;> omega)); simp [go_sem, *] at q1c1_0; have q1c1_1 := hb.cell (p := ⟨a, 1, none⟩) (by first | omega | (simp <;> omega)); simp [go_sem, *] at q1c1_1; have q1f1 := fun o => hb.frozen (p := ⟨a, o, none⟩) (by first | omega | (simp <;> omega)); simp [go_sem, *] at q1f1; have q1o : ∀ b o, b < W.heap.size → w9.cell? ⟨b, o, none⟩ = W.cell? ⟨b, o, none⟩ := fun b o h => q1B.cell (p := ⟨b, o, none⟩) h; have hbS := hb; have hbS1 := hb; clear hb))
  refine hK.out _ _ ?_ (fun hHeld => ?_)
  · (repeat (first | (with_reducible exact SB.refl) | (with_reducible exact hHeld) | (with_reducible refine SB.drew ?_) | (with_reducible refine SB.drewN ?_ _) | ((with_reducible refine SB.alloc ?_ ?_ _); (rotate_left); (first | omega | (simp <;> omega))) | ((with_reducible refine SB.setCell ?_ ?_ _); (rotate_left); (focus (first | (simp; done) | (right; first | omega | (simp <;> omega))))) | ((with_reducible refine SB.below ?_ hbS ?_); (rotate_left); (first | omega | (simp <;> omega))) | ((with_reducible refine SB.below ?_ hbS1 ?_); (rotate_left); (first | omega | (simp <;> omega))) | ((with_reducible refine SB.below ?_ hbS2 ?_); (rotate_left); (first | omega | (simp <;> omega))) | ((with_reducible refine SB.below ?_ hbS3 ?_); (rotate_left); (first | omega | (simp <;> omega))) | ((with_reducible refine SB.below ?_ hbS4 ?_); (rotate_left); (first | omega | (simp <;> omega))) | (with_reducible refine SB.undrew ?_) | ((with_reducible refine SB.congr ?_ ?_); (rotate_left); (focus (simp; done))) | ((with_reducible refine SB.realloc ?_ ?_ ?_); (rotate_left); (focus (simp; done)); (focus (simp; done)))))
  clear hK K
  (try simp only [Act.put, putA, putB, putC])
  refine ord_take (i := 30) #[true, true, true, true, true, true, true, true, true, true, true, true, true, true, true, true, true, true, true, true, true, true, true, true, true, true, true, true, true, true, true, false, false, false, false, false, false, false, false, false, false, false] ?_ rfl (by kernel_rfl) (by kernel_rfl) (by kernel_rfl) (by kernel_rfl) (fun _ _ _ h => h) hHeld (by rfl) (fun wx hSx => ?_) ?_
  rotate_left
  · (unfold SB at hSx; go_simp; (try with_reducible rfl))
  (try simp only [Act.put, putA, putB, putC])
  refine ord_take (i := 31) #[true, true, true, true, true, true, true, true, true, true, true, true, true, true, true, true, true, true, true, true, true, true, true, true, true, true, true, true, true, true, true, true, false, false, false, false, false, false, false, false, false, false] ?_ rfl (by kernel_rfl) (by kernel_rfl) (by kernel_rfl) (by kernel_rfl) (fun _ _ _ h => h) hHeld (by rfl) (fun wx hSx => ?_) ?_
  rotate_left
  · (unfold SB at hSx; go_simp; (try with_reducible rfl))
  (try simp only [Act.put, putA, putB, putC])
  refine ord_take (i := 32) #[true, true, true, true, true, true, true, true, true, true, true, true, true, true, true, true, true, true, true, true, true, true, true, true, true, true, true, true, true, true, true, true, true, false, false, false, false, false, false, false, false, false] ?_ rfl (by kernel_rfl) (by kernel_rfl) (by kernel_rfl) (by kernel_rfl) (fun _ _ _ h => h) hHeld (by rfl) (fun wx hSx => ?_) ?_
  rotate_left
  · (unfold SB at hSx; go_simp; (try with_reducible rfl))
  (try simp only [Act.put, putA, putB, putC])
  refine ord_take (i := 33) #[true, true, true, true, true, true, true, true, true, true, true, true, true, true, true, true, true, true, true, true, true, true, true, true, true, true, true, true, true, true, true, true, true, true, false, false, false, false, false, false, false, false] ?_ rfl (by kernel_rfl) (by kernel_rfl) (by kernel_rfl) (by kernel_rfl) (fun _ _ _ h => h) hHeld (by rfl) (fun wx hSx => ?_) ?_
  rotate_left
  · (unfold SB at hSx; go_simp; (try with_reducible rfl))
  (try simp only [Act.put, putA, putB, putC])
  refine ord_take (i := 34) #[true, true, true, true, true, true, true, true, true, true, true, true, true, true, true, true, true, true, true, true, true, true, true, true, true, true, true, true, true, true, true, true, true, true, true, false, false, false, false, false, false, false] ?_ rfl (by kernel_rfl) (by kernel_rfl) (by kernel_rfl) (by kernel_rfl) (fun _ _ _ h => h) hHeld (by rfl) (fun wx hSx => ?_) ?_
  rotate_left
  · (unfold SB at hSx; go_simp; (try with_reducible rfl))
  (try simp only [Act.put, putA, putB, putC])
  refine ord_take (i := 35) #[true, true, true, true, true, true, true, true, true, true, true, true, true, true, true, true, true, true, true, true, true, true, true, true, true, true, true, true, true, true, true, true, true, true, true, true, false, false, false, false, false, false] ?_ rfl (by kernel_rfl) (by kernel_rfl) (by kernel_rfl) (by kernel_rfl) (fun _ _ _ h => h) hHeld (by rfl) (fun wx hSx => ?_) ?_
  rotate_left
  · (unfold SB at hSx; go_simp; (try with_reducible rfl))
  (try simp only [Act.put, putA, putB, putC])
  refine ord_take (i := 36) #[true, true, true, true, true, true, true, true, true, true, true, true, true, true, true, true, true, true, true, true, true, true, true, true, true, true, true, true, true, true, true, true, true, true, true, true, true, false, false, false, false, false] ?_ rfl (by kernel_rfl) (by kernel_rfl) (by kernel_rfl) (by kernel_rfl) (fun _ _ _ h => h) hHeld (by rfl) (fun wx hSx => ?_) ?_
  rotate_left
  · (unfold SB at hSx; go_simp; (try with_reducible rfl))
  (try simp only [Act.put, putA, putB, putC])
  refine ord_take (i := 37) #[true, true, true, true, true, true, true, true, true, true, true, true, true, true, true, true, true, true, true, true, true, true, true, true, true, true, true, true, true, true, true, true, true, true, true, true, true, true, false, false, false, false] ?_ rfl (by kernel_rfl) (by kernel_rfl) (by kernel_rfl) (by kernel_rfl) (fun _ _ _ h => h) hHeld (by rfl) (fun wx hSx => ?_) ?_
  rotate_left
  · (unfold SB at hSx; go_simp; (try with_reducible rfl))
  (try simp only [Act.put, putA, putB, putC])
  refine ord_take (i := 38) #[true, true, true, true, true, true, true, true, true, true, true, true, true, true, true, true, true, true, true, true, true, true, true, true, true, true, true, true, true, true, true, true, true, true, true, true, true, true, true, false, false, false] ?_ rfl (by kernel_rfl) (by kernel_rfl) (by kernel_rfl) (by kernel_rfl) (fun _ _ _ h => h) hHeld (by rfl) (fun wx hSx => ?_) ?_
  rotate_left
  · (unfold SB at hSx; go_simp; (try with_reducible rfl))
  (try simp only [Act.put, putA, putB, putC])
  refine ord_take (i := 39) #[true, true, true, true, true, true, true, true, true, true, true, true, true, true, true, true, true, true, true, true, true, true, true, true, true, true, true, true, true, true, true, true, true, true, true, true, true, true, true, true, false, false] ?_ rfl (by kernel_rfl) (by kernel_rfl) (by kernel_rfl) (by kernel_rfl) (fun _ _ _ h => h) hHeld (by rfl) (fun wx hSx => ?_) ?_
  rotate_left
  · (unfold SB at hSx; go_simp; (try with_reducible rfl))
  (try simp only [Act.put, putA, putB, putC])
  refine ord_take (i := 40) #[true, true, true, true, true, true, true, true, true, true, true, true, true, true, true, true, true, true, true, true, true, true, true, true, true, true, true, true, true, true, true, true, true, true, true, true, true, true, true, true, true, false] ?_ rfl (by kernel_rfl) (by kernel_rfl) (by kernel_rfl) (by kernel_rfl) (fun _ _ _ h => h) hHeld (by rfl) (fun wx hSx => ?_) ?_
  rotate_left
  · (unfold SB at hSx; go_simp; (try with_reducible rfl))
  (try simp only [Act.put, putA, putB, putC])
  refine ord_take (i := 41) #[true, true, true, true, true, true, true, true, true, true, true, true, true, true, true, true, true, true, true, true, true, true, true, true, true, true, true, true, true, true, true, true, true, true, true, true, true, true, true, true, true, true] ?_ rfl (by kernel_rfl) (by kernel_rfl) (by kernel_rfl) (by kernel_rfl) (fun _ _ _ h => h) hHeld (by rfl) (fun wx hSx => ?_) ?_
  rotate_left
  · (unfold SB at hSx; go_simp; (try with_reducible rfl))
  (try simp only [Act.put, putA, putB, putC])
  refine wpAnyH_done (by kernel_rfl) ?_ _
  go_wp2_with fail
  go_ret
  exact ⟨rfl, hW.trans (Below.trans (q1B.mono hWz) (by (repeat (first | (with_reducible exact Below.refl _ _) | (with_reducible refine Below.drew ?_)))))⟩
end Go.Proofs.Ytfolccncegejjaa
