/- Texts laid together: Adf. -/
import Derived.Test.YtfolccncegejjaaQAdS
import Derived.Deep.QuietTactic
import Derived.BigQuiet
namespace Go.Proofs.Ytfolccncegejjaa
set_option maxRecDepth 4000
set_option linter.unusedSimpArgs false
set_option linter.unusedVariables false
open Go.RowKit Go
def AdI (n : Nat) (w4 : World) (v : Value) (wr : World) : Prop := ∃ k : Nat, k ≤ n ∧ v = .int .i64 k ∧ Below w4.heap.size w4 wr
def SerN (n : Nat) (L : Nat → LAcr) (w : World) (e : Ending) (w' : World) : Prop := ∃ A c, e = .returned (.tuple #[.slice A n c, .int .i64 0]) ∧ RowAcr w' A n L ∧ Below w.heap.size w w'
theorem ser_n {B : LBk} (hB : BkOK B) {id f t : Int} {n : Nat} (h : serE B id f t = 0) (hn : (n : Int) = t - f + 1) (w : World) (hw : BkIn w B) : Calls Try.prog 13 #[.agg B.C, .int .i64 id, .int .i64 f, .int .i64 t] w (SerN n (acrN B id f) w) :=
  (series_any B hB id f t w hw).mono fun e w' ⟨A, c, he, hr, hb⟩ => by
    obtain ⟨h1, h2⟩ := ser_row h hn hr
    rw [h1, h] at he
    exact ⟨A, c, he, h2, hb⟩
theorem tot_n {L : Nat → LAcr} {n : Nat} (hn : n ≤ 200) (hL : ∀ i, i < n → AcrOk (L i)) (A : Option Addr) (c : Nat) (w : World) (hr : RowAcr w A n L) : Calls Try.prog 16 #[.slice A n c] w fun e w' => e = .returned (.tuple #[.agg #[.int .i64 (hiW (sumC L n)), .int .u64 (loW (sumC L n))], .agg #[.int .i64 (hiW (sumD L n)), .int .u64 (loW (sumD L n))], .int .i64 0]) ∧ Below w.heap.size w w' := by
  have h := tot_any A n c L (by omega) (fun k hk => by have t := hL k hk; have := t.c0; have := t.c1; have := t.d0; have := t.d1; unfold WIn; omega) w hr
  unfold TotRet at h
  rw [tot_sum hn hL] at h
  exact h
theorem add_n {x y z : Int} (hx : WIn x) (hy : WIn y) (hz : z = x + y) (hw : WIn z) (w : World) : Calls Try.prog 18 #[.agg #[.int .i64 (hiW x), .int .u64 (loW x)], .agg #[.int .i64 (hiW y), .int .u64 (loW y)]] w fun e w' => e = .returned (.tuple #[.agg #[.int .i64 (hiW z), .int .u64 (loW z)], .int .i64 0]) ∧ Below w.heap.size w w' := by
  have h := radd_any x y hx hy w
  rw [← hz, fitR_of hw, fitE_of hw] at h
  exact h
set_option maxRecDepth 8000 in
set_option maxHeartbeats 8000000 in
theorem lawAdds_any (B : LBk) (id f a b : Int) (a0 : 0 ≤ a) (a1 : a < 256) (b0 : 0 ≤ b) (b1 : b < 256) (w : World) (hA : BkArg w B) : Calls Try.prog 6 #[.agg B.C, .int .i64 id, .int .i64 f, .agg #[.int .u8 a, .int .u8 b]] w fun e w' => e = .returned (.bool true) ∧ Below w.heap.size w w' := by
  have HA := hide hA
  have hs := hA.bks.size
  have HS := hide (show (Try.prog.info? 33).map (·.size) = some B.C.size by rw [hs]; kernel_rfl)
  have HF := hide (fun h => few_ok hA h)
  obtain ⟨y, hy⟩ : ∃ y, y = fewB B := ⟨_, rfl⟩
  have HFW := hide (fun W h => by have t := few_any B W h; rw [← hy] at t; exact t)
  cases y with
  | false =>
    clear hA hs HF hy
    go_enter Try.func6, Try.ntmps6
    go_wp2_with (with_reducible refine wpList_load_row rfl 33 (.tmp 4) rfl w.heap.size rfl 33 B.C (0, 0) _ (by repeat (first | exact blk_new rfl | refine blk_under ?_)) Try.underlying33 rfl HS.out ?_)
    refine (HFW.out _ (HA.out.below (by (repeat (first | (with_reducible first | exact Below.refl _ _ | assumption | refine Below.drew ?_ | refine below_drewN ?_ _) | ((with_reducible first | refine Below.alloc ?_ ?_ _ | refine Below.setCell ?_ ?_ _); rotate_left; (first | omega | (simp <;> omega)))))))).mono ?_
    rintro e w1 ⟨rfl, hb⟩
    have X1 := hide (blk_below hb (by simp; omega) (blk_under (blk_new (k := w.heap.size) rfl)))
    have HZ1 := hide (show w.heap.size + 1 < w1.heap.size by have := hb.size; simp at this; omega)
    have q1B : Below w.heap.size w w1 := (by refine Below.trans ?_ (hb.mono (by first | omega | (simp <;> omega))); (repeat (first | (with_reducible first | exact Below.refl _ _ | assumption | refine Below.drew ?_ | refine below_drewN ?_ _) | ((with_reducible first | refine Below.alloc ?_ ?_ _ | refine Below.setCell ?_ ?_ _); rotate_left; (first | omega | (simp <;> omega))))))
    have q1z := hb.size
    try simp at q1z
    have q1t : w.heap.size ≤ w1.heap.size := (by omega)
    have q1s0 : w.heap.size + 1 < w1.heap.size := (by omega)
    have q1n0_0 : ¬ w1.heap.size = w.heap.size + 1 := (by omega)
    have q1n0_1 : ¬ w1.heap.size + 1 = w.heap.size + 1 := (by omega)
    have q1n0_2 : ¬ w1.heap.size + 2 = w.heap.size + 1 := (by omega)
    have q1c0_0 := hb.cell (p := ⟨w.heap.size + 1, 0, none⟩) (by first | omega | (simp <;> omega))
    simp [go_sem, *] at q1c0_0
    have q1c0_1 := hb.cell (p := ⟨w.heap.size + 1, 1, none⟩) (by first | omega | (simp <;> omega))
    simp [go_sem, *] at q1c0_1
    have q1f0 := fun o => hb.frozen (p := ⟨w.heap.size + 1, o, none⟩) (by first | omega | (simp <;> omega))
    simp [go_sem, *] at q1f0
    have q1o : ∀ b o, b < w.heap.size → w1.cell? ⟨b, o, none⟩ = w.cell? ⟨b, o, none⟩ := fun b o h => q1B.cell (p := ⟨b, o, none⟩) h
    clear hb
    go_wp2_with fail
    refine (lives_any _).mono ?_
    rintro e w2 ⟨rfl, hb⟩
    have q2B : Below w.heap.size w w2 := (by refine Below.trans ?_ (hb.mono (by first | omega | (simp <;> omega))); (repeat (first | (with_reducible first | exact Below.refl _ _ | assumption | refine Below.drew ?_ | refine below_drewN ?_ _) | ((with_reducible first | refine Below.alloc ?_ ?_ _ | refine Below.setCell ?_ ?_ _); rotate_left; (first | omega | (simp <;> omega))))))
    have q2z := hb.size
    try simp at q2z
    have q2t : w.heap.size ≤ w2.heap.size := (by omega)
    have q2o : ∀ b o, b < w.heap.size → w2.cell? ⟨b, o, none⟩ = w.cell? ⟨b, o, none⟩ := fun b o h => q2B.cell (p := ⟨b, o, none⟩) h
    clear hb q1o q1f0 q1c0_1 q1c0_0 q1s0 q1z q1B
    go_wp2_with fail
    go_ret
    exact ⟨rfl, q2B⟩
  | true =>
    have HB := hide (HF.out hy.symm).1
    have HW := hide (HF.out hy.symm).2
    clear hA hs HF hy
    by_cases c0 : f < 0
    · go_enter Try.func6, Try.ntmps6
      go_wp2_with (with_reducible refine wpList_load_row rfl 33 (.tmp 4) rfl w.heap.size rfl 33 B.C (0, 0) _ (by repeat (first | exact blk_new rfl | refine blk_under ?_)) Try.underlying33 rfl HS.out ?_)
      refine (HFW.out _ (HA.out.below (by (repeat (first | (with_reducible first | exact Below.refl _ _ | assumption | refine Below.drew ?_ | refine below_drewN ?_ _) | ((with_reducible first | refine Below.alloc ?_ ?_ _ | refine Below.setCell ?_ ?_ _); rotate_left; (first | omega | (simp <;> omega)))))))).mono ?_
      rintro e w1 ⟨rfl, hb⟩
      have X1 := hide (blk_below hb (by simp; omega) (blk_under (blk_new (k := w.heap.size) rfl)))
      have HZ1 := hide (show w.heap.size + 1 < w1.heap.size by have := hb.size; simp at this; omega)
      have q1B : Below w.heap.size w w1 := (by refine Below.trans ?_ (hb.mono (by first | omega | (simp <;> omega))); (repeat (first | (with_reducible first | exact Below.refl _ _ | assumption | refine Below.drew ?_ | refine below_drewN ?_ _) | ((with_reducible first | refine Below.alloc ?_ ?_ _ | refine Below.setCell ?_ ?_ _); rotate_left; (first | omega | (simp <;> omega))))))
      have q1z := hb.size
      try simp at q1z
      have q1t : w.heap.size ≤ w1.heap.size := (by omega)
      have q1s0 : w.heap.size + 1 < w1.heap.size := (by omega)
      have q1n0_0 : ¬ w1.heap.size = w.heap.size + 1 := (by omega)
      have q1n0_1 : ¬ w1.heap.size + 1 = w.heap.size + 1 := (by omega)
      have q1n0_2 : ¬ w1.heap.size + 2 = w.heap.size + 1 := (by omega)
      have q1c0_0 := hb.cell (p := ⟨w.heap.size + 1, 0, none⟩) (by first | omega | (simp <;> omega))
      simp [go_sem, *] at q1c0_0
      have q1c0_1 := hb.cell (p := ⟨w.heap.size + 1, 1, none⟩) (by first | omega | (simp <;> omega))
      simp [go_sem, *] at q1c0_1
      have q1f0 := fun o => hb.frozen (p := ⟨w.heap.size + 1, o, none⟩) (by first | omega | (simp <;> omega))
      simp [go_sem, *] at q1f0
      have q1o : ∀ b o, b < w.heap.size → w1.cell? ⟨b, o, none⟩ = w.cell? ⟨b, o, none⟩ := fun b o h => q1B.cell (p := ⟨b, o, none⟩) h
      clear hb
      go_wp2_with fail
      refine (lives_any _).mono ?_
      rintro e w2 ⟨rfl, hb⟩
      have q2B : Below w.heap.size w w2 := (by refine Below.trans ?_ (hb.mono (by first | omega | (simp <;> omega))); (repeat (first | (with_reducible first | exact Below.refl _ _ | assumption | refine Below.drew ?_ | refine below_drewN ?_ _) | ((with_reducible first | refine Below.alloc ?_ ?_ _ | refine Below.setCell ?_ ?_ _); rotate_left; (first | omega | (simp <;> omega))))))
      have q2z := hb.size
      try simp at q2z
      have q2t : w.heap.size ≤ w2.heap.size := (by omega)
      have q2o : ∀ b o, b < w.heap.size → w2.cell? ⟨b, o, none⟩ = w.cell? ⟨b, o, none⟩ := fun b o h => q2B.cell (p := ⟨b, o, none⟩) h
      clear hb q1o q1f0 q1c0_1 q1c0_0 q1s0 q1z q1B
      go_wp2_with fail
      go_ret
      exact ⟨rfl, q2B⟩
    · have d0 : 0 ≤ f := by omega
      clear c0
      by_cases c1 : 73048 < f
      · go_enter Try.func6, Try.ntmps6
        go_wp2_with (with_reducible refine wpList_load_row rfl 33 (.tmp 4) rfl w.heap.size rfl 33 B.C (0, 0) _ (by repeat (first | exact blk_new rfl | refine blk_under ?_)) Try.underlying33 rfl HS.out ?_)
        refine (HFW.out _ (HA.out.below (by (repeat (first | (with_reducible first | exact Below.refl _ _ | assumption | refine Below.drew ?_ | refine below_drewN ?_ _) | ((with_reducible first | refine Below.alloc ?_ ?_ _ | refine Below.setCell ?_ ?_ _); rotate_left; (first | omega | (simp <;> omega)))))))).mono ?_
        rintro e w1 ⟨rfl, hb⟩
        have X1 := hide (blk_below hb (by simp; omega) (blk_under (blk_new (k := w.heap.size) rfl)))
        have HZ1 := hide (show w.heap.size + 1 < w1.heap.size by have := hb.size; simp at this; omega)
        have q1B : Below w.heap.size w w1 := (by refine Below.trans ?_ (hb.mono (by first | omega | (simp <;> omega))); (repeat (first | (with_reducible first | exact Below.refl _ _ | assumption | refine Below.drew ?_ | refine below_drewN ?_ _) | ((with_reducible first | refine Below.alloc ?_ ?_ _ | refine Below.setCell ?_ ?_ _); rotate_left; (first | omega | (simp <;> omega))))))
        have q1z := hb.size
        try simp at q1z
        have q1t : w.heap.size ≤ w1.heap.size := (by omega)
        have q1s0 : w.heap.size + 1 < w1.heap.size := (by omega)
        have q1n0_0 : ¬ w1.heap.size = w.heap.size + 1 := (by omega)
        have q1n0_1 : ¬ w1.heap.size + 1 = w.heap.size + 1 := (by omega)
        have q1n0_2 : ¬ w1.heap.size + 2 = w.heap.size + 1 := (by omega)
        have q1c0_0 := hb.cell (p := ⟨w.heap.size + 1, 0, none⟩) (by first | omega | (simp <;> omega))
        simp [go_sem, *] at q1c0_0
        have q1c0_1 := hb.cell (p := ⟨w.heap.size + 1, 1, none⟩) (by first | omega | (simp <;> omega))
        simp [go_sem, *] at q1c0_1
        have q1f0 := fun o => hb.frozen (p := ⟨w.heap.size + 1, o, none⟩) (by first | omega | (simp <;> omega))
        simp [go_sem, *] at q1f0
        have q1o : ∀ b o, b < w.heap.size → w1.cell? ⟨b, o, none⟩ = w.cell? ⟨b, o, none⟩ := fun b o h => q1B.cell (p := ⟨b, o, none⟩) h
        clear hb
        go_wp2_with fail
        refine (lives_any _).mono ?_
        rintro e w2 ⟨rfl, hb⟩
        have q2B : Below w.heap.size w w2 := (by refine Below.trans ?_ (hb.mono (by first | omega | (simp <;> omega))); (repeat (first | (with_reducible first | exact Below.refl _ _ | assumption | refine Below.drew ?_ | refine below_drewN ?_ _) | ((with_reducible first | refine Below.alloc ?_ ?_ _ | refine Below.setCell ?_ ?_ _); rotate_left; (first | omega | (simp <;> omega))))))
        have q2z := hb.size
        try simp at q2z
        have q2t : w.heap.size ≤ w2.heap.size := (by omega)
        have q2o : ∀ b o, b < w.heap.size → w2.cell? ⟨b, o, none⟩ = w.cell? ⟨b, o, none⟩ := fun b o h => q2B.cell (p := ⟨b, o, none⟩) h
        clear hb q1o q1f0 q1c0_1 q1c0_0 q1s0 q1z q1B
        go_wp2_with fail
        go_ret
        exact ⟨rfl, q2B⟩
      · have d1 : f ≤ 73048 := by omega
        clear c1
        by_cases c2 : 50 < a
        · go_enter Try.func6, Try.ntmps6
          go_wp2_with (with_reducible refine wpList_load_row rfl 33 (.tmp 4) rfl w.heap.size rfl 33 B.C (0, 0) _ (by repeat (first | exact blk_new rfl | refine blk_under ?_)) Try.underlying33 rfl HS.out ?_)
          refine (HFW.out _ (HA.out.below (by (repeat (first | (with_reducible first | exact Below.refl _ _ | assumption | refine Below.drew ?_ | refine below_drewN ?_ _) | ((with_reducible first | refine Below.alloc ?_ ?_ _ | refine Below.setCell ?_ ?_ _); rotate_left; (first | omega | (simp <;> omega)))))))).mono ?_
          rintro e w1 ⟨rfl, hb⟩
          have X1 := hide (blk_below hb (by simp; omega) (blk_under (blk_new (k := w.heap.size) rfl)))
          have HZ1 := hide (show w.heap.size + 1 < w1.heap.size by have := hb.size; simp at this; omega)
          have q1B : Below w.heap.size w w1 := (by refine Below.trans ?_ (hb.mono (by first | omega | (simp <;> omega))); (repeat (first | (with_reducible first | exact Below.refl _ _ | assumption | refine Below.drew ?_ | refine below_drewN ?_ _) | ((with_reducible first | refine Below.alloc ?_ ?_ _ | refine Below.setCell ?_ ?_ _); rotate_left; (first | omega | (simp <;> omega))))))
          have q1z := hb.size
          try simp at q1z
          have q1t : w.heap.size ≤ w1.heap.size := (by omega)
          have q1s0 : w.heap.size + 1 < w1.heap.size := (by omega)
          have q1n0_0 : ¬ w1.heap.size = w.heap.size + 1 := (by omega)
          have q1n0_1 : ¬ w1.heap.size + 1 = w.heap.size + 1 := (by omega)
          have q1n0_2 : ¬ w1.heap.size + 2 = w.heap.size + 1 := (by omega)
          have q1c0_0 := hb.cell (p := ⟨w.heap.size + 1, 0, none⟩) (by first | omega | (simp <;> omega))
          simp [go_sem, *] at q1c0_0
          have q1c0_1 := hb.cell (p := ⟨w.heap.size + 1, 1, none⟩) (by first | omega | (simp <;> omega))
          simp [go_sem, *] at q1c0_1
          have q1f0 := fun o => hb.frozen (p := ⟨w.heap.size + 1, o, none⟩) (by first | omega | (simp <;> omega))
          simp [go_sem, *] at q1f0
          have q1o : ∀ b o, b < w.heap.size → w1.cell? ⟨b, o, none⟩ = w.cell? ⟨b, o, none⟩ := fun b o h => q1B.cell (p := ⟨b, o, none⟩) h
          clear hb
          go_wp2_with fail
          refine (lives_any _).mono ?_
          rintro e w2 ⟨rfl, hb⟩
          have q2B : Below w.heap.size w w2 := (by refine Below.trans ?_ (hb.mono (by first | omega | (simp <;> omega))); (repeat (first | (with_reducible first | exact Below.refl _ _ | assumption | refine Below.drew ?_ | refine below_drewN ?_ _) | ((with_reducible first | refine Below.alloc ?_ ?_ _ | refine Below.setCell ?_ ?_ _); rotate_left; (first | omega | (simp <;> omega))))))
          have q2z := hb.size
          try simp at q2z
          have q2t : w.heap.size ≤ w2.heap.size := (by omega)
          have q2o : ∀ b o, b < w.heap.size → w2.cell? ⟨b, o, none⟩ = w.cell? ⟨b, o, none⟩ := fun b o h => q2B.cell (p := ⟨b, o, none⟩) h
          clear hb q1o q1f0 q1c0_1 q1c0_0 q1s0 q1z q1B
          go_wp2_with fail
          go_ret
          exact ⟨rfl, q2B⟩
        · have d2 : a ≤ 50 := by omega
          clear c2
          by_cases c3 : 50 < b
          · go_enter Try.func6, Try.ntmps6
            go_wp2_with (with_reducible refine wpList_load_row rfl 33 (.tmp 4) rfl w.heap.size rfl 33 B.C (0, 0) _ (by repeat (first | exact blk_new rfl | refine blk_under ?_)) Try.underlying33 rfl HS.out ?_)
            refine (HFW.out _ (HA.out.below (by (repeat (first | (with_reducible first | exact Below.refl _ _ | assumption | refine Below.drew ?_ | refine below_drewN ?_ _) | ((with_reducible first | refine Below.alloc ?_ ?_ _ | refine Below.setCell ?_ ?_ _); rotate_left; (first | omega | (simp <;> omega)))))))).mono ?_
            rintro e w1 ⟨rfl, hb⟩
            have X1 := hide (blk_below hb (by simp; omega) (blk_under (blk_new (k := w.heap.size) rfl)))
            have HZ1 := hide (show w.heap.size + 1 < w1.heap.size by have := hb.size; simp at this; omega)
            have q1B : Below w.heap.size w w1 := (by refine Below.trans ?_ (hb.mono (by first | omega | (simp <;> omega))); (repeat (first | (with_reducible first | exact Below.refl _ _ | assumption | refine Below.drew ?_ | refine below_drewN ?_ _) | ((with_reducible first | refine Below.alloc ?_ ?_ _ | refine Below.setCell ?_ ?_ _); rotate_left; (first | omega | (simp <;> omega))))))
            have q1z := hb.size
            try simp at q1z
            have q1t : w.heap.size ≤ w1.heap.size := (by omega)
            have q1s0 : w.heap.size + 1 < w1.heap.size := (by omega)
            have q1n0_0 : ¬ w1.heap.size = w.heap.size + 1 := (by omega)
            have q1n0_1 : ¬ w1.heap.size + 1 = w.heap.size + 1 := (by omega)
            have q1n0_2 : ¬ w1.heap.size + 2 = w.heap.size + 1 := (by omega)
            have q1c0_0 := hb.cell (p := ⟨w.heap.size + 1, 0, none⟩) (by first | omega | (simp <;> omega))
            simp [go_sem, *] at q1c0_0
            have q1c0_1 := hb.cell (p := ⟨w.heap.size + 1, 1, none⟩) (by first | omega | (simp <;> omega))
            simp [go_sem, *] at q1c0_1
            have q1f0 := fun o => hb.frozen (p := ⟨w.heap.size + 1, o, none⟩) (by first | omega | (simp <;> omega))
            simp [go_sem, *] at q1f0
            have q1o : ∀ b o, b < w.heap.size → w1.cell? ⟨b, o, none⟩ = w.cell? ⟨b, o, none⟩ := fun b o h => q1B.cell (p := ⟨b, o, none⟩) h
            clear hb
            go_wp2_with fail
            refine (lives_any _).mono ?_
            rintro e w2 ⟨rfl, hb⟩
            have q2B : Below w.heap.size w w2 := (by refine Below.trans ?_ (hb.mono (by first | omega | (simp <;> omega))); (repeat (first | (with_reducible first | exact Below.refl _ _ | assumption | refine Below.drew ?_ | refine below_drewN ?_ _) | ((with_reducible first | refine Below.alloc ?_ ?_ _ | refine Below.setCell ?_ ?_ _); rotate_left; (first | omega | (simp <;> omega))))))
            have q2z := hb.size
            try simp at q2z
            have q2t : w.heap.size ≤ w2.heap.size := (by omega)
            have q2o : ∀ b o, b < w.heap.size → w2.cell? ⟨b, o, none⟩ = w.cell? ⟨b, o, none⟩ := fun b o h => q2B.cell (p := ⟨b, o, none⟩) h
            clear hb q1o q1f0 q1c0_1 q1c0_0 q1s0 q1z q1B
            go_wp2_with fail
            go_ret
            exact ⟨rfl, q2B⟩
          · have d3 : b ≤ 50 := by omega
            clear c3
            obtain ⟨p, rfl⟩ : ∃ p : Nat, a = p := ⟨a.toNat, by omega⟩
            obtain ⟨q, rfl⟩ : ∃ q : Nat, b = q := ⟨b.toNat, by omega⟩
            obtain ⟨d, hd⟩ : ∃ d, d = f + p := ⟨_, rfl⟩
            obtain ⟨g, hg⟩ : ∃ g, g = d + 1 := ⟨_, rfl⟩
            obtain ⟨t, ht⟩ : ∃ t, t = g + q := ⟨_, rfl⟩
            have x0 : f + (p : Int) = d := hd.symm
            have x1 : d + 1 = g := hg.symm
            have x2 : g + (q : Int) = t := ht.symm
            have HX := hide (And.intro hd (And.intro hg ht))
            have v0 : IntKind.i64.wrap d = d := by rw [i64w]; unfold wrap64; omega
            have v1 : IntKind.i64.wrap g = g := by rw [i64w]; unfold wrap64; omega
            have v2 : IntKind.i64.wrap t = t := by rw [i64w]; unfold wrap64; omega
            have v3 : IntKind.i64.wrap (p : Int) = p := by rw [i64w]; unfold wrap64; omega
            have v4 : IntKind.i64.wrap (q : Int) = q := by rw [i64w]; unfold wrap64; omega
            by_cases he : serE B id f t = 0
            · have HE := hide he
              obtain ⟨n1, hn1⟩ : ∃ n1, n1 = p + 1 := ⟨_, rfl⟩
              obtain ⟨n2, hn2⟩ : ∃ n2, n2 = q + 1 := ⟨_, rfl⟩
              obtain ⟨n, hn⟩ : ∃ n, n = n1 + n2 := ⟨_, rfl⟩
              obtain ⟨L, hL⟩ : ∃ L, L = acrN B id f := ⟨_, rfl⟩
              obtain ⟨M, hM⟩ : ∃ M, M = fun i => L (n1 + i) := ⟨_, rfl⟩
              have HNN := hide (And.intro hn1 (And.intro hn2 hn))
              have HML := hide hM
              have HK := hide (show ∀ i, AcrOk (L i) from fun i => by rw [hL]; exact (acr_ok B id _).1)
              have HK2 := hide (show ∀ i, AcrOk (M i) from fun i => by rw [hM]; exact HK.out _)
              have H1 := hide (fun W h => by have t := ser_n HB.out (f := f) (t := t) (n := n) he (by omega) W h; rw [← hL] at t; exact t)
              have H2 := hide (fun W h => by have t := ser_n HB.out (f := f) (t := d) (n := n1) (ser_part he (by omega) (by omega) (by omega) (by omega)) (by omega) W h; rw [← hL] at t; exact t)
              have H3 := hide (fun W h => by have t := ser_n HB.out (f := g) (t := t) (n := n2) (ser_part he (by omega) (by omega) (by omega) (by omega)) (by omega) W h; rw [show g = f + n1 by omega, acrN_add, ← hL, ← hM, show f + (n1 : Int) = g by omega] at t; exact t)
              have HD := hide (fun (i : Nat) (hi : i < n) W h => by have t := day_any B HB.out id (f + i) W h; unfold DayRet at t; rw [(ser_day he (d := f + i) (by omega) (by omega)).1, (ser_day he (d := f + i) (by omega) (by omega)).2, show acr B id (f + i) = L i by rw [hL]; rfl] at t; exact t)
              have u0 : t - f = (n : Int) - 1 := by omega
              have u1 : IntKind.i64.wrap ((n : Int) - 1) = (n : Int) - 1 := by rw [i64w]; unfold wrap64; omega
              have u2 : (n : Int) - 1 + 1 = n := by omega
              have u3 : IntKind.i64.wrap (n : Int) = n := by rw [i64w]; unfold wrap64; omega
              have u4 : (n1 : Int) + n2 = n := by omega
              have sp := sum_split L n1 n2
              rw [← hM, ← hn] at sp
              have s0 := sum_in (k := n) (by omega) (fun i _ => HK.out i)
              have s1 := sum_in (k := n1) (by omega) (fun i _ => HK.out i)
              have s2 := sum_in (k := n2) (by omega) (fun i _ => HK2.out i)
              have HT0 := hide (tot_n (n := n) (by omega) (fun i _ => HK.out i))
              have HT1 := hide (tot_n (n := n1) (by omega) (fun i _ => HK.out i))
              have HT2 := hide (tot_n (n := n2) (by omega) (fun i _ => HK2.out i))
              have HP1 := hide (add_n s1.1 s2.1 sp.1 s0.1)
              have HP2 := hide (add_n s1.2 s2.2 sp.2 s0.2)
              generalize sumC L n = y1 at *
              generalize sumD L n = y2 at *
              generalize sumC L n1 = y3 at *
              generalize sumD L n1 = y4 at *
              generalize sumC M n2 = y5 at *
              generalize sumD M n2 = y6 at *
              clear hd hg ht hn1 hn2 hn hL hM he sp s0 s1 s2
              go_enter Try.func6, Try.ntmps6
              go_wp2_with (with_reducible refine wpList_load_row rfl 33 (.tmp 4) rfl w.heap.size rfl 33 B.C (0, 0) _ (by repeat (first | exact blk_new rfl | refine blk_under ?_)) Try.underlying33 rfl HS.out ?_)
              refine (HFW.out _ (HA.out.below (by (repeat (first | (with_reducible first | exact Below.refl _ _ | assumption | refine Below.drew ?_ | refine below_drewN ?_ _) | ((with_reducible first | refine Below.alloc ?_ ?_ _ | refine Below.setCell ?_ ?_ _); rotate_left; (first | omega | (simp <;> omega)))))))).mono ?_
              rintro e w1 ⟨rfl, hb⟩
              have X1 := hide (blk_below hb (by simp; omega) (blk_under (blk_new (k := w.heap.size) rfl)))
              have HZ1 := hide (show w.heap.size + 1 < w1.heap.size by have := hb.size; simp at this; omega)
              have q1B : Below w.heap.size w w1 := (by refine Below.trans ?_ (hb.mono (by first | omega | (simp <;> omega))); (repeat (first | (with_reducible first | exact Below.refl _ _ | assumption | refine Below.drew ?_ | refine below_drewN ?_ _) | ((with_reducible first | refine Below.alloc ?_ ?_ _ | refine Below.setCell ?_ ?_ _); rotate_left; (first | omega | (simp <;> omega))))))
              have q1z := hb.size
              try simp at q1z
              have q1t : w.heap.size ≤ w1.heap.size := (by omega)
              have q1s0 : w.heap.size + 1 < w1.heap.size := (by omega)
              have q1n0_0 : ¬ w1.heap.size = w.heap.size + 1 := (by omega)
              have q1n0_1 : ¬ w1.heap.size + 1 = w.heap.size + 1 := (by omega)
              have q1n0_2 : ¬ w1.heap.size + 2 = w.heap.size + 1 := (by omega)
              have q1c0_0 := hb.cell (p := ⟨w.heap.size + 1, 0, none⟩) (by first | omega | (simp <;> omega))
              simp [go_sem, *] at q1c0_0
              have q1c0_1 := hb.cell (p := ⟨w.heap.size + 1, 1, none⟩) (by first | omega | (simp <;> omega))
              simp [go_sem, *] at q1c0_1
              have q1f0 := fun o => hb.frozen (p := ⟨w.heap.size + 1, o, none⟩) (by first | omega | (simp <;> omega))
              simp [go_sem, *] at q1f0
              have q1o : ∀ b o, b < w.heap.size → w1.cell? ⟨b, o, none⟩ = w.cell? ⟨b, o, none⟩ := fun b o h => q1B.cell (p := ⟨b, o, none⟩) h
              clear hb
              go_wp2_with (with_reducible refine wpList_load_row rfl 33 (.tmp 4) rfl w.heap.size rfl 33 B.C (0, 0) _ (X1.out) Try.underlying33 rfl HS.out ?_)
              refine (H1.out _ (HW.out.below q1B)).mono ?_
              rintro e w2 ⟨A1, c1, rfl, hr, hb⟩
              have X2 := hide (blk_below hb (by have := HZ1.out; omega) X1.out)
              have HR1 := hide hr
              have B2 := hide (q1B.trans (hb.mono q1B.size))
              clear hr
              have q2B : Below w.heap.size w w2 := (by refine Below.trans ?_ (hb.mono (by first | omega | (simp <;> omega))); (repeat (first | (with_reducible first | exact Below.refl _ _ | assumption | refine Below.drew ?_ | refine below_drewN ?_ _) | ((with_reducible first | refine Below.alloc ?_ ?_ _ | refine Below.setCell ?_ ?_ _); rotate_left; (first | omega | (simp <;> omega))))))
              have q2z := hb.size
              try simp at q2z
              have q2t : w.heap.size ≤ w2.heap.size := (by omega)
              have q2s0 : w.heap.size + 1 < w2.heap.size := (by omega)
              have q2n0_0 : ¬ w2.heap.size = w.heap.size + 1 := (by omega)
              have q2n0_1 : ¬ w2.heap.size + 1 = w.heap.size + 1 := (by omega)
              have q2n0_2 : ¬ w2.heap.size + 2 = w.heap.size + 1 := (by omega)
              have q2c0_0 := hb.cell (p := ⟨w.heap.size + 1, 0, none⟩) (by first | omega | (simp <;> omega))
              simp [go_sem, *] at q2c0_0
              have q2c0_1 := hb.cell (p := ⟨w.heap.size + 1, 1, none⟩) (by first | omega | (simp <;> omega))
              simp [go_sem, *] at q2c0_1
              have q2f0 := fun o => hb.frozen (p := ⟨w.heap.size + 1, o, none⟩) (by first | omega | (simp <;> omega))
              simp [go_sem, *] at q2f0
              have q2o : ∀ b o, b < w.heap.size → w2.cell? ⟨b, o, none⟩ = w.cell? ⟨b, o, none⟩ := fun b o h => q2B.cell (p := ⟨b, o, none⟩) h
              clear hb q1o q1f0 q1c0_1 q1c0_0 q1s0 q1z q1B
              go_wp2_with (with_reducible refine wpList_load_row rfl 33 (.tmp 4) rfl w.heap.size rfl 33 B.C (0, 0) _ (X2.out) Try.underlying33 rfl HS.out ?_)
              refine (H2.out _ (HW.out.below q2B)).mono ?_
              rintro e w3 ⟨A2, c2, rfl, hr, hb⟩
              have X3 := hide (blk_below hb (by have := HZ1.out; have := q2B.size; omega) X2.out)
              have HR2 := hide hr
              have B3 := hide (hb)
              clear hr
              have q3B : Below w.heap.size w w3 := (by refine Below.trans ?_ (hb.mono (by first | omega | (simp <;> omega))); (repeat (first | (with_reducible first | exact Below.refl _ _ | assumption | refine Below.drew ?_ | refine below_drewN ?_ _) | ((with_reducible first | refine Below.alloc ?_ ?_ _ | refine Below.setCell ?_ ?_ _); rotate_left; (first | omega | (simp <;> omega))))))
              have q3z := hb.size
              try simp at q3z
              have q3t : w.heap.size ≤ w3.heap.size := (by omega)
              have q3s0 : w.heap.size + 1 < w3.heap.size := (by omega)
              have q3n0_0 : ¬ w3.heap.size = w.heap.size + 1 := (by omega)
              have q3n0_1 : ¬ w3.heap.size + 1 = w.heap.size + 1 := (by omega)
              have q3n0_2 : ¬ w3.heap.size + 2 = w.heap.size + 1 := (by omega)
              have q3c0_0 := hb.cell (p := ⟨w.heap.size + 1, 0, none⟩) (by first | omega | (simp <;> omega))
              simp [go_sem, *] at q3c0_0
              have q3c0_1 := hb.cell (p := ⟨w.heap.size + 1, 1, none⟩) (by first | omega | (simp <;> omega))
              simp [go_sem, *] at q3c0_1
              have q3f0 := fun o => hb.frozen (p := ⟨w.heap.size + 1, o, none⟩) (by first | omega | (simp <;> omega))
              simp [go_sem, *] at q3f0
              have q3o : ∀ b o, b < w.heap.size → w3.cell? ⟨b, o, none⟩ = w.cell? ⟨b, o, none⟩ := fun b o h => q3B.cell (p := ⟨b, o, none⟩) h
              clear hb q2o q2f0 q2c0_1 q2c0_0 q2s0 q2z q2B
              go_wp2_with (with_reducible refine wpList_load_row rfl 33 (.tmp 4) rfl w.heap.size rfl 33 B.C (0, 0) _ (X3.out) Try.underlying33 rfl HS.out ?_)
              refine (H3.out _ (HW.out.below q3B)).mono ?_
              rintro e w4 ⟨A3, c3, rfl, hr, hb⟩
              have X4 := hide (blk_below hb (by have := HZ1.out; have := q3B.size; omega) X3.out)
              have HR3 := hide hr
              have HR2 := hide (HR2.out.below hb)
              have HR1 := hide (HR1.out.below (B3.out.trans (hb.mono B3.out.size)))
              clear hr
              have q4B : Below w.heap.size w w4 := (by refine Below.trans ?_ (hb.mono (by first | omega | (simp <;> omega))); (repeat (first | (with_reducible first | exact Below.refl _ _ | assumption | refine Below.drew ?_ | refine below_drewN ?_ _) | ((with_reducible first | refine Below.alloc ?_ ?_ _ | refine Below.setCell ?_ ?_ _); rotate_left; (first | omega | (simp <;> omega))))))
              have q4z := hb.size
              try simp at q4z
              have q4t : w.heap.size ≤ w4.heap.size := (by omega)
              have q4o : ∀ b o, b < w.heap.size → w4.cell? ⟨b, o, none⟩ = w.cell? ⟨b, o, none⟩ := fun b o h => q4B.cell (p := ⟨b, o, none⟩) h
              clear hb q3o q3f0 q3c0_1 q3c0_0 q3s0 q3z q3B
              have B4 := hide q4B
              have HZ4 := hide (show w.heap.size < w4.heap.size by have := HZ1.out; have := q4B.size; omega)
              go_wp2_with fail
              go_loopw [17] (fun v wr => AdI n w4 v wr) (fun v _ => n - (intOf v).toNat)
              case atStart => exact ⟨0, by omega, rfl, by (repeat (first | (with_reducible first | exact Below.refl _ _ | assumption | refine Below.drew ?_ | refine below_drewN ?_ _) | ((with_reducible first | refine Below.alloc ?_ ?_ _ | refine Below.setCell ?_ ?_ _); rotate_left; (first | omega | (simp <;> omega)))))⟩
              case round =>
                obtain ⟨k, hk, rfl, hb⟩ := hrel
                have H0 := hide hb
                have XR := hide (blk_below hb HZ4.out X4.out)
                have BR := hide (B4.out.trans (hb.mono B4.out.size))
                have zr := hb.size
                have hz := HZ4.out
                clear hb
                by_cases hlt : k < n
                · have hm : (k : Int) < n := by omega
                  have HKN := hide hlt
                  have hk0 : (0 : Int) ≤ k := by omega
                  have x5 : IntKind.i64.wrap (f + (k : Int)) = f + k := by have := HX.out; have := HNN.out; rw [i64w]; unfold wrap64; omega
                  have HDk := hide (HD.out k hlt)
                  clear hlt hk
                  go_wp2_with (with_reducible refine wpList_load_row rfl 33 (.tmp 4) rfl w.heap.size rfl 33 B.C (0, 0) _ (XR.out) Try.underlying33 rfl HS.out ?_)
                  refine (HDk.out _ (HW.out.below BR.out)).mono ?_
                  rintro e w5 ⟨rfl, hb⟩
                  have H5 := hide (H0.out.trans (hb.mono H0.out.size))
                  have z5 := hb.size
                  obtain ⟨b, off, rfl, hbl, r0, r1, r2, r3, r4, r5, r6⟩ := (HR1.out.below H5.out).at HKN.out
                  by_cases h1 : k < n1
                  · have m1 : (k : Int) < n1 := by omega
                    have g1 : decide ((k : Int) < n1) = true := decide_eq_true m1
                    have g2 : decide ((n1 : Int) ≤ k) = false := decide_eq_false (by omega)
                    have g3 : decide (n1 ≤ k) = false := decide_eq_false (by omega)
                    have g4 : ¬ (n1 : Int) ≤ k := by omega
                    have g5 : ¬ n1 ≤ k := by omega
                    have g6 := h1
                    obtain ⟨b', off', rfl, hbl2, t0, t1, t2, t3, t4, t5, t6⟩ := (HR2.out.below H5.out).at h1
                    clear h1 hb
                    go_upto_region 16 with fail
                    go_quiet (fail)
                    go_wp2_with fail
                    go_roundw
                    case rel => exact ⟨k + 1, HKN.out, by go_num, H5.out.trans (by (repeat (first | (with_reducible first | exact Below.refl _ _ | assumption | refine Below.drew ?_ | refine below_drewN ?_ _) | ((with_reducible first | refine Below.alloc ?_ ?_ _ | refine Below.setCell ?_ ?_ _); rotate_left; (first | omega | (simp <;> omega))))))⟩
                    case measure => have := HKN.out; simp [intOf]; omega
                  · obtain ⟨j, hkj⟩ : ∃ j, k = n1 + j := ⟨k - n1, by omega⟩
                    have hj : j < n2 := by have := HNN.out; have := HKN.out; omega
                    have HJ := hide hj
                    have m1 : ¬ (k : Int) < n1 := by omega
                    have m2 : (j : Int) < n2 := by omega
                    have m3 : (0 : Int) ≤ j := by omega
                    have g1 : decide ((k : Int) < n1) = false := decide_eq_false m1
                    have g2 : decide ((n1 : Int) ≤ k) = true := decide_eq_true (by omega)
                    have g3 : decide (n1 ≤ k) = true := decide_eq_true (by omega)
                    have g4 : (n1 : Int) ≤ k := by omega
                    have g5 : n1 ≤ k := by omega
                    have g6 : ¬ k < n1 := by omega
                    have g7 : IntKind.i64.wrap ((k : Int) - n1) = j := by have := HX.out; have := HNN.out; rw [i64w]; unfold wrap64; omega
                    obtain ⟨b', off', rfl, hbl2, t0, t1, t2, t3, t4, t5, t6⟩ := (HR3.out.below H5.out).at hj
                    rw [show M j = L k by rw [HML.out, hkj]] at t0 t1 t2 t3 t4 t5 t6
                    clear h1 hj hb hkj
                    go_upto_region 16 with fail
                    go_quiet (fail)
                    go_wp2_with fail
                    go_roundw
                    case rel => exact ⟨k + 1, HKN.out, by go_num, H5.out.trans (by (repeat (first | (with_reducible first | exact Below.refl _ _ | assumption | refine Below.drew ?_ | refine below_drewN ?_ _) | ((with_reducible first | refine Below.alloc ?_ ?_ _ | refine Below.setCell ?_ ?_ _); rotate_left; (first | omega | (simp <;> omega))))))⟩
                    case measure => have := HKN.out; simp [intOf]; omega
                · obtain rfl : k = n := by omega
                  clear hlt hk
                  rename World => w5
                  go_wp2_with fail
                  refine (HT0.out A1 c1 _ (HR1.out.below H0.out)).mono ?_
                  rintro e w6 ⟨rfl, hb⟩
                  have B6 := hide (H0.out.trans (hb.mono H0.out.size))
                  have q6B : Below w5.heap.size w5 w6 := (by refine Below.trans ?_ (hb.mono (by first | omega | (simp <;> omega))); (repeat (first | (with_reducible first | exact Below.refl _ _ | assumption | refine Below.drew ?_ | refine below_drewN ?_ _) | ((with_reducible first | refine Below.alloc ?_ ?_ _ | refine Below.setCell ?_ ?_ _); rotate_left; (first | omega | (simp <;> omega))))))
                  have q6z := hb.size
                  try simp at q6z
                  have q6t : w5.heap.size ≤ w6.heap.size := (by omega)
                  have q6o : ∀ b o, b < w5.heap.size → w6.cell? ⟨b, o, none⟩ = w5.cell? ⟨b, o, none⟩ := fun b o h => q6B.cell (p := ⟨b, o, none⟩) h
                  clear hb
                  go_wp2_with fail
                  refine (HT1.out A2 c2 _ (HR2.out.below (B6.out.trans (by (repeat (first | (with_reducible first | exact Below.refl _ _ | assumption | refine Below.drew ?_ | refine below_drewN ?_ _) | ((with_reducible first | refine Below.alloc ?_ ?_ _ | refine Below.setCell ?_ ?_ _); rotate_left; (first | omega | (simp <;> omega))))))))).mono ?_
                  rintro e w7 ⟨rfl, hb⟩
                  have q7B : Below w5.heap.size w5 w7 := (by refine Below.trans ?_ (hb.mono (by first | omega | (simp <;> omega))); (repeat (first | (with_reducible first | exact Below.refl _ _ | assumption | refine Below.drew ?_ | refine below_drewN ?_ _) | ((with_reducible first | refine Below.alloc ?_ ?_ _ | refine Below.setCell ?_ ?_ _); rotate_left; (first | omega | (simp <;> omega))))))
                  have q7z := hb.size
                  try simp at q7z
                  have q7t : w5.heap.size ≤ w7.heap.size := (by omega)
                  have q7s0 : w6.heap.size < w7.heap.size := (by omega)
                  have q7n0_0 : ¬ w7.heap.size = w6.heap.size := (by omega)
                  have q7n0_1 : ¬ w7.heap.size + 1 = w6.heap.size := (by omega)
                  have q7n0_2 : ¬ w7.heap.size + 2 = w6.heap.size := (by omega)
                  have q7c0_0 := hb.cell (p := ⟨w6.heap.size, 0, none⟩) (by first | omega | (simp <;> omega))
                  simp [go_sem, *] at q7c0_0
                  have q7c0_1 := hb.cell (p := ⟨w6.heap.size, 1, none⟩) (by first | omega | (simp <;> omega))
                  simp [go_sem, *] at q7c0_1
                  have q7f0 := fun o => hb.frozen (p := ⟨w6.heap.size, o, none⟩) (by first | omega | (simp <;> omega))
                  simp [go_sem, *] at q7f0
                  have q7s1 : w6.heap.size + 1 < w7.heap.size := (by omega)
                  have q7n1_0 : ¬ w7.heap.size = w6.heap.size + 1 := (by omega)
                  have q7n1_1 : ¬ w7.heap.size + 1 = w6.heap.size + 1 := (by omega)
                  have q7n1_2 : ¬ w7.heap.size + 2 = w6.heap.size + 1 := (by omega)
                  have q7c1_0 := hb.cell (p := ⟨w6.heap.size + 1, 0, none⟩) (by first | omega | (simp <;> omega))
                  simp [go_sem, *] at q7c1_0
                  have q7c1_1 := hb.cell (p := ⟨w6.heap.size + 1, 1, none⟩) (by first | omega | (simp <;> omega))
                  simp [go_sem, *] at q7c1_1
                  have q7f1 := fun o => hb.frozen (p := ⟨w6.heap.size + 1, o, none⟩) (by first | omega | (simp <;> omega))
                  simp [go_sem, *] at q7f1
                  have q7o : ∀ b o, b < w5.heap.size → w7.cell? ⟨b, o, none⟩ = w5.cell? ⟨b, o, none⟩ := fun b o h => q7B.cell (p := ⟨b, o, none⟩) h
                  clear hb q6o q6z q6B
                  have hz67 := q7z
                  go_wp2_with fail
                  refine (HT2.out A3 c3 _ (HR3.out.below (H0.out.trans (by have h5 := H0.out.size; have h7 := q7B.mono h5; have h8 := q7z; (repeat (first | (with_reducible first | exact Below.refl _ _ | assumption | refine Below.drew ?_ | refine below_drewN ?_ _) | ((with_reducible first | refine Below.alloc ?_ ?_ _ | refine Below.setCell ?_ ?_ _); rotate_left; (first | omega | (simp <;> omega))))))))).mono ?_
                  rintro e w8 ⟨rfl, hb⟩
                  have q8B : Below w5.heap.size w5 w8 := (by refine Below.trans ?_ (hb.mono (by first | omega | (simp <;> omega))); (repeat (first | (with_reducible first | exact Below.refl _ _ | assumption | refine Below.drew ?_ | refine below_drewN ?_ _) | ((with_reducible first | refine Below.alloc ?_ ?_ _ | refine Below.setCell ?_ ?_ _); rotate_left; (first | omega | (simp <;> omega))))))
                  have q8z := hb.size
                  try simp at q8z
                  have q8t : w5.heap.size ≤ w8.heap.size := (by omega)
                  have q8s0 : w6.heap.size < w8.heap.size := (by omega)
                  have q8n0_0 : ¬ w8.heap.size = w6.heap.size := (by omega)
                  have q8n0_1 : ¬ w8.heap.size + 1 = w6.heap.size := (by omega)
                  have q8n0_2 : ¬ w8.heap.size + 2 = w6.heap.size := (by omega)
                  have q8c0_0 := hb.cell (p := ⟨w6.heap.size, 0, none⟩) (by first | omega | (simp <;> omega))
                  simp [go_sem, *] at q8c0_0
                  have q8c0_1 := hb.cell (p := ⟨w6.heap.size, 1, none⟩) (by first | omega | (simp <;> omega))
                  simp [go_sem, *] at q8c0_1
                  have q8f0 := fun o => hb.frozen (p := ⟨w6.heap.size, o, none⟩) (by first | omega | (simp <;> omega))
                  simp [go_sem, *] at q8f0
                  have q8s1 : w6.heap.size + 1 < w8.heap.size := (by omega)
                  have q8n1_0 : ¬ w8.heap.size = w6.heap.size + 1 := (by omega)
                  have q8n1_1 : ¬ w8.heap.size + 1 = w6.heap.size + 1 := (by omega)
                  have q8n1_2 : ¬ w8.heap.size + 2 = w6.heap.size + 1 := (by omega)
                  have q8c1_0 := hb.cell (p := ⟨w6.heap.size + 1, 0, none⟩) (by first | omega | (simp <;> omega))
                  simp [go_sem, *] at q8c1_0
                  have q8c1_1 := hb.cell (p := ⟨w6.heap.size + 1, 1, none⟩) (by first | omega | (simp <;> omega))
                  simp [go_sem, *] at q8c1_1
                  have q8f1 := fun o => hb.frozen (p := ⟨w6.heap.size + 1, o, none⟩) (by first | omega | (simp <;> omega))
                  simp [go_sem, *] at q8f1
                  have q8s2 : w7.heap.size < w8.heap.size := (by omega)
                  have q8n2_0 : ¬ w8.heap.size = w7.heap.size := (by omega)
                  have q8n2_1 : ¬ w8.heap.size + 1 = w7.heap.size := (by omega)
                  have q8n2_2 : ¬ w8.heap.size + 2 = w7.heap.size := (by omega)
                  have q8c2_0 := hb.cell (p := ⟨w7.heap.size, 0, none⟩) (by first | omega | (simp <;> omega))
                  simp [go_sem, *] at q8c2_0
                  have q8c2_1 := hb.cell (p := ⟨w7.heap.size, 1, none⟩) (by first | omega | (simp <;> omega))
                  simp [go_sem, *] at q8c2_1
                  have q8f2 := fun o => hb.frozen (p := ⟨w7.heap.size, o, none⟩) (by first | omega | (simp <;> omega))
                  simp [go_sem, *] at q8f2
                  have q8s3 : w7.heap.size + 1 < w8.heap.size := (by omega)
                  have q8n3_0 : ¬ w8.heap.size = w7.heap.size + 1 := (by omega)
                  have q8n3_1 : ¬ w8.heap.size + 1 = w7.heap.size + 1 := (by omega)
                  have q8n3_2 : ¬ w8.heap.size + 2 = w7.heap.size + 1 := (by omega)
                  have q8c3_0 := hb.cell (p := ⟨w7.heap.size + 1, 0, none⟩) (by first | omega | (simp <;> omega))
                  simp [go_sem, *] at q8c3_0
                  have q8c3_1 := hb.cell (p := ⟨w7.heap.size + 1, 1, none⟩) (by first | omega | (simp <;> omega))
                  simp [go_sem, *] at q8c3_1
                  have q8f3 := fun o => hb.frozen (p := ⟨w7.heap.size + 1, o, none⟩) (by first | omega | (simp <;> omega))
                  simp [go_sem, *] at q8f3
                  have q8o : ∀ b o, b < w5.heap.size → w8.cell? ⟨b, o, none⟩ = w5.cell? ⟨b, o, none⟩ := fun b o h => q8B.cell (p := ⟨b, o, none⟩) h
                  clear hb q7o q7f1 q7c1_1 q7c1_0 q7s1 q7f0 q7c0_1 q7c0_0 q7s0 q7z q7B
                  go_wp2_with fail
                  refine (HP1.out _).mono ?_
                  rintro e w9 ⟨rfl, hb⟩
                  have q9B : Below w5.heap.size w5 w9 := (by refine Below.trans ?_ (hb.mono (by first | omega | (simp <;> omega))); (repeat (first | (with_reducible first | exact Below.refl _ _ | assumption | refine Below.drew ?_ | refine below_drewN ?_ _) | ((with_reducible first | refine Below.alloc ?_ ?_ _ | refine Below.setCell ?_ ?_ _); rotate_left; (first | omega | (simp <;> omega))))))
                  have q9z := hb.size
                  try simp at q9z
                  have q9t : w5.heap.size ≤ w9.heap.size := (by omega)
                  have q9s0 : w6.heap.size < w9.heap.size := (by omega)
                  have q9n0_0 : ¬ w9.heap.size = w6.heap.size := (by omega)
                  have q9n0_1 : ¬ w9.heap.size + 1 = w6.heap.size := (by omega)
                  have q9n0_2 : ¬ w9.heap.size + 2 = w6.heap.size := (by omega)
                  have q9c0_0 := hb.cell (p := ⟨w6.heap.size, 0, none⟩) (by first | omega | (simp <;> omega))
                  simp [go_sem, *] at q9c0_0
                  have q9c0_1 := hb.cell (p := ⟨w6.heap.size, 1, none⟩) (by first | omega | (simp <;> omega))
                  simp [go_sem, *] at q9c0_1
                  have q9f0 := fun o => hb.frozen (p := ⟨w6.heap.size, o, none⟩) (by first | omega | (simp <;> omega))
                  simp [go_sem, *] at q9f0
                  have q9s1 : w6.heap.size + 1 < w9.heap.size := (by omega)
                  have q9n1_0 : ¬ w9.heap.size = w6.heap.size + 1 := (by omega)
                  have q9n1_1 : ¬ w9.heap.size + 1 = w6.heap.size + 1 := (by omega)
                  have q9n1_2 : ¬ w9.heap.size + 2 = w6.heap.size + 1 := (by omega)
                  have q9c1_0 := hb.cell (p := ⟨w6.heap.size + 1, 0, none⟩) (by first | omega | (simp <;> omega))
                  simp [go_sem, *] at q9c1_0
                  have q9c1_1 := hb.cell (p := ⟨w6.heap.size + 1, 1, none⟩) (by first | omega | (simp <;> omega))
                  simp [go_sem, *] at q9c1_1
                  have q9f1 := fun o => hb.frozen (p := ⟨w6.heap.size + 1, o, none⟩) (by first | omega | (simp <;> omega))
                  simp [go_sem, *] at q9f1
                  have q9s2 : w7.heap.size < w9.heap.size := (by omega)
                  have q9n2_0 : ¬ w9.heap.size = w7.heap.size := (by omega)
                  have q9n2_1 : ¬ w9.heap.size + 1 = w7.heap.size := (by omega)
                  have q9n2_2 : ¬ w9.heap.size + 2 = w7.heap.size := (by omega)
                  have q9c2_0 := hb.cell (p := ⟨w7.heap.size, 0, none⟩) (by first | omega | (simp <;> omega))
                  simp [go_sem, *] at q9c2_0
                  have q9c2_1 := hb.cell (p := ⟨w7.heap.size, 1, none⟩) (by first | omega | (simp <;> omega))
                  simp [go_sem, *] at q9c2_1
                  have q9f2 := fun o => hb.frozen (p := ⟨w7.heap.size, o, none⟩) (by first | omega | (simp <;> omega))
                  simp [go_sem, *] at q9f2
                  have q9s3 : w7.heap.size + 1 < w9.heap.size := (by omega)
                  have q9n3_0 : ¬ w9.heap.size = w7.heap.size + 1 := (by omega)
                  have q9n3_1 : ¬ w9.heap.size + 1 = w7.heap.size + 1 := (by omega)
                  have q9n3_2 : ¬ w9.heap.size + 2 = w7.heap.size + 1 := (by omega)
                  have q9c3_0 := hb.cell (p := ⟨w7.heap.size + 1, 0, none⟩) (by first | omega | (simp <;> omega))
                  simp [go_sem, *] at q9c3_0
                  have q9c3_1 := hb.cell (p := ⟨w7.heap.size + 1, 1, none⟩) (by first | omega | (simp <;> omega))
                  simp [go_sem, *] at q9c3_1
                  have q9f3 := fun o => hb.frozen (p := ⟨w7.heap.size + 1, o, none⟩) (by first | omega | (simp <;> omega))
                  simp [go_sem, *] at q9f3
                  have q9s4 : w8.heap.size < w9.heap.size := (by omega)
                  have q9n4_0 : ¬ w9.heap.size = w8.heap.size := (by omega)
                  have q9n4_1 : ¬ w9.heap.size + 1 = w8.heap.size := (by omega)
                  have q9n4_2 : ¬ w9.heap.size + 2 = w8.heap.size := (by omega)
                  have q9c4_0 := hb.cell (p := ⟨w8.heap.size, 0, none⟩) (by first | omega | (simp <;> omega))
                  simp [go_sem, *] at q9c4_0
                  have q9c4_1 := hb.cell (p := ⟨w8.heap.size, 1, none⟩) (by first | omega | (simp <;> omega))
                  simp [go_sem, *] at q9c4_1
                  have q9f4 := fun o => hb.frozen (p := ⟨w8.heap.size, o, none⟩) (by first | omega | (simp <;> omega))
                  simp [go_sem, *] at q9f4
                  have q9s5 : w8.heap.size + 1 < w9.heap.size := (by omega)
                  have q9n5_0 : ¬ w9.heap.size = w8.heap.size + 1 := (by omega)
                  have q9n5_1 : ¬ w9.heap.size + 1 = w8.heap.size + 1 := (by omega)
                  have q9n5_2 : ¬ w9.heap.size + 2 = w8.heap.size + 1 := (by omega)
                  have q9c5_0 := hb.cell (p := ⟨w8.heap.size + 1, 0, none⟩) (by first | omega | (simp <;> omega))
                  simp [go_sem, *] at q9c5_0
                  have q9c5_1 := hb.cell (p := ⟨w8.heap.size + 1, 1, none⟩) (by first | omega | (simp <;> omega))
                  simp [go_sem, *] at q9c5_1
                  have q9f5 := fun o => hb.frozen (p := ⟨w8.heap.size + 1, o, none⟩) (by first | omega | (simp <;> omega))
                  simp [go_sem, *] at q9f5
                  have q9o : ∀ b o, b < w5.heap.size → w9.cell? ⟨b, o, none⟩ = w5.cell? ⟨b, o, none⟩ := fun b o h => q9B.cell (p := ⟨b, o, none⟩) h
                  clear hb q8o q8f3 q8c3_1 q8c3_0 q8s3 q8f2 q8c2_1 q8c2_0 q8s2 q8f1 q8c1_1 q8c1_0 q8s1 q8f0 q8c0_1 q8c0_0 q8s0 q8z q8B
                  go_wp2_with fail
                  refine (HP2.out _).mono ?_
                  rintro e w10 ⟨rfl, hb⟩
                  have q10B : Below w5.heap.size w5 w10 := (by refine Below.trans ?_ (hb.mono (by first | omega | (simp <;> omega))); (repeat (first | (with_reducible first | exact Below.refl _ _ | assumption | refine Below.drew ?_ | refine below_drewN ?_ _) | ((with_reducible first | refine Below.alloc ?_ ?_ _ | refine Below.setCell ?_ ?_ _); rotate_left; (first | omega | (simp <;> omega))))))
                  have q10z := hb.size
                  try simp at q10z
                  have q10t : w5.heap.size ≤ w10.heap.size := (by omega)
                  have q10s0 : w6.heap.size < w10.heap.size := (by omega)
                  have q10n0_0 : ¬ w10.heap.size = w6.heap.size := (by omega)
                  have q10n0_1 : ¬ w10.heap.size + 1 = w6.heap.size := (by omega)
                  have q10n0_2 : ¬ w10.heap.size + 2 = w6.heap.size := (by omega)
                  have q10c0_0 := hb.cell (p := ⟨w6.heap.size, 0, none⟩) (by first | omega | (simp <;> omega))
                  simp [go_sem, *] at q10c0_0
                  have q10c0_1 := hb.cell (p := ⟨w6.heap.size, 1, none⟩) (by first | omega | (simp <;> omega))
                  simp [go_sem, *] at q10c0_1
                  have q10f0 := fun o => hb.frozen (p := ⟨w6.heap.size, o, none⟩) (by first | omega | (simp <;> omega))
                  simp [go_sem, *] at q10f0
                  have q10s1 : w6.heap.size + 1 < w10.heap.size := (by omega)
                  have q10n1_0 : ¬ w10.heap.size = w6.heap.size + 1 := (by omega)
                  have q10n1_1 : ¬ w10.heap.size + 1 = w6.heap.size + 1 := (by omega)
                  have q10n1_2 : ¬ w10.heap.size + 2 = w6.heap.size + 1 := (by omega)
                  have q10c1_0 := hb.cell (p := ⟨w6.heap.size + 1, 0, none⟩) (by first | omega | (simp <;> omega))
                  simp [go_sem, *] at q10c1_0
                  have q10c1_1 := hb.cell (p := ⟨w6.heap.size + 1, 1, none⟩) (by first | omega | (simp <;> omega))
                  simp [go_sem, *] at q10c1_1
                  have q10f1 := fun o => hb.frozen (p := ⟨w6.heap.size + 1, o, none⟩) (by first | omega | (simp <;> omega))
                  simp [go_sem, *] at q10f1
                  have q10s2 : w9.heap.size < w10.heap.size := (by omega)
                  have q10n2_0 : ¬ w10.heap.size = w9.heap.size := (by omega)
                  have q10n2_1 : ¬ w10.heap.size + 1 = w9.heap.size := (by omega)
                  have q10n2_2 : ¬ w10.heap.size + 2 = w9.heap.size := (by omega)
                  have q10c2_0 := hb.cell (p := ⟨w9.heap.size, 0, none⟩) (by first | omega | (simp <;> omega))
                  simp [go_sem, *] at q10c2_0
                  have q10c2_1 := hb.cell (p := ⟨w9.heap.size, 1, none⟩) (by first | omega | (simp <;> omega))
                  simp [go_sem, *] at q10c2_1
                  have q10f2 := fun o => hb.frozen (p := ⟨w9.heap.size, o, none⟩) (by first | omega | (simp <;> omega))
                  simp [go_sem, *] at q10f2
                  have q10o : ∀ b o, b < w5.heap.size → w10.cell? ⟨b, o, none⟩ = w5.cell? ⟨b, o, none⟩ := fun b o h => q10B.cell (p := ⟨b, o, none⟩) h
                  clear hb q9o q9f5 q9c5_1 q9c5_0 q9s5 q9f4 q9c4_1 q9c4_0 q9s4 q9f3 q9c3_1 q9c3_0 q9s3 q9f2 q9c2_1 q9c2_0 q9s2 q9f1 q9c1_1 q9c1_0 q9s1 q9f0 q9c0_1 q9c0_0 q9s0 q9z q9B
                  go_wp2_with fail
                  refine (lives_any _).mono ?_
                  rintro e w11 ⟨rfl, hb⟩
                  have q11B : Below w5.heap.size w5 w11 := (by refine Below.trans ?_ (hb.mono (by first | omega | (simp <;> omega))); (repeat (first | (with_reducible first | exact Below.refl _ _ | assumption | refine Below.drew ?_ | refine below_drewN ?_ _) | ((with_reducible first | refine Below.alloc ?_ ?_ _ | refine Below.setCell ?_ ?_ _); rotate_left; (first | omega | (simp <;> omega))))))
                  have q11z := hb.size
                  try simp at q11z
                  have q11t : w5.heap.size ≤ w11.heap.size := (by omega)
                  have q11o : ∀ b o, b < w5.heap.size → w11.cell? ⟨b, o, none⟩ = w5.cell? ⟨b, o, none⟩ := fun b o h => q11B.cell (p := ⟨b, o, none⟩) h
                  clear hb q10o q10f2 q10c2_1 q10c2_0 q10s2 q10f1 q10c1_1 q10c1_0 q10s1 q10f0 q10c0_1 q10c0_0 q10s0 q10z q10B
                  go_wp2_with fail
                  go_ret
                  exact ⟨rfl, BR.out.trans (q11B.mono BR.out.size)⟩
            · obtain ⟨hc, hl⟩ := ser_bad he d0 d1 (by omega) (by omega)
              have H0 := hide (fun W h => by have t := series_any B HB.out id f t W h; unfold SerRet at t; rw [hl] at t; exact t)
              clear hl he
              generalize serE B id f t = E at *
              clear hd hg ht
              rcases hc with rfl | ⟨rfl, hc⟩
              · go_enter Try.func6, Try.ntmps6
                go_wp2_with (with_reducible refine wpList_load_row rfl 33 (.tmp 4) rfl w.heap.size rfl 33 B.C (0, 0) _ (by repeat (first | exact blk_new rfl | refine blk_under ?_)) Try.underlying33 rfl HS.out ?_)
                refine (HFW.out _ (HA.out.below (by (repeat (first | (with_reducible first | exact Below.refl _ _ | assumption | refine Below.drew ?_ | refine below_drewN ?_ _) | ((with_reducible first | refine Below.alloc ?_ ?_ _ | refine Below.setCell ?_ ?_ _); rotate_left; (first | omega | (simp <;> omega)))))))).mono ?_
                rintro e w1 ⟨rfl, hb⟩
                have X1 := hide (blk_below hb (by simp; omega) (blk_under (blk_new (k := w.heap.size) rfl)))
                have HZ1 := hide (show w.heap.size + 1 < w1.heap.size by have := hb.size; simp at this; omega)
                have q1B : Below w.heap.size w w1 := (by refine Below.trans ?_ (hb.mono (by first | omega | (simp <;> omega))); (repeat (first | (with_reducible first | exact Below.refl _ _ | assumption | refine Below.drew ?_ | refine below_drewN ?_ _) | ((with_reducible first | refine Below.alloc ?_ ?_ _ | refine Below.setCell ?_ ?_ _); rotate_left; (first | omega | (simp <;> omega))))))
                have q1z := hb.size
                try simp at q1z
                have q1t : w.heap.size ≤ w1.heap.size := (by omega)
                have q1s0 : w.heap.size + 1 < w1.heap.size := (by omega)
                have q1n0_0 : ¬ w1.heap.size = w.heap.size + 1 := (by omega)
                have q1n0_1 : ¬ w1.heap.size + 1 = w.heap.size + 1 := (by omega)
                have q1n0_2 : ¬ w1.heap.size + 2 = w.heap.size + 1 := (by omega)
                have q1c0_0 := hb.cell (p := ⟨w.heap.size + 1, 0, none⟩) (by first | omega | (simp <;> omega))
                simp [go_sem, *] at q1c0_0
                have q1c0_1 := hb.cell (p := ⟨w.heap.size + 1, 1, none⟩) (by first | omega | (simp <;> omega))
                simp [go_sem, *] at q1c0_1
                have q1f0 := fun o => hb.frozen (p := ⟨w.heap.size + 1, o, none⟩) (by first | omega | (simp <;> omega))
                simp [go_sem, *] at q1f0
                have q1o : ∀ b o, b < w.heap.size → w1.cell? ⟨b, o, none⟩ = w.cell? ⟨b, o, none⟩ := fun b o h => q1B.cell (p := ⟨b, o, none⟩) h
                clear hb
                go_wp2_with (with_reducible refine wpList_load_row rfl 33 (.tmp 4) rfl w.heap.size rfl 33 B.C (0, 0) _ (X1.out) Try.underlying33 rfl HS.out ?_)
                refine (H0.out _ (HW.out.below q1B)).mono ?_
                rintro e w2 ⟨A1, c1, rfl, hr, hb⟩
                clear hr
                have q2B : Below w.heap.size w w2 := (by refine Below.trans ?_ (hb.mono (by first | omega | (simp <;> omega))); (repeat (first | (with_reducible first | exact Below.refl _ _ | assumption | refine Below.drew ?_ | refine below_drewN ?_ _) | ((with_reducible first | refine Below.alloc ?_ ?_ _ | refine Below.setCell ?_ ?_ _); rotate_left; (first | omega | (simp <;> omega))))))
                have q2z := hb.size
                try simp at q2z
                have q2t : w.heap.size ≤ w2.heap.size := (by omega)
                have q2o : ∀ b o, b < w.heap.size → w2.cell? ⟨b, o, none⟩ = w.cell? ⟨b, o, none⟩ := fun b o h => q2B.cell (p := ⟨b, o, none⟩) h
                clear hb q1o q1f0 q1c0_1 q1c0_0 q1s0 q1z q1B
                go_wp2_with fail
                refine (lives_any _).mono ?_
                rintro e w3 ⟨rfl, hb⟩
                have q3B : Below w.heap.size w w3 := (by refine Below.trans ?_ (hb.mono (by first | omega | (simp <;> omega))); (repeat (first | (with_reducible first | exact Below.refl _ _ | assumption | refine Below.drew ?_ | refine below_drewN ?_ _) | ((with_reducible first | refine Below.alloc ?_ ?_ _ | refine Below.setCell ?_ ?_ _); rotate_left; (first | omega | (simp <;> omega))))))
                have q3z := hb.size
                try simp at q3z
                have q3t : w.heap.size ≤ w3.heap.size := (by omega)
                have q3o : ∀ b o, b < w.heap.size → w3.cell? ⟨b, o, none⟩ = w.cell? ⟨b, o, none⟩ := fun b o h => q3B.cell (p := ⟨b, o, none⟩) h
                clear hb q2o q2z q2B
                go_wp2_with fail
                go_ret
                exact ⟨rfl, q3B⟩
              · go_enter Try.func6, Try.ntmps6
                go_wp2_with (with_reducible refine wpList_load_row rfl 33 (.tmp 4) rfl w.heap.size rfl 33 B.C (0, 0) _ (by repeat (first | exact blk_new rfl | refine blk_under ?_)) Try.underlying33 rfl HS.out ?_)
                refine (HFW.out _ (HA.out.below (by (repeat (first | (with_reducible first | exact Below.refl _ _ | assumption | refine Below.drew ?_ | refine below_drewN ?_ _) | ((with_reducible first | refine Below.alloc ?_ ?_ _ | refine Below.setCell ?_ ?_ _); rotate_left; (first | omega | (simp <;> omega)))))))).mono ?_
                rintro e w1 ⟨rfl, hb⟩
                have X1 := hide (blk_below hb (by simp; omega) (blk_under (blk_new (k := w.heap.size) rfl)))
                have HZ1 := hide (show w.heap.size + 1 < w1.heap.size by have := hb.size; simp at this; omega)
                have q1B : Below w.heap.size w w1 := (by refine Below.trans ?_ (hb.mono (by first | omega | (simp <;> omega))); (repeat (first | (with_reducible first | exact Below.refl _ _ | assumption | refine Below.drew ?_ | refine below_drewN ?_ _) | ((with_reducible first | refine Below.alloc ?_ ?_ _ | refine Below.setCell ?_ ?_ _); rotate_left; (first | omega | (simp <;> omega))))))
                have q1z := hb.size
                try simp at q1z
                have q1t : w.heap.size ≤ w1.heap.size := (by omega)
                have q1s0 : w.heap.size + 1 < w1.heap.size := (by omega)
                have q1n0_0 : ¬ w1.heap.size = w.heap.size + 1 := (by omega)
                have q1n0_1 : ¬ w1.heap.size + 1 = w.heap.size + 1 := (by omega)
                have q1n0_2 : ¬ w1.heap.size + 2 = w.heap.size + 1 := (by omega)
                have q1c0_0 := hb.cell (p := ⟨w.heap.size + 1, 0, none⟩) (by first | omega | (simp <;> omega))
                simp [go_sem, *] at q1c0_0
                have q1c0_1 := hb.cell (p := ⟨w.heap.size + 1, 1, none⟩) (by first | omega | (simp <;> omega))
                simp [go_sem, *] at q1c0_1
                have q1f0 := fun o => hb.frozen (p := ⟨w.heap.size + 1, o, none⟩) (by first | omega | (simp <;> omega))
                simp [go_sem, *] at q1f0
                have q1o : ∀ b o, b < w.heap.size → w1.cell? ⟨b, o, none⟩ = w.cell? ⟨b, o, none⟩ := fun b o h => q1B.cell (p := ⟨b, o, none⟩) h
                clear hb
                go_wp2_with (with_reducible refine wpList_load_row rfl 33 (.tmp 4) rfl w.heap.size rfl 33 B.C (0, 0) _ (X1.out) Try.underlying33 rfl HS.out ?_)
                refine (H0.out _ (HW.out.below q1B)).mono ?_
                rintro e w2 ⟨A1, c1, rfl, hr, hb⟩
                clear hr
                have q2B : Below w.heap.size w w2 := (by refine Below.trans ?_ (hb.mono (by first | omega | (simp <;> omega))); (repeat (first | (with_reducible first | exact Below.refl _ _ | assumption | refine Below.drew ?_ | refine below_drewN ?_ _) | ((with_reducible first | refine Below.alloc ?_ ?_ _ | refine Below.setCell ?_ ?_ _); rotate_left; (first | omega | (simp <;> omega))))))
                have q2z := hb.size
                try simp at q2z
                have q2t : w.heap.size ≤ w2.heap.size := (by omega)
                have q2o : ∀ b o, b < w.heap.size → w2.cell? ⟨b, o, none⟩ = w.cell? ⟨b, o, none⟩ := fun b o h => q2B.cell (p := ⟨b, o, none⟩) h
                clear hb q1o q1f0 q1c0_1 q1c0_0 q1s0 q1z q1B
                go_wp2_with fail
                refine (lives_any _).mono ?_
                rintro e w3 ⟨rfl, hb⟩
                have q3B : Below w.heap.size w w3 := (by refine Below.trans ?_ (hb.mono (by first | omega | (simp <;> omega))); (repeat (first | (with_reducible first | exact Below.refl _ _ | assumption | refine Below.drew ?_ | refine below_drewN ?_ _) | ((with_reducible first | refine Below.alloc ?_ ?_ _ | refine Below.setCell ?_ ?_ _); rotate_left; (first | omega | (simp <;> omega))))))
                have q3z := hb.size
                try simp at q3z
                have q3t : w.heap.size ≤ w3.heap.size := (by omega)
                have q3o : ∀ b o, b < w.heap.size → w3.cell? ⟨b, o, none⟩ = w.cell? ⟨b, o, none⟩ := fun b o h => q3B.cell (p := ⟨b, o, none⟩) h
                clear hb q2o q2z q2B
                go_wp2_with fail
                go_ret
                exact ⟨rfl, q3B⟩
end Go.Proofs.Ytfolccncegejjaa
