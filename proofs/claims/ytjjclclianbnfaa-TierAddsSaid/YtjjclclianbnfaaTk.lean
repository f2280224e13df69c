/- The walk of the statement TierAdds. -/
import Derived.Test.YtjjclclianbnfaaTj
import Derived.Test.YtjjclclianbnfaaSlL
namespace Go.Proofs.Ytjjclclianbnfaa
open Go.RowKit

theorem gr_bad {n : Nat} {f g : Nat → Int} {t : Int} (hn : n ≤ 6) (h : ¬ allS n f g) : grE n f g t = 1 ∧ grR n f g t = 0 := gr_1 hn (fun hh => h hh.1)
set_option maxHeartbeats 1000000 in
theorem walk_adds (A : Option Addr) (n c : Nat) (f g : Nat → Int) (u : Int) (u1 : 0 ≤ u) (u2 : u ≤ 4294967295) (v : Int) (v1 : 0 ≤ v) (v2 : v ≤ 4294967295) (w : World) (hr : Row2 w A n f g) (hib : IB n f g) :
    Calls Try.prog 8 #[.slice A n c, .int .u32 u, .int .u32 v] w fun e w' => e = .returned (.bool true) ∧ Below w.heap.size w w' := by
  by_cases hgood : n ≤ 6 ∧ allS n f g
  · obtain ⟨hn, ha⟩ := hgood
    obtain ⟨x, hxu, x1, x2⟩ : ∃ x, x = u % 1073741824 ∧ 0 ≤ x ∧ x < 1073741824 := ⟨_, rfl, by omega, by omega⟩
    obtain ⟨y, hyv, y1, y2⟩ : ∃ y, y = v % 1073741824 ∧ 0 ≤ y ∧ y < 1073741824 := ⟨_, rfl, by omega, by omega⟩
    have hwr : IntKind.i64.wrap (x + y) = x + y := by rw [IntKind.wrap_i64]; omega
    have tx : wtOk x := ⟨by omega, by omega⟩
    have ty : wtOk y := ⟨by omega, by omega⟩
    have txy : wtOk (x + y) := ⟨by omega, by omega⟩
    have HX := hide (gr_0 (t := x) hn ⟨ha, tx⟩)
    have HY := hide (gr_0 (t := y) hn ⟨ha, ty⟩)
    have HZ := hide (gr_0 (t := x + y) hn ⟨ha, txy⟩)
    have hwx := gsum_win hn (fun j hj => (hib j hj).1) ha tx
    have hwy := gsum_win hn (fun j hj => (hib j hj).1) ha ty
    have HA := hide (gsum_adds (f := f) (g := g) (a := x) (b := y) n)
    have HF := hide (fitR_of (show WIn (gsum f g x n + gsum f g y n) from by rw [← HA.out]; exact gsum_win hn (fun j hj => (hib j hj).1) ha txy))
    have HE := hide (fitE_of (show WIn (gsum f g x n + gsum f g y n) from by rw [← HA.out]; exact gsum_win hn (fun j hj => (hib j hj).1) ha txy))
    have HIB := hide hib
    clear hib ha tx ty txy
    go_enter Try.func8, Try.ntmps8
    go_wp2_with fail
    rw [← hxu, ← hyv]
    have HU := hide hxu
    have HV := hide hyv
    clear hxu hyv
    refine (tgrains_all A n c f g x _ hr HIB.out).mono ?_
    rintro e w1 ⟨rfl, hb⟩
    rw [HX.out.1, HX.out.2]
    have q1B : Below w.heap.size w w1 := (by refine Below.trans ?_ (hb.mono (by first | omega | (simp <;> omega))); (repeat (first | (with_reducible exact Below.refl _ _) | (with_reducible assumption) | ((with_reducible refine Below.alloc ?_ ?_ _); (rotate_left); (first | omega | (simp <;> omega))) | ((with_reducible refine Below.setCell ?_ ?_ _); (rotate_left); (first | omega | (simp <;> omega))) | (with_reducible refine Below.drew ?_) | (with_reducible refine below_drewN ?_ _))))
    have q1z := hb.size
    try simp at q1z
    have q1t : w.heap.size ≤ w1.heap.size := (by omega)
    have q1o : ∀ b o, b < w.heap.size → w1.cell? ⟨b, o, none⟩ = w.cell? ⟨b, o, none⟩ := fun b o h => q1B.cell (p := ⟨b, o, none⟩) h
    clear hb
    have hr1 := hr.below q1B
    have hnn : ¬ w1.heap.size + 1 = w1.heap.size := by omega
    go_wp2_with fail
    refine (tgrains_all A n c f g y _ (hr1.below (by (repeat (first | (with_reducible exact Below.refl _ _) | (with_reducible assumption) | ((with_reducible refine Below.alloc ?_ ?_ _); (rotate_left); (first | omega | (simp <;> omega))) | ((with_reducible refine Below.setCell ?_ ?_ _); (rotate_left); (first | omega | (simp <;> omega))) | (with_reducible refine Below.drew ?_) | (with_reducible refine below_drewN ?_ _))))) HIB.out).mono ?_
    rintro e w2 ⟨rfl, hb⟩
    rw [HY.out.1, HY.out.2]
    have q2B : Below w.heap.size w w2 := (by refine Below.trans ?_ (hb.mono (by first | omega | (simp <;> omega))); (repeat (first | (with_reducible exact Below.refl _ _) | (with_reducible assumption) | ((with_reducible refine Below.alloc ?_ ?_ _); (rotate_left); (first | omega | (simp <;> omega))) | ((with_reducible refine Below.setCell ?_ ?_ _); (rotate_left); (first | omega | (simp <;> omega))) | (with_reducible refine Below.drew ?_) | (with_reducible refine below_drewN ?_ _))))
    have q2z := hb.size
    try simp at q2z
    have q2t : w.heap.size ≤ w2.heap.size := (by omega)
    have q2s0 : w1.heap.size < w2.heap.size := (by omega)
    have q2n0_0 : ¬ w2.heap.size = w1.heap.size := (by omega)
    have q2n0_1 : ¬ w2.heap.size + 1 = w1.heap.size := (by omega)
    have q2n0_2 : ¬ w2.heap.size + 2 = w1.heap.size := (by omega)
    have q2c0_0 := hb.cell (p := ⟨w1.heap.size, 0, none⟩) (by first | omega | (simp <;> omega))
    simp [go_sem, *] at q2c0_0
    have q2c0_1 := hb.cell (p := ⟨w1.heap.size, 1, none⟩) (by first | omega | (simp <;> omega))
    simp [go_sem, *] at q2c0_1
    have q2f0 := fun o => hb.frozen (p := ⟨w1.heap.size, o, none⟩) (by first | omega | (simp <;> omega))
    simp [go_sem, *] at q2f0
    have q2o : ∀ b o, b < w.heap.size → w2.cell? ⟨b, o, none⟩ = w.cell? ⟨b, o, none⟩ := fun b o h => q2B.cell (p := ⟨b, o, none⟩) h
    clear hb q1o q1z q1B
    have hr2 := hr.below q2B
    have hnn2 : ¬ w2.heap.size = w1.heap.size := by omega
    go_wp2_with fail
    refine (tgrains_all A n c f g (x + y) _ (hr2.below (by (repeat (first | (with_reducible exact Below.refl _ _) | (with_reducible assumption) | ((with_reducible refine Below.alloc ?_ ?_ _); (rotate_left); (first | omega | (simp <;> omega))) | ((with_reducible refine Below.setCell ?_ ?_ _); (rotate_left); (first | omega | (simp <;> omega))) | (with_reducible refine Below.drew ?_) | (with_reducible refine below_drewN ?_ _))))) HIB.out).mono ?_
    rintro e w3 ⟨rfl, hb⟩
    rw [HZ.out.1, HZ.out.2]
    have q3B : Below w.heap.size w w3 := (by refine Below.trans ?_ (hb.mono (by first | omega | (simp <;> omega))); (repeat (first | (with_reducible exact Below.refl _ _) | (with_reducible assumption) | ((with_reducible refine Below.alloc ?_ ?_ _); (rotate_left); (first | omega | (simp <;> omega))) | ((with_reducible refine Below.setCell ?_ ?_ _); (rotate_left); (first | omega | (simp <;> omega))) | (with_reducible refine Below.drew ?_) | (with_reducible refine below_drewN ?_ _))))
    have q3z := hb.size
    try simp at q3z
    have q3t : w.heap.size ≤ w3.heap.size := (by omega)
    have q3s0 : w1.heap.size < w3.heap.size := (by omega)
    have q3n0_0 : ¬ w3.heap.size = w1.heap.size := (by omega)
    have q3n0_1 : ¬ w3.heap.size + 1 = w1.heap.size := (by omega)
    have q3n0_2 : ¬ w3.heap.size + 2 = w1.heap.size := (by omega)
    have q3c0_0 := hb.cell (p := ⟨w1.heap.size, 0, none⟩) (by first | omega | (simp <;> omega))
    simp [go_sem, *] at q3c0_0
    have q3c0_1 := hb.cell (p := ⟨w1.heap.size, 1, none⟩) (by first | omega | (simp <;> omega))
    simp [go_sem, *] at q3c0_1
    have q3f0 := fun o => hb.frozen (p := ⟨w1.heap.size, o, none⟩) (by first | omega | (simp <;> omega))
    simp [go_sem, *] at q3f0
    have q3s1 : w2.heap.size < w3.heap.size := (by omega)
    have q3n1_0 : ¬ w3.heap.size = w2.heap.size := (by omega)
    have q3n1_1 : ¬ w3.heap.size + 1 = w2.heap.size := (by omega)
    have q3n1_2 : ¬ w3.heap.size + 2 = w2.heap.size := (by omega)
    have q3c1_0 := hb.cell (p := ⟨w2.heap.size, 0, none⟩) (by first | omega | (simp <;> omega))
    simp [go_sem, *] at q3c1_0
    have q3c1_1 := hb.cell (p := ⟨w2.heap.size, 1, none⟩) (by first | omega | (simp <;> omega))
    simp [go_sem, *] at q3c1_1
    have q3f1 := fun o => hb.frozen (p := ⟨w2.heap.size, o, none⟩) (by first | omega | (simp <;> omega))
    simp [go_sem, *] at q3f1
    have q3o : ∀ b o, b < w.heap.size → w3.cell? ⟨b, o, none⟩ = w.cell? ⟨b, o, none⟩ := fun b o h => q3B.cell (p := ⟨b, o, none⟩) h
    clear hb q2o q2f0 q2c0_1 q2c0_0 q2s0 q2z q2B
    have hnn3 : ¬ w3.heap.size = w1.heap.size := by omega
    have hnn4 : ¬ w3.heap.size = w2.heap.size := by omega
    go_wp2_with fail
    refine (radd_any _ _ hwx hwy _).mono ?_
    rintro e w4 ⟨rfl, hb⟩
    rw [HF.out, HE.out, ← HA.out]
    have q4B : Below w.heap.size w w4 := (by refine Below.trans ?_ (hb.mono (by first | omega | (simp <;> omega))); (repeat (first | (with_reducible exact Below.refl _ _) | (with_reducible assumption) | ((with_reducible refine Below.alloc ?_ ?_ _); (rotate_left); (first | omega | (simp <;> omega))) | ((with_reducible refine Below.setCell ?_ ?_ _); (rotate_left); (first | omega | (simp <;> omega))) | (with_reducible refine Below.drew ?_) | (with_reducible refine below_drewN ?_ _))))
    have q4z := hb.size
    try simp at q4z
    have q4t : w.heap.size ≤ w4.heap.size := (by omega)
    have q4s0 : w3.heap.size < w4.heap.size := (by omega)
    have q4n0_0 : ¬ w4.heap.size = w3.heap.size := (by omega)
    have q4n0_1 : ¬ w4.heap.size + 1 = w3.heap.size := (by omega)
    have q4n0_2 : ¬ w4.heap.size + 2 = w3.heap.size := (by omega)
    have q4c0_0 := hb.cell (p := ⟨w3.heap.size, 0, none⟩) (by first | omega | (simp <;> omega))
    simp [go_sem, *] at q4c0_0
    have q4c0_1 := hb.cell (p := ⟨w3.heap.size, 1, none⟩) (by first | omega | (simp <;> omega))
    simp [go_sem, *] at q4c0_1
    have q4f0 := fun o => hb.frozen (p := ⟨w3.heap.size, o, none⟩) (by first | omega | (simp <;> omega))
    simp [go_sem, *] at q4f0
    have q4o : ∀ b o, b < w.heap.size → w4.cell? ⟨b, o, none⟩ = w.cell? ⟨b, o, none⟩ := fun b o h => q4B.cell (p := ⟨b, o, none⟩) h
    clear hb q3o q3f1 q3c1_1 q3c1_0 q3s1 q3f0 q3c0_1 q3c0_0 q3s0 q3z q3B
    go_wp2_with fail
    refine (live_any _).mono ?_
    rintro e w5 ⟨rfl, hb⟩
    have q5B : Below w.heap.size w w5 := (by refine Below.trans ?_ (hb.mono (by first | omega | (simp <;> omega))); (repeat (first | (with_reducible exact Below.refl _ _) | (with_reducible assumption) | ((with_reducible refine Below.alloc ?_ ?_ _); (rotate_left); (first | omega | (simp <;> omega))) | ((with_reducible refine Below.setCell ?_ ?_ _); (rotate_left); (first | omega | (simp <;> omega))) | (with_reducible refine Below.drew ?_) | (with_reducible refine below_drewN ?_ _))))
    have q5z := hb.size
    try simp at q5z
    have q5t : w.heap.size ≤ w5.heap.size := (by omega)
    have q5o : ∀ b o, b < w.heap.size → w5.cell? ⟨b, o, none⟩ = w.cell? ⟨b, o, none⟩ := fun b o h => q5B.cell (p := ⟨b, o, none⟩) h
    clear hb q4o q4f0 q4c0_1 q4c0_0 q4s0 q4z q4B
    go_wp2_with fail
    go_ret
    exact ⟨rfl, by (repeat (first | (with_reducible exact Below.refl _ _) | (with_reducible assumption) | ((with_reducible refine Below.alloc ?_ ?_ _); (rotate_left); (first | omega | (simp <;> omega))) | ((with_reducible refine Below.setCell ?_ ?_ _); (rotate_left); (first | omega | (simp <;> omega))) | (with_reducible refine Below.drew ?_) | (with_reducible refine below_drewN ?_ _)))⟩
  · obtain ⟨E, hE0, HE⟩ : ∃ E : Int, (E = 5 ∨ E = 1) ∧ Hid (∀ t, grE n f g t = E ∧ grR n f g t = 0) := by
      by_cases hn : n ≤ 6
      · exact ⟨1, .inr rfl, fun t => gr_bad hn (fun h => hgood ⟨hn, h⟩)⟩
      · exact ⟨5, .inl rfl, fun t => gr_5 (by omega)⟩
    have hE1 : ¬ E = 0 := by omega
    have HIB := hide hib
    clear hib hgood
    go_enter Try.func8, Try.ntmps8
    go_wp2_with fail
    refine (tgrains_all A n c f g _ _ hr HIB.out).mono ?_
    rintro e w1 ⟨rfl, hb⟩
    rw [(HE.out _).1, (HE.out _).2]
    have q1B : Below w.heap.size w w1 := (by refine Below.trans ?_ (hb.mono (by first | omega | (simp <;> omega))); (repeat (first | (with_reducible exact Below.refl _ _) | (with_reducible assumption) | ((with_reducible refine Below.alloc ?_ ?_ _); (rotate_left); (first | omega | (simp <;> omega))) | ((with_reducible refine Below.setCell ?_ ?_ _); (rotate_left); (first | omega | (simp <;> omega))) | (with_reducible refine Below.drew ?_) | (with_reducible refine below_drewN ?_ _))))
    have q1z := hb.size
    try simp at q1z
    have q1t : w.heap.size ≤ w1.heap.size := (by omega)
    have q1o : ∀ b o, b < w.heap.size → w1.cell? ⟨b, o, none⟩ = w.cell? ⟨b, o, none⟩ := fun b o h => q1B.cell (p := ⟨b, o, none⟩) h
    clear hb
    have hr1 := hr.below q1B
    have hnn : ¬ w1.heap.size + 1 = w1.heap.size := by omega
    go_wp2_with fail
    refine (tgrains_all A n c f g _ _ (hr1.below (by (repeat (first | (with_reducible exact Below.refl _ _) | (with_reducible assumption) | ((with_reducible refine Below.alloc ?_ ?_ _); (rotate_left); (first | omega | (simp <;> omega))) | ((with_reducible refine Below.setCell ?_ ?_ _); (rotate_left); (first | omega | (simp <;> omega))) | (with_reducible refine Below.drew ?_) | (with_reducible refine below_drewN ?_ _))))) HIB.out).mono ?_
    rintro e w2 ⟨rfl, hb⟩
    rw [(HE.out _).1, (HE.out _).2]
    have q2B : Below w.heap.size w w2 := (by refine Below.trans ?_ (hb.mono (by first | omega | (simp <;> omega))); (repeat (first | (with_reducible exact Below.refl _ _) | (with_reducible assumption) | ((with_reducible refine Below.alloc ?_ ?_ _); (rotate_left); (first | omega | (simp <;> omega))) | ((with_reducible refine Below.setCell ?_ ?_ _); (rotate_left); (first | omega | (simp <;> omega))) | (with_reducible refine Below.drew ?_) | (with_reducible refine below_drewN ?_ _))))
    have q2z := hb.size
    try simp at q2z
    have q2t : w.heap.size ≤ w2.heap.size := (by omega)
    have q2o : ∀ b o, b < w.heap.size → w2.cell? ⟨b, o, none⟩ = w.cell? ⟨b, o, none⟩ := fun b o h => q2B.cell (p := ⟨b, o, none⟩) h
    clear hb q1o q1z q1B
    have hr2 := hr.below q2B
    go_wp2_with fail
    refine (tgrains_all A n c f g _ _ (hr2.below (by (repeat (first | (with_reducible exact Below.refl _ _) | (with_reducible assumption) | ((with_reducible refine Below.alloc ?_ ?_ _); (rotate_left); (first | omega | (simp <;> omega))) | ((with_reducible refine Below.setCell ?_ ?_ _); (rotate_left); (first | omega | (simp <;> omega))) | (with_reducible refine Below.drew ?_) | (with_reducible refine below_drewN ?_ _))))) HIB.out).mono ?_
    rintro e w3 ⟨rfl, hb⟩
    rw [(HE.out _).1, (HE.out _).2]
    have q3B : Below w.heap.size w w3 := (by refine Below.trans ?_ (hb.mono (by first | omega | (simp <;> omega))); (repeat (first | (with_reducible exact Below.refl _ _) | (with_reducible assumption) | ((with_reducible refine Below.alloc ?_ ?_ _); (rotate_left); (first | omega | (simp <;> omega))) | ((with_reducible refine Below.setCell ?_ ?_ _); (rotate_left); (first | omega | (simp <;> omega))) | (with_reducible refine Below.drew ?_) | (with_reducible refine below_drewN ?_ _))))
    have q3z := hb.size
    try simp at q3z
    have q3t : w.heap.size ≤ w3.heap.size := (by omega)
    have q3o : ∀ b o, b < w.heap.size → w3.cell? ⟨b, o, none⟩ = w.cell? ⟨b, o, none⟩ := fun b o h => q3B.cell (p := ⟨b, o, none⟩) h
    clear hb q2o q2z q2B
    have hr3 := hr.below q3B
    go_wp2_with fail
    refine (rgrains_all A n c f g _ _ (hr3.below (by (repeat (first | (with_reducible exact Below.refl _ _) | (with_reducible assumption) | ((with_reducible refine Below.alloc ?_ ?_ _); (rotate_left); (first | omega | (simp <;> omega))) | ((with_reducible refine Below.setCell ?_ ?_ _); (rotate_left); (first | omega | (simp <;> omega))) | (with_reducible refine Below.drew ?_) | (with_reducible refine below_drewN ?_ _))))) HIB.out).mono ?_
    rintro e w4 ⟨rfl, hb⟩
    rw [(HE.out _).1, (HE.out _).2]
    have q4B : Below w.heap.size w w4 := (by refine Below.trans ?_ (hb.mono (by first | omega | (simp <;> omega))); (repeat (first | (with_reducible exact Below.refl _ _) | (with_reducible assumption) | ((with_reducible refine Below.alloc ?_ ?_ _); (rotate_left); (first | omega | (simp <;> omega))) | ((with_reducible refine Below.setCell ?_ ?_ _); (rotate_left); (first | omega | (simp <;> omega))) | (with_reducible refine Below.drew ?_) | (with_reducible refine below_drewN ?_ _))))
    have q4z := hb.size
    try simp at q4z
    have q4t : w.heap.size ≤ w4.heap.size := (by omega)
    have q4o : ∀ b o, b < w.heap.size → w4.cell? ⟨b, o, none⟩ = w.cell? ⟨b, o, none⟩ := fun b o h => q4B.cell (p := ⟨b, o, none⟩) h
    clear hb q3o q3z q3B
    go_wp2_with fail
    refine (live_any _).mono ?_
    rintro e w5 ⟨rfl, hb⟩
    have q5B : Below w.heap.size w w5 := (by refine Below.trans ?_ (hb.mono (by first | omega | (simp <;> omega))); (repeat (first | (with_reducible exact Below.refl _ _) | (with_reducible assumption) | ((with_reducible refine Below.alloc ?_ ?_ _); (rotate_left); (first | omega | (simp <;> omega))) | ((with_reducible refine Below.setCell ?_ ?_ _); (rotate_left); (first | omega | (simp <;> omega))) | (with_reducible refine Below.drew ?_) | (with_reducible refine below_drewN ?_ _))))
    have q5z := hb.size
    try simp at q5z
    have q5t : w.heap.size ≤ w5.heap.size := (by omega)
    have q5o : ∀ b o, b < w.heap.size → w5.cell? ⟨b, o, none⟩ = w.cell? ⟨b, o, none⟩ := fun b o h => q5B.cell (p := ⟨b, o, none⟩) h
    clear hb q4o q4z q4B
    go_wp2_with fail
    go_ret
    exact ⟨rfl, by (repeat (first | (with_reducible exact Below.refl _ _) | (with_reducible assumption) | ((with_reducible refine Below.alloc ?_ ?_ _); (rotate_left); (first | omega | (simp <;> omega))) | ((with_reducible refine Below.setCell ?_ ?_ _); (rotate_left); (first | omega | (simp <;> omega))) | (with_reducible refine Below.drew ?_) | (with_reducible refine below_drewN ?_ _)))⟩
end Go.Proofs.Ytjjclclianbnfaa
