/- Contracts of package date and its reference, 3: the day with a civil date. -/
import Derived.Test.YtoilodkklcfbiaaDoorDaB
namespace Go.Proofs.YtoilodkklcfbiaaDoor
open Go.RowKit

theorem dy_no {y m d : Int} (h : ¬ (2000 ≤ y ∧ y ≤ 2199 ∧ 1 ≤ d ∧ d ≤ mlen y m)) : dyV y m d = 0 ∧ dyE y m d = 1 := by
  have hb : dyB y m d = false := decide_eq_false h
  unfold dyV dyE; rw [hb]; exact ⟨rfl, rfl⟩
theorem dy_yes {y m d : Int} (h : 2000 ≤ y ∧ y ≤ 2199 ∧ 1 ≤ d ∧ d ≤ mlen y m) : dyV y m d = dby y + cum y m + d - 1 ∧ dyE y m d = 0 := by
  have hb : dyB y m d = true := decide_eq_true h
  unfold dyV dyE; rw [hb]; exact ⟨rfl, rfl⟩
def DyM (y m d : Int) (w : World) (v8 v9 : Value) (wr : World) : Prop := ∃ k : Int, 1 ≤ k ∧ k ≤ m ∧ v8 = .int .i64 (dby y + d - 1 + cum y k) ∧ v9 = .int .i64 k ∧ Below w.heap.size w wr
def DyY (y d : Int) (w : World) (v8 v9 : Value) (wr : World) : Prop := ∃ k : Int, 2000 ≤ k ∧ k ≤ y ∧ v8 = .int .i64 (d - 1 + dby k) ∧ v9 = .int .i64 k ∧ w = wr
set_option maxHeartbeats 1000000 in
theorem day_any (y m d : Int) (d1 : -9223372036854775808 ≤ d) (d2 : d ≤ 9223372036854775807) (w : World) :
    Calls Tryd.prog 22 #[.int .i64 y, .int .i64 m, .int .i64 d] w fun e w' => e = .returned (.tuple #[.int .i64 (dyV y m d), .int .i64 (dyE y m d)]) ∧ Below w.heap.size w w' := by
  by_cases h1 : y < 2000
  · have HD := hide (dy_no (m := m) (d := d) (show ¬ (2000 ≤ y ∧ y ≤ 2199 ∧ 1 ≤ d ∧ d ≤ mlen y m) by omega))
    go_enter Tryd.func22, Tryd.ntmps22
    go_wp2_with fail
    refine bodyPost_ret (by simp [results, Tryd.results22, go_sem, *] <;> rfl) rfl ⟨?_, ?_⟩
    · rw [HD.out.1, HD.out.2]
    (repeat (first | (with_reducible exact Below.refl _ _) | (with_reducible assumption) | ((with_reducible refine Below.alloc ?_ ?_ _); (rotate_left); (first | omega | (simp <;> omega))) | ((with_reducible refine Below.setCell ?_ ?_ _); (rotate_left); (first | omega | (simp <;> omega))) | (with_reducible refine Below.drew ?_) | (with_reducible refine below_drewN ?_ _)))
  by_cases h2 : 2199 < y
  · have HD := hide (dy_no (m := m) (d := d) (show ¬ (2000 ≤ y ∧ y ≤ 2199 ∧ 1 ≤ d ∧ d ≤ mlen y m) by omega))
    go_enter Tryd.func22, Tryd.ntmps22
    go_wp2_with fail
    refine bodyPost_ret (by simp [results, Tryd.results22, go_sem, *] <;> rfl) rfl ⟨?_, ?_⟩
    · rw [HD.out.1, HD.out.2]
    (repeat (first | (with_reducible exact Below.refl _ _) | (with_reducible assumption) | ((with_reducible refine Below.alloc ?_ ?_ _); (rotate_left); (first | omega | (simp <;> omega))) | ((with_reducible refine Below.setCell ?_ ?_ _); (rotate_left); (first | omega | (simp <;> omega))) | (with_reducible refine Below.drew ?_) | (with_reducible refine below_drewN ?_ _)))
  by_cases h3 : m < 1
  · have HD := hide (dy_no (d := d) (show ¬ (2000 ≤ y ∧ y ≤ 2199 ∧ 1 ≤ d ∧ d ≤ mlen y m) by rw [mlen_out y (by omega)]; omega))
    go_enter Tryd.func22, Tryd.ntmps22
    go_wp2_with fail
    refine bodyPost_ret (by simp [results, Tryd.results22, go_sem, *] <;> rfl) rfl ⟨?_, ?_⟩
    · rw [HD.out.1, HD.out.2]
    (repeat (first | (with_reducible exact Below.refl _ _) | (with_reducible assumption) | ((with_reducible refine Below.alloc ?_ ?_ _); (rotate_left); (first | omega | (simp <;> omega))) | ((with_reducible refine Below.setCell ?_ ?_ _); (rotate_left); (first | omega | (simp <;> omega))) | (with_reducible refine Below.drew ?_) | (with_reducible refine below_drewN ?_ _)))
  by_cases h4 : 12 < m
  · have HD := hide (dy_no (d := d) (show ¬ (2000 ≤ y ∧ y ≤ 2199 ∧ 1 ≤ d ∧ d ≤ mlen y m) by rw [mlen_out y (by omega)]; omega))
    go_enter Tryd.func22, Tryd.ntmps22
    go_wp2_with fail
    refine bodyPost_ret (by simp [results, Tryd.results22, go_sem, *] <;> rfl) rfl ⟨?_, ?_⟩
    · rw [HD.out.1, HD.out.2]
    (repeat (first | (with_reducible exact Below.refl _ _) | (with_reducible assumption) | ((with_reducible refine Below.alloc ?_ ?_ _); (rotate_left); (first | omega | (simp <;> omega))) | ((with_reducible refine Below.setCell ?_ ?_ _); (rotate_left); (first | omega | (simp <;> omega))) | (with_reducible refine Below.drew ?_) | (with_reducible refine below_drewN ?_ _)))
  by_cases h5 : d < 1
  · have HD := hide (dy_no (m := m) (d := d) (show ¬ (2000 ≤ y ∧ y ≤ 2199 ∧ 1 ≤ d ∧ d ≤ mlen y m) by omega))
    go_enter Tryd.func22, Tryd.ntmps22
    go_wp2_with fail
    refine bodyPost_ret (by simp [results, Tryd.results22, go_sem, *] <;> rfl) rfl ⟨?_, ?_⟩
    · rw [HD.out.1, HD.out.2]
    (repeat (first | (with_reducible exact Below.refl _ _) | (with_reducible assumption) | ((with_reducible refine Below.alloc ?_ ?_ _); (rotate_left); (first | omega | (simp <;> omega))) | ((with_reducible refine Below.setCell ?_ ?_ _); (rotate_left); (first | omega | (simp <;> omega))) | (with_reducible refine Below.drew ?_) | (with_reducible refine below_drewN ?_ _)))
  have ml := mlen_bd y (m := m) (by omega) (by omega)
  by_cases h6 : mlen y m < d
  · have HD := hide (dy_no (m := m) (d := d) (show ¬ (2000 ≤ y ∧ y ≤ 2199 ∧ 1 ≤ d ∧ d ≤ mlen y m) by omega))
    go_enter Tryd.func22, Tryd.ntmps22
    go_wp2_with fail
    refine (length_any y m (by omega) (by omega) _).mono ?_
    rintro e w1 ⟨rfl, hb1⟩
    go_wp2_with fail
    refine bodyPost_ret (by simp [results, Tryd.results22, go_sem, *] <;> rfl) rfl ⟨?_, ?_⟩
    · rw [HD.out.1, HD.out.2]
    exact hb1
  · have HD := hide (dy_yes (m := m) (d := d) (show (2000 ≤ y ∧ y ≤ 2199 ∧ 1 ≤ d ∧ d ≤ mlen y m) by omega))
    have hb := dby_bd (y := y) (by omega) (by omega)
    go_enter Tryd.func22, Tryd.ntmps22
    go_wp2_with fail
    refine (length_any y m (by omega) (by omega) _).mono ?_
    rintro e w1 ⟨rfl, hb1⟩
    go_wp2_with fail
    refine (begin_any y (by omega) (by omega) _).mono ?_
    rintro e w2 ⟨rfl, rfl⟩
    go_wp2_with fail
    go_loopw [8, 9] (fun v8 v9 wr => DyM y m d w v8 v9 wr) (fun _ v _ => (12 - intOf v).toNat)
    case atStart => exact ⟨1, by omega, by omega, by rw [cum_1]; go_num, rfl, hb1⟩
    case round =>
      obtain ⟨k, k1, k2, rfl, rfl, hB⟩ := hrel
      have cb := cum_bd y (m := k) (by omega) (by omega)
      have mk := mlen_bd y (m := k) (by omega) (by omega)
      have lb := lp_01 y
      by_cases hk : k < m
      · have HC := hide (cum_succ y (m := k) (by omega) (by omega))
        go_wp2_with fail
        refine (length_any y k (by omega) (by omega) _).mono ?_
        rintro e w2 ⟨rfl, hb2⟩
        go_wp2_with fail
        go_roundw
        case rel => exact ⟨k + 1, by omega, by omega, by rw [HC.out]; exact congrArg (Value.int .i64) (by omega), rfl, hB.trans (hb2.mono hB.size)⟩
        case measure => simp [intOf]; omega
      · obtain rfl : k = m := by omega
        go_wp2_with fail
        refine bodyPost_ret (by simp [results, Tryd.results22, go_sem, *] <;> rfl) rfl ⟨?_, ?_⟩
        · rw [HD.out.1, HD.out.2, show dby y + cum y k + d - 1 = dby y + d - 1 + cum y k by omega]
        exact hB
def DyMR (y m d : Int) (w : World) (v8 v9 : Value) (wr : World) : Prop := ∃ k : Int, 1 ≤ k ∧ k ≤ m ∧ v8 = .int .i64 (d - 1 + dby y + cum y k) ∧ v9 = .int .i64 k ∧ w = wr
set_option maxHeartbeats 1000000 in
theorem rday_same (y m d : Int) (d1 : -9223372036854775808 ≤ d) (d2 : d ≤ 9223372036854775807) (w : World) :
    Calls Tryd.prog 23 #[.int .i64 y, .int .i64 m, .int .i64 d] w fun e w' => e = .returned (.tuple #[.int .i64 (dyV y m d), .int .i64 (dyE y m d)]) ∧ w = w' := by
  by_cases h1 : y < 2000
  · have HD := hide (dy_no (m := m) (d := d) (show ¬ (2000 ≤ y ∧ y ≤ 2199 ∧ 1 ≤ d ∧ d ≤ mlen y m) by omega))
    go_enter Tryd.func23, Tryd.ntmps23
    go_wp2_with fail
    refine bodyPost_ret (by simp [results, Tryd.results23, go_sem, *] <;> rfl) rfl ⟨?_, ?_⟩
    · rw [HD.out.1, HD.out.2]
    rfl
  by_cases h2 : 2199 < y
  · have HD := hide (dy_no (m := m) (d := d) (show ¬ (2000 ≤ y ∧ y ≤ 2199 ∧ 1 ≤ d ∧ d ≤ mlen y m) by omega))
    go_enter Tryd.func23, Tryd.ntmps23
    go_wp2_with fail
    refine bodyPost_ret (by simp [results, Tryd.results23, go_sem, *] <;> rfl) rfl ⟨?_, ?_⟩
    · rw [HD.out.1, HD.out.2]
    rfl
  by_cases h5 : d < 1
  · have HD := hide (dy_no (m := m) (d := d) (show ¬ (2000 ≤ y ∧ y ≤ 2199 ∧ 1 ≤ d ∧ d ≤ mlen y m) by omega))
    go_enter Tryd.func23, Tryd.ntmps23
    go_wp2_with fail
    refine bodyPost_ret (by simp [results, Tryd.results23, go_sem, *] <;> rfl) rfl ⟨?_, ?_⟩
    · rw [HD.out.1, HD.out.2]
    rfl
  by_cases h6 : mlen y m < d
  · have HD := hide (dy_no (m := m) (d := d) (show ¬ (2000 ≤ y ∧ y ≤ 2199 ∧ 1 ≤ d ∧ d ≤ mlen y m) by omega))
    go_enter Tryd.func23, Tryd.ntmps23
    go_wp2_with fail
    refine (rlength_any y m _).mono ?_
    rintro e w1 ⟨rfl, rfl⟩
    go_wp2_with fail
    refine bodyPost_ret (by simp [results, Tryd.results23, go_sem, *] <;> rfl) rfl ⟨?_, ?_⟩
    · rw [HD.out.1, HD.out.2]
    rfl
  · have hok : (2000 ≤ y ∧ y ≤ 2199 ∧ 1 ≤ d ∧ d ≤ mlen y m) := by omega
    have HD := hide (dy_yes hok)
    obtain ⟨_, _, m1, m2, _⟩ := dyB_month (show dyB y m d = true from decide_eq_true hok)
    have ml := mlen_bd y m1 m2
    have hby := dby_bd (y := y) (by omega) (by omega)
    clear hok
    go_enter Tryd.func23, Tryd.ntmps23
    go_wp2_with fail
    refine (rlength_any y m _).mono ?_
    rintro e w1 ⟨rfl, rfl⟩
    go_wp2_with fail
    go_loopw [8, 9] (fun v8 v9 wr => DyY y d w v8 v9 wr) (fun _ v _ => (2199 - intOf v).toNat)
    case atStart => exact ⟨2000, by omega, by omega, by rw [dby_0]; go_num, rfl, rfl⟩
    case round =>
      obtain ⟨k, k1, k2, rfl, rfl, rfl⟩ := hrel
      have hb := dby_bd (y := k) (by omega) (by omega)
      have lb := lp_01 k
      by_cases hk : k < y
      · have HC := hide (dby_succ (y := k) (by omega) (by omega))
        go_wp2_with fail
        refine (ylen_any k _).mono ?_
        rintro e w1 ⟨rfl, rfl⟩
        go_wp2_with fail
        go_roundw
        case rel => exact ⟨k + 1, by omega, by omega, by rw [HC.out]; exact congrArg (Value.int .i64) (by omega), rfl, rfl⟩
        case measure => simp [intOf]; omega
      · obtain rfl : k = y := by omega
        go_wp2_with fail
        go_loopw [8, 10] (fun v8 v10 wr => DyMR k m d w v8 v10 wr) (fun _ v _ => (12 - intOf v).toNat)
        case atStart => exact ⟨1, by omega, by omega, by rw [cum_1]; go_num, rfl, rfl⟩
        case round =>
          obtain ⟨j, j1, j2, rfl, rfl, rfl⟩ := hrel
          have cb := cum_bd k (m := j) (by omega) (by omega)
          have mk := mlen_bd k (m := j) (by omega) (by omega)
          by_cases hj : j < m
          · have HC := hide (cum_succ k (m := j) (by omega) (by omega))
            go_wp2_with fail
            refine (rlength_any k j _).mono ?_
            rintro e w2 ⟨rfl, rfl⟩
            go_wp2_with fail
            go_roundw
            case rel => exact ⟨j + 1, by omega, by omega, by rw [HC.out]; exact congrArg (Value.int .i64) (by omega), rfl, rfl⟩
            case measure => simp [intOf]; omega
          · obtain rfl : j = m := by omega
            go_wp2_with fail
            refine bodyPost_ret (by simp [results, Tryd.results23, go_sem, *] <;> rfl) rfl ⟨?_, ?_⟩
            · rw [HD.out.1, HD.out.2, show dby k + cum k j + d - 1 = d - 1 + dby k + cum k j by omega]
            rfl
theorem rday_any (y m d : Int) (d1 : -9223372036854775808 ≤ d) (d2 : d ≤ 9223372036854775807) (w : World) :
    Calls Tryd.prog 23 #[.int .i64 y, .int .i64 m, .int .i64 d] w fun e w' => e = .returned (.tuple #[.int .i64 (dyV y m d), .int .i64 (dyE y m d)]) ∧ Below w.heap.size w w' :=
  (rday_same y m d d1 d2 w).mono fun _ _ ⟨a, b⟩ => ⟨a, b ▸ Below.refl _ _⟩
end Go.Proofs.YtoilodkklcfbiaaDoor
