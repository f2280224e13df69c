/- Texts laid together: Ezh Ezj. -/
import Derived.Test.YtdjlaiilngechaaGreatDoorVEzd
import Derived.Test.YtdjlaiilngechaaGreatDoorVEys
namespace Go.Proofs.YtdjlaiilngechaaGreatDoor
set_option maxRecDepth 4000
set_option linter.unusedSimpArgs false
set_option linter.unusedVariables false
open Go.RowKit
theorem atX_map {l : List LnR} {k : Nat} (h : k < l.length) : linOf (atX l) k = atL (l.map (·.1)) k := by
  unfold linOf
  rw [atX_at h, atL_at (by simpa using h), List.getElem_map]
end Go.Proofs.YtdjlaiilngechaaGreatDoor
namespace Go.Proofs.YtdjlaiilngechaaGreatDoor
set_option maxRecDepth 4000
set_option linter.unusedSimpArgs false
set_option linter.unusedVariables false
open Go.RowKit
theorem lnS_sl {f : Nat → Lin} {P : List (Int × Int) → Prop} : ∀ {k : Nat}, (∀ i, i ≤ k → P (f i).sl) → P (lnS f k).2.sl ∧ ∀ x, x ∈ (lnS f k).1 → P x.sl
  | 0, h => ⟨h 0 (Nat.le_refl _), fun x hx => absurd hx (by simp [lnS])⟩
  | k + 1, h => by
    have ih := lnS_sl (f := f) (P := P) (k := k) (fun i hi => h i (by omega))
    rw [lnS_succ]
    cases c : fitsL (lnS f k).2 (f (k + 1)) with
    | true => rw [step_yes c]; exact ih
    | false =>
      rw [step_no c]
      refine ⟨h (k + 1) (Nat.le_refl _), fun x hx => ?_⟩
      rcases List.mem_append.1 hx with hx | hx
      · exact ih.2 x hx
      · rw [List.mem_singleton.1 hx]; exact ih.1
theorem lnL_sl {f : Nat → Lin} {P : List (Int × Int) → Prop} {n : Nat} (h : ∀ i, i < n → P (f i).sl) : ∀ x, x ∈ lnL f n → P x.sl := by
  cases n with
  | zero => intro x hx; simp [lnL] at hx
  | succ k =>
    have t := lnS_sl (f := f) (P := P) (k := k) (fun i hi => h i (by omega))
    intro x hx
    unfold lnL at hx
    rcases List.mem_append.1 hx with hx | hx
    · exact t.2 x hx
    · rw [List.mem_singleton.1 hx]; exact t.1
theorem df_self {x : Nat → LnR} {n : Nat} : ∀ k, k ≤ n → dfL x x n k = []
  | 0, _ => rfl
  | k + 1, h => by rw [dfL_yes (hasX_iff.2 ⟨k, by omega, eqLn_eq.2 rfl⟩)]; exact df_self k (by omega)
theorem df_nil {x y : Nat → LnR} : ∀ k, dfL x y 0 k = (List.range k).map (fun j => (x j).1)
  | 0 => rfl
  | k + 1 => by rw [dfL_no rfl, df_nil k, List.range_succ, List.map_append]; rfl
theorem map_atX (l : List LnR) : (List.range l.length).map (fun j => (atX l j).1) = l.map (·.1) := by
  refine List.ext_getElem (by simp) fun j h1 h2 => ?_
  have hj : j < l.length := by simpa using h2
  simp only [List.getElem_map, List.getElem_range, atX_at hj]
theorem same_atX {l m : List LnR} (h : l.map (·.1) = m.map (·.1)) : decide (sameX l.length m.length (atX l) (atX m)) = true := by
  have hl : l.length = m.length := by have := congrArg List.length h; simpa using this
  refine decide_eq_true ⟨hl, fun k hk => eqLn_eq.2 ?_⟩
  have h1 := atX_map hk
  have h2 := atX_map (l := m) (k := k) (by omega)
  unfold linOf at h1 h2
  rw [h1, h2, h]
def SameQ (f g f' g' : Nat → Int) (n : Nat) (w : World) (v : Value) (wr : World) : Prop :=
  ∃ k : Nat, k ≤ n ∧ v = .int .i64 k ∧ (∀ j, j < k → f j = f' j ∧ g j = g' j) ∧ ∃ q, wr = w.drewN q
set_option maxHeartbeats 1000000 in
theorem rsamesq_any (A B : Option Addr) (n m c d : Nat) (f g f' g' : Nat → Int) (hl : n ≤ 140737488355328) (w : World) (hr : Row2 w A n f g) (hs : Row2 w B m f' g') :
    Calls Tryz.prog 20 #[.slice A n c, .slice B m d] w fun e w' => e = .returned (.bool (decide (same2 n m f g f' g'))) ∧ ∃ q, w' = w.drewN q := by
  by_cases hnm : n = m
  · subst hnm
    go_enter Tryz.func20, Tryz.ntmps20
    go_wp2_with fail
    go_loopw [5] (fun v wr => SameQ f g f' g' n w v wr) (fun v _ => n - (intOf v).toNat)
    case atStart => exact ⟨0, by omega, rfl, fun j hj => by omega, 0, rfl⟩
    case round =>
      obtain ⟨k, hk, rfl, ha, q, hq⟩ := hrel
      have HQ := hide hq
      have hB : Below w.heap.size w wr := by rw [hq]; exact below_drewN (Below.refl _ _) q
      clear hq
      have HA := hide ha
      clear ha
      have hzB := hB.size
      by_cases hlt : k < n
      · obtain ⟨b1, o1, rfl, hb1, hc1⟩ := (hr.below hB) (by omega)
        obtain ⟨c0, c1⟩ := hc1 k hlt
        obtain ⟨b2, o2, rfl, hb2, hc2⟩ := (hs.below hB) (by omega)
        obtain ⟨d0, d1⟩ := hc2 k hlt
        clear hc1 hc2
        have hm1 : (k : Int) < n := by omega
        have hm3 : (0 : Int) ≤ (k : Int) := by omega
        by_cases he : f k = f' k ∧ g k = g' k
        · have HD : Hid (∀ j, j < k + 1 → f j = f' j ∧ g j = g' j) := fun j hj => by
            rcases Nat.lt_or_ge j k with h1 | h1
            · exact HA.out j h1
            · obtain rfl : j = k := by omega
              exact he
          obtain ⟨e1, e2⟩ := he
          go_upto_region 6 with fail
          refine ord_start (SB (wr.heap.size) [] _) 9 (preB 0 9) (by kernel_rfl) (by kernel_rfl) (by kernel_rfl) SB.refl.drew (fun hHeld => ?_)
          refine oT (i := 0) (preB 1 8) ?_ rfl hHeld (fun wx hSx => ?_) ?_
          rotate_left
          · (unfold SB at hSx; go_simp; (try with_reducible rfl))
          (try simp only [Act.put, putS])
          refine oT (i := 1) (preB 2 7) ?_ rfl hHeld (fun wx hSx => ?_) ?_
          rotate_left
          · (unfold SB at hSx; go_simp; (try with_reducible rfl))
          (try simp only [Act.put, putS])
          refine oT (i := 2) (preB 3 6) ?_ rfl hHeld (fun wx hSx => ?_) ?_
          rotate_left
          · (unfold SB at hSx; go_simp; (try with_reducible rfl))
          (try simp only [Act.put, putS])
          refine oT (i := 3) (preB 4 5) ?_ rfl hHeld (fun wx hSx => ?_) ?_
          rotate_left
          · (unfold SB at hSx; go_simp; (try with_reducible rfl))
          (try simp only [Act.put, putS])
          refine oT (i := 4) (preB 5 4) ?_ rfl hHeld (fun wx hSx => ?_) ?_
          rotate_left
          · (unfold SB at hSx; go_simp; (try with_reducible rfl))
          (try simp only [Act.put, putS])
          refine oT (i := 5) (preB 6 3) ?_ rfl hHeld (fun wx hSx => ?_) ?_
          rotate_left
          · (unfold SB at hSx; go_simp; (try with_reducible rfl))
          (try simp only [Act.put, putS])
          refine oT (i := 6) (preB 7 2) ?_ rfl hHeld (fun wx hSx => ?_) ?_
          rotate_left
          · (unfold SB at hSx; go_simp; (try with_reducible rfl))
          (try simp only [Act.put, putS])
          refine oT (i := 7) (preB 8 1) ?_ rfl hHeld (fun wx hSx => ?_) ?_
          rotate_left
          · (unfold SB at hSx; go_simp; (try with_reducible rfl))
          (try simp only [Act.put, putS])
          refine oT (i := 8) (preB 9 0) ?_ rfl hHeld (fun wx hSx => ?_) ?_
          rotate_left
          · (unfold SB at hSx; go_simp; (try with_reducible rfl))
          (try simp only [Act.put, putS])
          refine wpAnyH_done (by kernel_rfl) ?_ _
          go_wp2_with fail
          go_roundw
          case rel => exact ⟨k + 1, by omega, by go_num, HD.out, q + 1, by rw [HQ.out]; rfl⟩
          case measure => simp [intOf]; omega
        · have HD := hide (show decide (same2 n n f g f' g') = false from decide_eq_false (fun h => he (h.2 k hlt)))
          go_upto_region 6 with fail
          refine ord_start (SB (wr.heap.size) [] _) 9 (preB 0 9) (by kernel_rfl) (by kernel_rfl) (by kernel_rfl) SB.refl.drew (fun hHeld => ?_)
          refine oT (i := 0) (preB 1 8) ?_ rfl hHeld (fun wx hSx => ?_) ?_
          rotate_left
          · (unfold SB at hSx; go_simp; (try with_reducible rfl))
          (try simp only [Act.put, putS])
          refine oT (i := 1) (preB 2 7) ?_ rfl hHeld (fun wx hSx => ?_) ?_
          rotate_left
          · (unfold SB at hSx; go_simp; (try with_reducible rfl))
          (try simp only [Act.put, putS])
          refine oT (i := 2) (preB 3 6) ?_ rfl hHeld (fun wx hSx => ?_) ?_
          rotate_left
          · (unfold SB at hSx; go_simp; (try with_reducible rfl))
          (try simp only [Act.put, putS])
          refine oT (i := 3) (preB 4 5) ?_ rfl hHeld (fun wx hSx => ?_) ?_
          rotate_left
          · (unfold SB at hSx; go_simp; (try with_reducible rfl))
          (try simp only [Act.put, putS])
          refine oT (i := 4) (preB 5 4) ?_ rfl hHeld (fun wx hSx => ?_) ?_
          rotate_left
          · (unfold SB at hSx; go_simp; (try with_reducible rfl))
          (try simp only [Act.put, putS])
          refine oT (i := 5) (preB 6 3) ?_ rfl hHeld (fun wx hSx => ?_) ?_
          rotate_left
          · (unfold SB at hSx; go_simp; (try with_reducible rfl))
          (try simp only [Act.put, putS])
          refine oT (i := 6) (preB 7 2) ?_ rfl hHeld (fun wx hSx => ?_) ?_
          rotate_left
          · (unfold SB at hSx; go_simp; (try with_reducible rfl))
          (try simp only [Act.put, putS])
          refine oT (i := 7) (preB 8 1) ?_ rfl hHeld (fun wx hSx => ?_) ?_
          rotate_left
          · (unfold SB at hSx; go_simp; (try with_reducible rfl))
          (try simp only [Act.put, putS])
          refine oT (i := 8) (preB 9 0) (.bool true) rfl hHeld (fun wx hSx => ?_) ?_
          · (unfold SB at hSx; go_simp; (rcases Decidable.em (f k = f' k) with q1 | q1); (rcases Decidable.em (g k = g' k) with q2 | q2); (exact absurd ⟨q1, q2⟩ he); (simp [q1, q2]); (simp [q1]))
          (try simp only [Act.put, putS])
          refine wpAnyH_done (by kernel_rfl) ?_ _
          go_wp2_with fail
          go_ret
          exact ⟨by rw [HD.out]; rfl, q + 1, by rw [HQ.out]; rfl⟩
      · have hkn : k = n := by omega
        subst hkn
        have HD := hide (show decide (same2 k k f g f' g') = true from decide_eq_true ⟨rfl, HA.out⟩)
        go_wp2_with fail
        go_ret
        exact ⟨by rw [HD.out]; rfl, q, HQ.out⟩
  · have HD := hide (show decide (same2 n m f g f' g') = false from decide_eq_false (fun h => hnm h.1))
    have hnm2 : ¬ (n : Int) = (m : Int) := by omega
    go_enter Tryz.func20, Tryz.ntmps20
    go_wp2_with fail
    go_ret
    exact ⟨by rw [HD.out]; rfl, 0, rfl⟩
theorem rsamelq_any (A B : Option Addr) (l m : List (Int × Int)) (c d : Nat) (hl : l.length ≤ 140737488355328) (w : World) (hr : Row2 w A l.length (fsts l) (snds l)) (hs : Row2 w B m.length (fsts m) (snds m)) :
    Calls Tryz.prog 20 #[.slice A l.length c, .slice B m.length d] w fun e w' => e = .returned (.bool (l == m)) ∧ ∃ q, w' = w.drewN q := by
  refine (rsamesq_any A B l.length m.length c d _ _ _ _ hl w hr hs).mono ?_
  rintro e w' ⟨rfl, hb⟩
  refine ⟨?_, hb⟩
  by_cases h : l = m
  · rw [decide_eq_true (same2_lists.2 h), beq_iff_eq.2 h]
  · rw [decide_eq_false (fun g => h (same2_lists.1 g)), beq_eq_false_iff_ne.2 h]
/-- The first day that the lines ahead of line k leave open. -/
def nxt (f : Int) (l : List LnR) : Nat → Int
  | 0 => f
  | k + 1 => (atX l k).1.tt + 1
/-- What ExplainCovers asks of the lines. -/
structure CovF (B : LBk) (id f t : Int) (l : List LnR) : Prop where
  each : ∀ k, k < l.length → (atX l k).1.fr = nxt f l k ∧ (∀ j, k = j + 1 → (atX l k).1.bl = (atX l j).1.bl → ((atX l k).1.sl == (atX l j).1.sl) = false) ∧ ¬ (atX l k).1.tt < nxt f l k ∧
    dayE B id (atX l k).1.tt = 0 ∧ (dayV B id (atX l k).1.tt).bl = (atX l k).1.bl ∧ 0 ≤ (atX l k).1.tt ∧ (atX l k).1.tt ≤ 73048
  full : nxt f l l.length = t + 1
  len : l.length ≤ 200
  sl : ∀ k, k < l.length → (atX l k).1.sl.length ≤ 1000000
theorem cov_fine {B : LBk} {id f t : Int} {n : Nat} {l : List LnR} (h0 : serE B id f t = 0) (hf0 : 0 ≤ f) (hft : f ≤ t) (ht : t ≤ 73048) (hn : (n : Int) = t - f + 1) (hn2 : n ≤ 200) (hl : l.map (·.1) = lnL (fun k => oneP B (acrN B id f k)) n) : CovF B id f t l := by
  have hlen : l.length = (lnL (fun k => oneP B (acrN B id f k)) n).length := by rw [← hl, List.length_map]
  have h1 := lnL_len (fun k => oneP B (acrN B id f k)) n
  have e : ∀ k, k < l.length → (atX l k).1 = atL (lnL (fun k => oneP B (acrN B id f k)) n) k := fun k hk => by
    have := atX_map hk
    unfold linOf at this
    rw [this, hl]
  have hc := cov_lines (f := fun k => oneP B (acrN B id f k)) (a := f) (fun i => ⟨(acr_ok B id (f + i)).2.2.1, (acr_ok B id (f + i)).2.2.1⟩) n
  obtain ⟨hc1, hc2⟩ := hc
  obtain ⟨hp, hlast⟩ := hc2 (by omega)
  refine ⟨fun k hk => ?_, ?_, by omega, fun k hk => ?_⟩
  · obtain ⟨a1, a2, i, hi, a3, a4, a5⟩ := hc1 k (by omega)
    rw [← e k hk] at a1 a2 a3 a4 a5
    have hd := ser_day h0 (d := (atX l k).1.tt) (by omega) (by omega)
    have hfr : (atX l k).1.fr = nxt f l k := by
      cases k with
      | zero => exact a1 rfl
      | succ j =>
        have := (a2 (by omega)).1
        rw [Nat.add_sub_cancel, ← e j (by omega)] at this
        exact this
    refine ⟨hfr, ?_, by rw [← hfr]; omega, hd.1, ?_, by omega, by omega⟩
    · rintro j rfl hb
      have hx := (a2 (by omega)).2
      rw [Nat.add_sub_cancel, ← e j (by omega)] at hx
      unfold fitsL at hx
      rw [hb] at hx
      simp only [beq_self_eq_true, Bool.true_and] at hx
      rw [beq_eq_false_iff_ne] at hx ⊢
      exact fun h => hx h.symm
    · rw [hd.2, a3, a4]; rfl
  · obtain ⟨m, hm⟩ : ∃ m, l.length = m + 1 := ⟨l.length - 1, by omega⟩
    rw [hm]
    show (atX l m).1.tt + 1 = t + 1
    rw [e m (by omega)]
    rw [← hlen, hm, Nat.add_sub_cancel] at hlast
    rw [hlast]
    omega
  · rw [e k hk, atL_at (by omega)]
    refine lnL_sl (P := fun s => s.length ≤ 1000000) (fun i _ => ?_) _ (List.getElem_mem _)
    have := (oneS_good (B := B) (id := (acrN B id f i).ac) (day := (acrN B id f i).dy) (acrN_fine B id f i).2).1
    show (oneS B _ _ _).length ≤ _
    omega
end Go.Proofs.YtdjlaiilngechaaGreatDoor
