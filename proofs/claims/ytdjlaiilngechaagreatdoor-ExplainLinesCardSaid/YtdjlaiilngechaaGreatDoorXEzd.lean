/- Texts laid together: Ezd. -/
import Derived.Test.YtdjlaiilngechaaGreatDoorXEzc
import Derived.Test.YtdjlaiilngechaaGreatDoorXK0
namespace Go.Proofs.YtdjlaiilngechaaGreatDoor
set_option maxRecDepth 4000
set_option linter.unusedSimpArgs false
set_option linter.unusedVariables false
open Go.RowKit
theorem pr_size {X : Array Value} (h : X.size = 19) : (Tryz.prog.info? 78).map (·.size) = some X.size := by rw [h]; kernel_rfl
theorem en_size {X : Array Value} (h : X.size = 10) : (Tryz.prog.info? 82).map (·.size) = some X.size := by rw [h]; kernel_rfl
def GrJ (p : Nat → Prop) (n : Nat) (W : World) (v : Value) (wr : World) : Prop := ∃ k : Nat, k ≤ n ∧ v = .int .i64 k ∧ (∀ i, i < k → p i) ∧ Below W.heap.size W wr
theorem grj_step {p : Nat → Prop} {k : Nat} (h : ∀ i, i < k → p i) (hk : p k) : ∀ i, i < k + 1 → p i := fun i hi => by
 rcases Nat.lt_or_ge i k with h1 | h1
 ·exact h i h1
 ·obtain rfl : i = k := by omega
  exact hk
set_option maxRecDepth 8000 in
set_option maxHeartbeats 8000000 in
theorem bgr_any {ck : Nat → Tr} (kn : KnOK 15 ck) (w : World) (X : Array Value) (hX : ElT (Old w) w 15 ck X) :
  Calls Tryz.prog 7 #[.agg X] w (GrR (Sml ck) w) := by
 obtain ⟨n0, c0, q0, hk0, A0, cap0, C0, e0, _, hA0⟩ := rd_row (e := 1) (hX.rd 0 (by decide)) (kn 0 (by decide))
 obtain ⟨n1, c1, q1, hk1, A1, cap1, C1, e1, _, hA1⟩ := rd_row (e := 2) (hX.rd 1 (by decide)) (kn 1 (by decide))
 obtain ⟨n2, c2, q2, hk2, A2, cap2, C2, e2, _, hA2⟩ := rd_row (e := 3) (hX.rd 2 (by decide)) (kn 2 (by decide))
 obtain ⟨n17, c17, q17, hk17, A17, cap17, C17, e17, _, hA17⟩ := rd_row (e := 8) (hX.rd 17 (by decide)) (kn 17 (by decide))
 obtain ⟨n18, c18, q18, hk18, A18, cap18, C18, e18, _, hA18⟩ := rd_row (e := 9) (hX.rd 18 (by decide)) (kn 18 (by decide))
 obtain ⟨n19, c19, q19, hk19, A19, cap19, C19, e19, _, hA19⟩ := rd_row (e := 11) (hX.rd 19 (by decide)) (kn 19 (by decide))
 obtain ⟨n20, c20, q20, hk20, A20, cap20, C20, e20, _, hA20⟩ := rd_row (e := 12) (hX.rd 20 (by decide)) (kn 20 (by decide))
 obtain ⟨n21, c21, q21, hk21, A21, cap21, C21, e21, _, hA21⟩ := rd_row (e := 13) (hX.rd 21 (by decide)) (kn 21 (by decide))
 have hXs : X.size = 22 := hX.size
 have g0 : X[0]? = some (.slice A0 n0 cap0) := at_eq hXs (by decide) e0
 have g1 : X[1]? = some (.slice A1 n1 cap1) := at_eq hXs (by decide) e1
 have g2 : X[2]? = some (.slice A2 n2 cap2) := at_eq hXs (by decide) e2
 have g17 : X[17]? = some (.slice A17 n17 cap17) := at_eq hXs (by decide) e17
 have g18 : X[18]? = some (.slice A18 n18 cap18) := at_eq hXs (by decide) e18
 have g19 : X[19]? = some (.slice A19 n19 cap19) := at_eq hXs (by decide) e19
 have g20 : X[20]? = some (.slice A20 n20 cap20) := at_eq hXs (by decide) e20
 have g21 : X[21]? = some (.slice A21 n21 cap21) := at_eq hXs (by decide) e21
 have HK1 := hide hk1
 have HA1 := hide hA1
 have hn1 : n1 ≤ 140737488351232 := by have := hk1.room; simp only [tby] at this; omega
 have HK17 := hide hk17
 have HA17 := hide hA17
 have hn17 : n17 ≤ 140737488351232 := by have := hk17.room; simp only [tby] at this; omega
 have HK19 := hide hk19
 have HA19 := hide hA19
 have hn19 : n19 ≤ 140737488351232 := by have := hk19.room; simp only [tby] at this; omega
 have HK20 := hide hk20
 have HA20 := hide hA20
 have HSM := hide (show n17 ≤ 20 → n18 ≤ 40 → n19 ≤ 150 → (∀ i, i < n17 → (c17 i 7).n ≤ 20 ∧ (c17 i 12).n ≤ 20) → (∀ i, i < n19 → (c19 i 8).n ≤ 30) → Sml ck from fun a b c d e =>
  ⟨by rw [q18]; show n18 ≤ _; omega, by rw [q17]; show n17 ≤ _; omega, by rw [q19]; show n19 ≤ _; omega, by rw [q19]; exact fun k hk => Nat.le_trans (e k hk) (by decide), by rw [q17]; exact fun k hk => Nat.le_trans (d k hk).1 (by decide), by rw [q17]; exact fun k hk => Nat.le_trans (d k hk).2 (by decide)⟩)
 clear e0 hk0 hA0 q0 e1 hk1 hA1 q1 e2 hk2 hA2 q2 e17 hk17 hA17 q17 e18 hk18 hA18 q18 e19 hk19 hA19 q19 e20 hk20 hA20 q20 e21 hk21 hA21 q21 hX hXs
 by_cases h0 : (20 : Int) < n0
 ·go_enter Tryz.func7, Tryz.ntmps7
  go_wp2_with fail
  go_ret
  exact ⟨true, rfl, nofun, by (repeat (first | (with_reducible first | exact Below.refl _ _ | assumption | refine Below.drew ?_) | ((with_reducible first | refine Below.alloc ?_ ?_ _ | refine Below.setCell ?_ ?_ _); rotate_left; (first | omega | (simp <;> omega)))))⟩
 by_cases h1 : (10 : Int) < n1
 ·go_enter Tryz.func7, Tryz.ntmps7
  go_wp2_with fail
  go_ret
  exact ⟨true, rfl, nofun, by (repeat (first | (with_reducible first | exact Below.refl _ _ | assumption | refine Below.drew ?_) | ((with_reducible first | refine Below.alloc ?_ ?_ _ | refine Below.setCell ?_ ?_ _); rotate_left; (first | omega | (simp <;> omega)))))⟩
 by_cases h2 : (60 : Int) < n2
 ·go_enter Tryz.func7, Tryz.ntmps7
  go_wp2_with fail
  go_ret
  exact ⟨true, rfl, nofun, by (repeat (first | (with_reducible first | exact Below.refl _ _ | assumption | refine Below.drew ?_) | ((with_reducible first | refine Below.alloc ?_ ?_ _ | refine Below.setCell ?_ ?_ _); rotate_left; (first | omega | (simp <;> omega)))))⟩
 by_cases h3 : (20 : Int) < n17
 ·go_enter Tryz.func7, Tryz.ntmps7
  go_wp2_with fail
  go_ret
  exact ⟨true, rfl, nofun, by (repeat (first | (with_reducible first | exact Below.refl _ _ | assumption | refine Below.drew ?_) | ((with_reducible first | refine Below.alloc ?_ ?_ _ | refine Below.setCell ?_ ?_ _); rotate_left; (first | omega | (simp <;> omega)))))⟩
 by_cases h4 : (40 : Int) < n18
 ·go_enter Tryz.func7, Tryz.ntmps7
  go_wp2_with fail
  go_ret
  exact ⟨true, rfl, nofun, by (repeat (first | (with_reducible first | exact Below.refl _ _ | assumption | refine Below.drew ?_) | ((with_reducible first | refine Below.alloc ?_ ?_ _ | refine Below.setCell ?_ ?_ _); rotate_left; (first | omega | (simp <;> omega)))))⟩
 by_cases h5 : (150 : Int) < n19
 ·go_enter Tryz.func7, Tryz.ntmps7
  go_wp2_with fail
  go_ret
  exact ⟨true, rfl, nofun, by (repeat (first | (with_reducible first | exact Below.refl _ _ | assumption | refine Below.drew ?_) | ((with_reducible first | refine Below.alloc ?_ ?_ _ | refine Below.setCell ?_ ?_ _); rotate_left; (first | omega | (simp <;> omega)))))⟩
 go_enter Tryz.func7, Tryz.ntmps7
 go_wp2_with fail
 refine (hgr_any A20 n20 cap20 c20 C20 HK20.out _ (HA20.out.below belT)).mono ?_
 rintro r w1 ⟨b0, rfl, _, hb⟩
 have H1 := hide hb
 have q1B : Below w.heap.size w w1 := qB hb
 have q1z := hb.size
 try simp at q1z
 have q1t : w.heap.size ≤ w1.heap.size := (by omega)
 obtain ⟨q1s0, q1n0_0, q1n0_1, q1n0_2⟩ := kB w1.heap.size w.heap.size
 have q1c0_0 := cel hb w.heap.size 0
 simp [go_sem, *] at q1c0_0
 have q1c0_1 := cel hb w.heap.size 1
 simp [go_sem, *] at q1c0_1
 have q1c0_2 := cel hb w.heap.size 2
 simp [go_sem, *] at q1c0_2
 have q1c0_17 := cel hb w.heap.size 17
 simp [go_sem, *] at q1c0_17
 have q1c0_18 := cel hb w.heap.size 18
 simp [go_sem, *] at q1c0_18
 have q1c0_19 := cel hb w.heap.size 19
 simp [go_sem, *] at q1c0_19
 have q1c0_20 := cel hb w.heap.size 20
 simp [go_sem, *] at q1c0_20
 have q1c0_21 := cel hb w.heap.size 21
 simp [go_sem, *] at q1c0_21
 have q1f0 := fun o => fro hb w.heap.size o
 simp [go_sem, *] at q1f0
 have q1o := belO q1B
 clear hb
 have Q1 := hide q1B
 cases b0 with
 | true =>
  go_wp2_with fail
  go_ret
  exact ⟨true, rfl, nofun, Q1.out⟩
 | false =>
  by_cases h8 : (100 : Int) < n21
  ·go_wp2_with fail
   go_ret
   exact ⟨true, rfl, nofun, Q1.out⟩
  go_wp2_with fail
  go_loopw [3] (fun v wr => GrJ (fun i => (c17 i 7).n ≤ 20 ∧ (c17 i 12).n ≤ 20) n17 w1 v wr) (fun v _ => n17 - (intOf v).toNat)
  case atStart => exact ⟨0, by omega, rfl, fun i hi => by omega, Below.refl _ _⟩
  case round =>
   obtain ⟨k, hkn, rfl, hp, hb⟩ := hrel
   have H0 := hide hb
   have HP17 := hide hp
   have q2B : Below w1.heap.size w1 wr := qB hb
   have q2z := hb.size
   try simp at q2z
   have q2t : w1.heap.size ≤ wr.heap.size := (by omega)
   obtain ⟨q2s0, q2n0_0, q2n0_1, q2n0_2⟩ := kB wr.heap.size w.heap.size
   have q2c0_0 := cel hb w.heap.size 0
   simp [go_sem, *] at q2c0_0
   have q2c0_1 := cel hb w.heap.size 1
   simp [go_sem, *] at q2c0_1
   have q2c0_2 := cel hb w.heap.size 2
   simp [go_sem, *] at q2c0_2
   have q2c0_17 := cel hb w.heap.size 17
   simp [go_sem, *] at q2c0_17
   have q2c0_18 := cel hb w.heap.size 18
   simp [go_sem, *] at q2c0_18
   have q2c0_19 := cel hb w.heap.size 19
   simp [go_sem, *] at q2c0_19
   have q2c0_20 := cel hb w.heap.size 20
   simp [go_sem, *] at q2c0_20
   have q2c0_21 := cel hb w.heap.size 21
   simp [go_sem, *] at q2c0_21
   have q2f0 := fun o => fro hb w.heap.size o
   simp [go_sem, *] at q2f0
   have q2o := belO q2B
   clear hb
   have QB := hide (show Below w.heap.size w wr from Q1.out.trans (H0.out.mono Q1.out.size))
   by_cases hlt : k < n17
   ·have hm : (k : Int) < n17 := by omega
    have hk0 : (0 : Int) ≤ k := by omega
    have HLT := hide hlt
    obtain ⟨b, off, rfl, hbl, hc⟩ := (HA17.out.below QB.out).cells (by decide) hlt
    have HC := hide (show ∀ j v, (elA 8 C17 k)[j]? = some v → wr.cell? ⟨b, off + k * 19 + j, none⟩ = some v from hc)
    have HX := hide ((HA17.out.below QB.out).el HK17.out hlt)
    have HS := hide (pr_size (elA_size 8 C17 k))
    have HKN := hide (kn_of HK17.out hlt)
    clear hc hlt hkn hp
    go_wp2_with (with_reducible refine wpList_load_midA rfl 78 (.tmp 61) rfl b (off + k * 19) rfl (elA 8 C17 k) _ HC.out Tryz.underlying78 rfl HS.out ?_)
    refine (pgr_any HKN.out _ _ HX.out).mono ?_
    rintro r v0 ⟨b0, rfl, hpk, hb⟩
    have P0 := hide hb
    have HPK := hide hpk
    clear hpk
    cases b0 with
    | true =>
     go_wp2_with fail
     go_ret
     exact ⟨true, rfl, nofun, QB.out.trans (P0.out.mono QB.out.size)⟩
    | false =>
     go_wp2_with fail
     go_roundw
     case rel => exact ⟨k + 1, HLT.out, by go_num, grj_step HP17.out (HPK.out (by first | rfl | trivial)), H0.out.trans (P0.out.mono H0.out.size)⟩
     case measure => have := HLT.out; simp [intOf]; omega
   ·obtain rfl : k = n17 := by omega
    clear hlt hkn hp
    go_wp2_with fail
    go_loopw [4] (fun v wr => GrJ (fun i => (c19 i 8).n ≤ 30) n19 w1 v wr) (fun v _ => n19 - (intOf v).toNat)
    case atStart => exact ⟨0, by omega, rfl, fun i hi => by omega, H0.out⟩
    case round =>
     obtain ⟨k, hkn, rfl, hp, hb⟩ := hrel
     have H0 := hide hb
     have HP19 := hide hp
     have q2B : Below w1.heap.size w1 wr := qB hb
     have q2z := hb.size
     try simp at q2z
     have q2t : w1.heap.size ≤ wr.heap.size := (by omega)
     obtain ⟨q2s0, q2n0_0, q2n0_1, q2n0_2⟩ := kB wr.heap.size w.heap.size
     have q2c0_0 := cel hb w.heap.size 0
     simp [go_sem, *] at q2c0_0
     have q2c0_1 := cel hb w.heap.size 1
     simp [go_sem, *] at q2c0_1
     have q2c0_2 := cel hb w.heap.size 2
     simp [go_sem, *] at q2c0_2
     have q2c0_17 := cel hb w.heap.size 17
     simp [go_sem, *] at q2c0_17
     have q2c0_18 := cel hb w.heap.size 18
     simp [go_sem, *] at q2c0_18
     have q2c0_19 := cel hb w.heap.size 19
     simp [go_sem, *] at q2c0_19
     have q2c0_20 := cel hb w.heap.size 20
     simp [go_sem, *] at q2c0_20
     have q2c0_21 := cel hb w.heap.size 21
     simp [go_sem, *] at q2c0_21
     have q2f0 := fun o => fro hb w.heap.size o
     simp [go_sem, *] at q2f0
     have q2o := belO q2B
     clear hb
     have QB := hide (show Below w.heap.size w wr from Q1.out.trans (H0.out.mono Q1.out.size))
     by_cases hlt : k < n19
     ·have hm : (k : Int) < n19 := by omega
      have hk0 : (0 : Int) ≤ k := by omega
      have HLT := hide hlt
      obtain ⟨b, off, rfl, hbl, hc⟩ := (HA19.out.below QB.out).cells (by decide) hlt
      have HC := hide (show ∀ j v, (elA 11 C19 k)[j]? = some v → wr.cell? ⟨b, off + k * 10 + j, none⟩ = some v from hc)
      have HX := hide ((HA19.out.below QB.out).el HK19.out hlt)
      have HS := hide (en_size (elA_size 11 C19 k))
      have HKN := hide (kn_of HK19.out hlt)
      clear hc hlt hkn hp
      go_wp2_with (with_reducible refine wpList_load_midA rfl 82 (.tmp 74) rfl b (off + k * 10) rfl (elA 11 C19 k) _ HC.out Tryz.underlying82 rfl HS.out ?_)
      refine (egr_any HKN.out _ _ HX.out).mono ?_
      rintro r v0 ⟨b0, rfl, hpk, hb⟩
      have P0 := hide hb
      have HPK := hide hpk
      clear hpk
      cases b0 with
      | true =>
       go_wp2_with fail
       go_ret
       exact ⟨true, rfl, nofun, QB.out.trans (P0.out.mono QB.out.size)⟩
      | false =>
       go_wp2_with fail
       go_roundw
       case rel => exact ⟨k + 1, HLT.out, by go_num, grj_step HP19.out (HPK.out (by first | rfl | trivial)), H0.out.trans (P0.out.mono H0.out.size)⟩
       case measure => have := HLT.out; simp [intOf]; omega
     ·obtain rfl : k = n19 := by omega
      clear hlt hkn hp
      go_wp2_with fail
      go_loopw [5] (fun v wr => GrJ (fun _ => True) n1 w1 v wr) (fun v _ => n1 - (intOf v).toNat)
      case atStart => exact ⟨0, by omega, rfl, fun _ _ => trivial, H0.out⟩
      case round =>
       obtain ⟨k, hkn, rfl, _, hb⟩ := hrel
       have H0 := hide hb
       have q2B : Below w1.heap.size w1 wr := qB hb
       have q2z := hb.size
       try simp at q2z
       have q2t : w1.heap.size ≤ wr.heap.size := (by omega)
       obtain ⟨q2s0, q2n0_0, q2n0_1, q2n0_2⟩ := kB wr.heap.size w.heap.size
       have q2c0_0 := cel hb w.heap.size 0
       simp [go_sem, *] at q2c0_0
       have q2c0_1 := cel hb w.heap.size 1
       simp [go_sem, *] at q2c0_1
       have q2c0_2 := cel hb w.heap.size 2
       simp [go_sem, *] at q2c0_2
       have q2c0_17 := cel hb w.heap.size 17
       simp [go_sem, *] at q2c0_17
       have q2c0_18 := cel hb w.heap.size 18
       simp [go_sem, *] at q2c0_18
       have q2c0_19 := cel hb w.heap.size 19
       simp [go_sem, *] at q2c0_19
       have q2c0_20 := cel hb w.heap.size 20
       simp [go_sem, *] at q2c0_20
       have q2c0_21 := cel hb w.heap.size 21
       simp [go_sem, *] at q2c0_21
       have q2f0 := fun o => fro hb w.heap.size o
       simp [go_sem, *] at q2f0
       have q2o := belO q2B
       clear hb
       have QB := hide (show Below w.heap.size w wr from Q1.out.trans (H0.out.mono Q1.out.size))
       by_cases hlt : k < n1
       ·have hm : (k : Int) < n1 := by omega
        have hk0 : (0 : Int) ≤ k := by omega
        have HLT := hide hlt
        obtain ⟨b, off, rfl, hbl, hc⟩ := (HA1.out.below QB.out).cells (by decide) hlt
        obtain ⟨m1, d1, _, _, D1, x1, G1, e1, _, _⟩ := rd_row (e := 0) (HA1.out.rd k 1 hlt (by decide)) (HK1.out.wt k 1 hlt (by decide))
        obtain ⟨m2, d2, _, _, D2, x2, G2, e2, _, _⟩ := rd_row (e := 0) (HA1.out.rd k 2 hlt (by decide)) (HK1.out.wt k 2 hlt (by decide))
        have cs1 : wr.cell? ⟨b, off + k * 3 + 1, none⟩ = some (.slice D1 m1 x1) := by rw [← e1]; exact hc 1 _ (elA_at 2 C1 k 1 (by decide))
        have cs2 : wr.cell? ⟨b, off + k * 3 + 2, none⟩ = some (.slice D2 m2 x2) := by rw [← e2]; exact hc 2 _ (elA_at 2 C1 k 2 (by decide))
        clear hc e1 e2 hlt hkn
        by_cases hs1 : (400 : Int) < m2
        ·go_wp2_with fail
         go_ret
         exact ⟨true, rfl, nofun, QB.out⟩
        by_cases hs2 : (20 : Int) < m1
        ·go_wp2_with fail
         go_ret
         exact ⟨true, rfl, nofun, QB.out⟩
        go_wp2_with fail
        go_roundw
        case rel => exact ⟨k + 1, HLT.out, by go_num, fun _ _ => trivial, H0.out⟩
        case measure => have := HLT.out; simp [intOf]; omega
       ·obtain rfl : k = n1 := by omega
        clear hlt hkn
        go_wp2_with fail
        go_ret
        exact ⟨false, rfl, fun _ => HSM.out (by omega) (by omega) (by omega) HP17.out HP19.out, QB.out⟩
end Go.Proofs.YtdjlaiilngechaaGreatDoor
