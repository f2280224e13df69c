/- Texts laid together: TqE TqF TqG TvA. -/
import Derived.Test.YtpghciiifnjimaaGreatDoorXTqC
import Derived.Test.YtpghciiifnjimaaGreatDoorXTpP
import Derived.Test.YtpghciiifnjimaaGreatDoorXTpD
import Derived.Test.YtpghciiifnjimaaGreatDoorXTpF
import Derived.Test.YtpghciiifnjimaaGreatDoorXTpJ
import Derived.Test.YtpghciiifnjimaaGreatDoorXK0
namespace Go.Proofs.YtpghciiifnjimaaGreatDoor
set_option maxRecDepth 4000
set_option linter.unusedSimpArgs false
set_option linter.unusedVariables false
open Go.RowKit
/-- Books with short lists. -/
structure FewT (ck : Nat → Tr) : Prop where
 an : (ck 18).n ≤ 8
 jn : (ck 19).n ≤ 90
 pn : (ck 17).n ≤ 12
 lg : ∀ k, k < (ck 19).n → ((ck 19).c k 8).n ≤ 12
set_option maxRecDepth 20000 in
set_option maxHeartbeats 8000000 in
theorem wfew51_any {ck : Nat → Tr} (kn : KnOK 15 ck) (X : Array Value) (w : World) (hX : ElT (Old w) w 15 ck X) :
  Calls Tryz.prog 17 #[.agg X] w (OkB (FewT ck) w) := by
 have hXs : X.size = 22 := hX.size
 obtain ⟨n0, c0, r0, hk0, A0, p0, C0, e0, _, hA0⟩ := rd_row (e := 1) (hX.rd 0 (by decide)) (kn 0 (by decide))
 have g0 : X[0]? = some (.slice A0 n0 p0) := at_eq hXs (by decide) e0
 obtain ⟨n1, c1, r1, hk1, A1, p1, C1, e1, _, hA1⟩ := rd_row (e := 2) (hX.rd 1 (by decide)) (kn 1 (by decide))
 have g1 : X[1]? = some (.slice A1 n1 p1) := at_eq hXs (by decide) e1
 have HK1 := hide hk1
 have HA1 := hide hA1
 obtain ⟨n2, c2, r2, hk2, A2, p2, C2, e2, _, hA2⟩ := rd_row (e := 3) (hX.rd 2 (by decide)) (kn 2 (by decide))
 have g2 : X[2]? = some (.slice A2 n2 p2) := at_eq hXs (by decide) e2
 obtain ⟨n17, c17, r17, hk17, A17, p17, C17, e17, _, hA17⟩ := rd_row (e := 8) (hX.rd 17 (by decide)) (kn 17 (by decide))
 have g17 : X[17]? = some (.slice A17 n17 p17) := at_eq hXs (by decide) e17
 obtain ⟨n18, c18, r18, hk18, A18, p18, C18, e18, _, hA18⟩ := rd_row (e := 9) (hX.rd 18 (by decide)) (kn 18 (by decide))
 have g18 : X[18]? = some (.slice A18 n18 p18) := at_eq hXs (by decide) e18
 obtain ⟨n19, c19, r19, hk19, A19, p19, C19, e19, _, hA19⟩ := rd_row (e := 11) (hX.rd 19 (by decide)) (kn 19 (by decide))
 have g19 : X[19]? = some (.slice A19 n19 p19) := at_eq hXs (by decide) e19
 have HK19 := hide hk19
 have HA19 := hide hA19
 obtain ⟨n20, c20, r20, hk20, A20, p20, C20, e20, _, hA20⟩ := rd_row (e := 12) (hX.rd 20 (by decide)) (kn 20 (by decide))
 have g20 : X[20]? = some (.slice A20 n20 p20) := at_eq hXs (by decide) e20
 obtain ⟨n21, c21, r21, hk21, A21, p21, C21, e21, _, hA21⟩ := rd_row (e := 13) (hX.rd 21 (by decide)) (kn 21 (by decide))
 have g21 : X[21]? = some (.slice A21 n21 p21) := at_eq hXs (by decide) e21
 have HF := hide (show n18 ≤ 8 → n19 ≤ 90 → n17 ≤ 12 → (∀ k, k < n19 → (c19 k 8).n ≤ 12) → FewT ck from fun a b d e => ⟨by rw [r18]; exact a, by rw [r19]; exact b, by rw [r17]; exact d, by rw [r19]; exact e⟩)
 clear hX kn hXs e0 r0 hk0 hA0 e1 r1 hk1 hA1 e2 r2 hk2 hA2 e17 r17 hk17 hA17 e18 r18 hk18 hA18 e19 r19 hk19 hA19 e20 r20 hk20 hA20 e21 r21 hk21 hA21
 go_enter Tryz.func17, Tryz.ntmps17
 go_wp2_with fail
 all_goals try (go_ret; exact ⟨_, rfl, fun h => absurd h (by decide), by (repeat (first | (with_reducible first | exact Below.refl _ _ | assumption | refine Below.drew ?_) | ((with_reducible first | refine Below.alloc ?_ ?_ _ | refine Below.setCell ?_ ?_ _); rotate_left; (first | omega | (simp <;> omega)))))⟩)
 have b1 : n1 ≤ 4 := by omega
 have b18 : n18 ≤ 8 := by omega
 have b19 : n19 ≤ 90 := by omega
 have b17 : n17 ≤ 12 := by omega
 have HF2 := hide (HF.out b18 b19 b17)
 go_loopw [3] (fun v wr => KB n1 (w.alloc (.cells X 33)) v wr) (fun v _ => n1 - (intOf v).toNat)
 case atStart => exact ⟨0, by omega, rfl, Below.refl _ _⟩
 case round =>
  obtain ⟨k, hkn, rfl, hb⟩ := hrel
  have H0 := hide hb
  have q1B : Below w.heap.size w wr := qB hb
  have q1z := hb.size
  try simp at q1z
  have q1t : w.heap.size ≤ wr.heap.size := (by omega)
  obtain ⟨q1s0, q1n0_0, q1n0_1, q1n0_2⟩ := kB wr.heap.size w.heap.size
  have q1c0_1 := cel hb w.heap.size 1
  simp [go_sem, *] at q1c0_1
  have q1c0_19 := cel hb w.heap.size 19
  simp [go_sem, *] at q1c0_19
  have q1f0 := fun o => fro hb w.heap.size o
  simp [go_sem, *] at q1f0
  have q1o := belO q1B
  clear hb
  have BL := hide q1B
  clear g0 g1 g2 g17 g18 g19 g20 g21
  by_cases hlt : k < n1
  ·have hm : (k : Int) < n1 := by omega
   have hk0 : (0 : Int) ≤ k := by omega
   have HLT := hide hlt
   obtain ⟨b, off, rfl, hbl, hc⟩ := (HA1.out.below BL.out).all (by decide) (by omega)
   obtain ⟨yn1, yk1, yq1, yhk1, yA1, yp1, yC1, ye1, _, yhA1⟩ := rd_row (e := 0) (HA1.out.rd (k) 1 hlt (by decide)) (HK1.out.wt (k) 1 hlt (by decide))
   have yc1 : wr.cell? ⟨b, off + k * 3 + 1, none⟩ = some (.slice yA1 yn1 yp1) := by have hcc := hc (k) 1 hlt (by decide); rw [ye1] at hcc; exact hcc
   clear ye1
   obtain ⟨yn2, yk2, yq2, yhk2, yA2, yp2, yC2, ye2, _, yhA2⟩ := rd_row (e := 0) (HA1.out.rd (k) 2 hlt (by decide)) (HK1.out.wt (k) 2 hlt (by decide))
   have yc2 : wr.cell? ⟨b, off + k * 3 + 2, none⟩ = some (.slice yA2 yn2 yp2) := by have hcc := hc (k) 2 hlt (by decide); rw [ye2] at hcc; exact hcc
   clear ye2
   clear hlt hkn hc yhA1 yhA2 yhk1 yhk2
   go_wp2_with fail
   all_goals first
    | (go_ret; exact ⟨_, rfl, fun h => absurd h (by decide), BL.out.trans belT⟩)
    | (go_roundw; (case rel => exact ⟨k + 1, HLT.out, by go_num, H0.out.trans belT⟩); (case measure => have := HLT.out; simp [intOf]; omega))
  ·have hge : (n1 : Int) ≤ k := by omega
   clear hlt hkn
   obtain ⟨wq, hwq⟩ : ∃ x, x = wr := ⟨_, rfl⟩
   subst hwq
   have HQ := hide BL.out
   go_wp2_with fail
   go_loopw [4] (fun v wr => KP n19 (fun k => (c19 k 8).n ≤ 12) wq v wr) (fun v _ => n19 - (intOf v).toNat)
   case atStart => exact ⟨0, by omega, rfl, fun i hi => by omega, Below.refl _ _⟩
   case round =>
    clear hge
    obtain ⟨k, hkn, rfl, hp, hb⟩ := hrel
    have H0 := hide hb
    have HP := hide hp
    clear hp
    have q2B : Below wq.heap.size wq wr := qB hb
    have q2z := hb.size
    try simp at q2z
    have q2t : wq.heap.size ≤ wr.heap.size := (by omega)
    obtain ⟨q2s0, q2n0_0, q2n0_1, q2n0_2⟩ := kB wr.heap.size w.heap.size
    have q2c0_19 := cel hb w.heap.size 19
    simp [go_sem, *] at q2c0_19
    have q2f0 := fun o => fro hb w.heap.size o
    simp [go_sem, *] at q2f0
    have q2o := belO q2B
    clear hb
    have BL := hide (HQ.out.trans (H0.out.mono HQ.out.size))
    by_cases hlt : k < n19
    ·have hm : (k : Int) < n19 := by omega
     have hk0 : (0 : Int) ≤ k := by omega
     have HLT := hide hlt
     obtain ⟨b, off, rfl, hbl, hc⟩ := (HA19.out.below BL.out).all (by decide) (by omega)
     obtain ⟨m, c8, q8, _, A8, p8, C8, e8, _, _⟩ := rd_row (e := 10) (HA19.out.rd k 8 hlt (by decide)) (HK19.out.wt k 8 hlt (by decide))
     have d8 : wr.cell? ⟨b, off + k * 10 + 8, none⟩ = some (.slice A8 m p8) := by have hcc := hc k 8 hlt (by decide); rw [e8] at hcc; exact hcc
     have HM := hide (show m ≤ 12 → (c19 k 8).n ≤ 12 from fun h => by rw [q8]; exact h)
     clear hlt hkn hc e8 q8
     by_cases h12 : 12 < m
     ·have dm : decide ((12 : Int) < m) = true := decide_eq_true (by omega)
      clear h12
      go_wp2_with fail
      go_ret
      exact ⟨_, rfl, fun h => absurd h (by decide), BL.out.trans belT⟩
     ·have dm : decide ((12 : Int) < m) = false := decide_eq_false (by omega)
      have HG := hide (HM.out (by omega))
      clear h12
      go_wp2_with fail
      go_roundw
      case rel => exact ⟨k + 1, HLT.out, by go_num, kp_next HP.out HG.out, H0.out.trans belT⟩
      case measure => have := HLT.out; simp [intOf]; omega
    ·obtain rfl : k = n19 := by omega
     clear hlt hkn
     go_wp2_with fail
     go_ret
     exact ⟨_, rfl, fun _ => HF2.out HP.out, BL.out.trans belT⟩
/-- What right books say. -/
structure SndT (ck : Nat → Tr) : Prop where
 ve : ∀ k, k < (ck 19).n → VeP (ck 19).c k
 id : ∀ k, k < (ck 18).n → 1000 ≤ intOf (lfv ((ck 18).c k 0))
 ti : ∀ i, i < (ck 17).n → ((ck 17).c i 7).n ≤ 6 ∧ ((ck 17).c i 12).n ≤ 6
theorem sml_of {ck : Nat → Tr} (hF : FewT ck) (ti : ∀ i, i < (ck 17).n → ((ck 17).c i 7).n ≤ 6 ∧ ((ck 17).c i 12).n ≤ 6) : Sml ck :=
 ⟨by have := hF.an; omega, by have := hF.pn; omega, by have := hF.jn; omega, fun k hk => by have := hF.lg k hk; omega, fun k hk => by have := (ti k hk).1; omega, fun k hk => by have := (ti k hk).2; omega⟩
/-- The accounts' Ids, in the trees' terms. -/
theorem acc_id {B : LBk} (hB : BkOK B) {w : World} (hw : BkIn w B) {ck : Nat → Tr} (kn : KnOK 15 ck) (hX : ElT (Old w) w 15 ck B.C) : (ck 18).n = B.an ∧ ∀ k, k < B.an → intOf (lfv ((ck 18).c k 0)) = (B.a k).id := by
 have hXs : B.C.size = 22 := hX.size
 obtain ⟨n, c, q, hk, A, cap, C, e, _, hr⟩ := rd_row (e := 9) (hX.rd 18 (by decide)) (kn 18 (by decide))
 have g := at_eq hXs (by decide) e
 rw [hB.bks.acc] at g
 injection g with g
 injection g with gA gn gc
 refine ⟨by rw [q]; exact gn.symm, fun k hkn => ?_⟩
 obtain ⟨b, off, eA, hbl, c0, _⟩ := hw.acc.at hkn
 obtain ⟨b2, o2, e2, _, hc2⟩ := hr.all (by decide) (show 0 < n by omega)
 rw [gA, e2] at eA
 injection eA with eA
 injection eA with e3 e4 _
 obtain ⟨z, qz, ez, _⟩ := rd_int (hr.rd k 0 (by omega) (by decide)) (hk.wt k 0 (by omega) (by decide))
 have m := hc2 k 0 (by omega) (by decide)
 rw [ez] at m
 subst e3 e4
 have m2 := m.symm.trans c0
 injection m2 with m2
 injection m2 with _ m2
 rw [q]
 show intOf (lfv (c k 0)) = _
 rw [qz]
 exact m2
/-- The entries' Ids and booking days, in the trees' terms. -/
theorem ent_id {B : LBk} (hB : BkOK B) {w : World} (hw : BkIn w B) {ck : Nat → Tr} (kn : KnOK 15 ck) (hX : ElT (Old w) w 15 ck B.C) : (ck 19).n = B.jn ∧ ∀ k, k < B.jn → intOf (lfv ((ck 19).c k 0)) = (B.E k).id ∧ intOf (lfv ((ck 19).c k 1)) = (B.E k).bk := by
 have hXs : B.C.size = 22 := hX.size
 obtain ⟨n, c, q, hk, A, cap, C, e, _, hr⟩ := rd_row (e := 11) (hX.rd 19 (by decide)) (kn 19 (by decide))
 have g := at_eq hXs (by decide) e
 rw [hB.bks.jou] at g
 injection g with g
 injection g with gA gn gc
 refine ⟨by rw [q]; exact gn.symm, fun k hkn => ?_⟩
 obtain ⟨b, off, eA, hbl, c0, c1, _⟩ := hw.jrn.row.at hkn
 obtain ⟨b2, o2, e2, _, hc2⟩ := hr.all (by decide) (show 0 < n by omega)
 rw [gA, e2] at eA
 injection eA with eA
 injection eA with e3 e4 _
 obtain ⟨z, qz, ez, _⟩ := rd_int (hr.rd k 0 (by omega) (by decide)) (hk.wt k 0 (by omega) (by decide))
 obtain ⟨y, qy, ey, _⟩ := rd_int (hr.rd k 1 (by omega) (by decide)) (hk.wt k 1 (by omega) (by decide))
 have m := hc2 k 0 (by omega) (by decide)
 have m1 := hc2 k 1 (by omega) (by decide)
 rw [ez] at m
 rw [ey] at m1
 subst e3 e4
 have m2 := m.symm.trans c0
 injection m2 with m2
 injection m2 with _ m2
 have m3 := m1.symm.trans c1
 injection m3 with m3
 injection m3 with _ m3
 rw [q]
 refine ⟨?_, ?_⟩
 ·show intOf (lfv (c k 0)) = _
  rw [qz]
  exact m2
 ·show intOf (lfv (c k 1)) = _
  rw [qy]
  exact m3
end Go.Proofs.YtpghciiifnjimaaGreatDoor
namespace Go.Proofs.YtpghciiifnjimaaGreatDoor
set_option maxRecDepth 4000
set_option linter.unusedSimpArgs false
set_option linter.unusedVariables false
open Go.RowKit
set_option maxRecDepth 20000 in
set_option maxHeartbeats 16000000 in
theorem wcheck26_any {ck : Nat → Tr} (kn : KnOK 15 ck) (hF : FewT ck) (X : Array Value) (w : World) (hX : ElT (Old w) w 15 ck X) :
  Calls Tryz.prog 18 #[.agg X] w (OkE (SndT ck) w) := by
 have hXs : X.size = 22 := hX.size
 have HKN := hide kn
 have HX := hide hX
 have HSB := hide (show (Tryz.prog.info? 33).map (·.size) = some X.size by rw [hXs]; kernel_rfl)
 have HFT := hide hF
 obtain ⟨n0, c0, _, hk0, A0, p0, C0, e0, hq0, hA0⟩ := rd_row (e := 1) (hX.rd 0 (by decide)) (kn 0 (by decide))
 have g0 : X[0]? = some (.slice A0 n0 p0) := at_eq hXs (by decide) e0
 have HQ0 := hide hq0
 clear hq0
 have HK0 := hide hk0
 have HA0 := hide hA0
 clear e0 hk0 hA0
 obtain ⟨n1, c1, _, hk1, A1, p1, C1, e1, hq1, hA1⟩ := rd_row (e := 2) (hX.rd 1 (by decide)) (kn 1 (by decide))
 have g1 : X[1]? = some (.slice A1 n1 p1) := at_eq hXs (by decide) e1
 have HQ1 := hide hq1
 clear hq1
 have HK1 := hide hk1
 have HA1 := hide hA1
 clear e1 hk1 hA1
 obtain ⟨n2, c2, _, hk2, A2, p2, C2, e2, hq2, hA2⟩ := rd_row (e := 3) (hX.rd 2 (by decide)) (kn 2 (by decide))
 have g2 : X[2]? = some (.slice A2 n2 p2) := at_eq hXs (by decide) e2
 have HQ2 := hide hq2
 clear hq2
 have HK2 := hide hk2
 have HA2 := hide hA2
 clear e2 hk2 hA2
 obtain ⟨n20, c20, _, hk20, A20, p20, C20, e20, hq20, hA20⟩ := rd_row (e := 12) (hX.rd 20 (by decide)) (kn 20 (by decide))
 have g20 : X[20]? = some (.slice A20 n20 p20) := at_eq hXs (by decide) e20
 have HQ20 := hide hq20
 clear hq20
 have HK20 := hide hk20
 have HA20 := hide hA20
 clear e20 hk20 hA20
 obtain ⟨n21, c21, _, hk21, A21, p21, C21, e21, hq21, hA21⟩ := rd_row (e := 13) (hX.rd 21 (by decide)) (kn 21 (by decide))
 have g21 : X[21]? = some (.slice A21 n21 p21) := at_eq hXs (by decide) e21
 have HQ21 := hide hq21
 clear hq21
 have HK21 := hide hk21
 have HA21 := hide hA21
 clear e21 hk21 hA21
 obtain ⟨z3, _, e3, _⟩ := rd_int (hX.rd 3 (by decide)) (kn 3 (by decide))
 have g3 : X[3]? = some (.int .i64 z3) := at_eq hXs (by decide) e3
 clear e3
 obtain ⟨z4, _, e4, _⟩ := rd_int (hX.rd 4 (by decide)) (kn 4 (by decide))
 have g4 : X[4]? = some (.int .i64 z4) := at_eq hXs (by decide) e4
 clear e4
 obtain ⟨z5, _, e5, _⟩ := rd_int (hX.rd 5 (by decide)) (kn 5 (by decide))
 have g5 : X[5]? = some (.int .i64 z5) := at_eq hXs (by decide) e5
 clear e5
 obtain ⟨z6, _, e6, _⟩ := rd_int (hX.rd 6 (by decide)) (kn 6 (by decide))
 have g6 : X[6]? = some (.int .i64 z6) := at_eq hXs (by decide) e6
 clear e6
 obtain ⟨z7, _, e7, _⟩ := rd_int (hX.rd 7 (by decide)) (kn 7 (by decide))
 have g7 : X[7]? = some (.int .i64 z7) := at_eq hXs (by decide) e7
 clear e7
 obtain ⟨z8, _, e8, _⟩ := rd_int (hX.rd 8 (by decide)) (kn 8 (by decide))
 have g8 : X[8]? = some (.int .i64 z8) := at_eq hXs (by decide) e8
 clear e8
 obtain ⟨z9, _, e9, _⟩ := rd_int (hX.rd 9 (by decide)) (kn 9 (by decide))
 have g9 : X[9]? = some (.int .i64 z9) := at_eq hXs (by decide) e9
 clear e9
 obtain ⟨z10, _, e10, _⟩ := rd_int (hX.rd 10 (by decide)) (kn 10 (by decide))
 have g10 : X[10]? = some (.int .i64 z10) := at_eq hXs (by decide) e10
 clear e10
 obtain ⟨z11, _, e11, _⟩ := rd_int (hX.rd 11 (by decide)) (kn 11 (by decide))
 have g11 : X[11]? = some (.int .i64 z11) := at_eq hXs (by decide) e11
 clear e11
 obtain ⟨z12, _, e12, _⟩ := rd_int (hX.rd 12 (by decide)) (kn 12 (by decide))
 have g12 : X[12]? = some (.int .i64 z12) := at_eq hXs (by decide) e12
 clear e12
 obtain ⟨z13, _, e13, _⟩ := rd_int (hX.rd 13 (by decide)) (kn 13 (by decide))
 have g13 : X[13]? = some (.int .i64 z13) := at_eq hXs (by decide) e13
 clear e13
 obtain ⟨z14, _, e14, _⟩ := rd_int (hX.rd 14 (by decide)) (kn 14 (by decide))
 have g14 : X[14]? = some (.int .i64 z14) := at_eq hXs (by decide) e14
 clear e14
 obtain ⟨z15, _, e15, _⟩ := rd_int (hX.rd 15 (by decide)) (kn 15 (by decide))
 have g15 : X[15]? = some (.int .i64 z15) := at_eq hXs (by decide) e15
 clear e15
 obtain ⟨z16, _, e16, _⟩ := rd_int (hX.rd 16 (by decide)) (kn 16 (by decide))
 have g16 : X[16]? = some (.int .i64 z16) := at_eq hXs (by decide) e16
 clear e16
 clear hX kn hXs hF
 go_enter Tryz.func18, Tryz.ntmps18
 go_wp2_with fail
 refine (wcheck3_any A0 n0 p0 c0 C0 HK0.out _ (HA0.out.below belT)).mono ?_
 rintro r w1 ⟨⟨y0, rfl⟩, hb⟩
 have HC1 := hide (blk_below hb (by first | omega | (simp <;> omega)) (blk_new (w := w) (o := .cells X 33) rfl))
 have q1B : Below w.heap.size w w1 := qB hb
 have q1z := hb.size
 try simp at q1z
 have q1t : w.heap.size ≤ w1.heap.size := (by omega)
 obtain ⟨q1s0, q1n0_0, q1n0_1, q1n0_2⟩ := kB w1.heap.size w.heap.size
 have q1c0_1 := cel hb w.heap.size 1
 simp [go_sem, *] at q1c0_1
 have q1c0_2 := cel hb w.heap.size 2
 simp [go_sem, *] at q1c0_2
 have q1c0_3 := cel hb w.heap.size 3
 simp [go_sem, *] at q1c0_3
 have q1c0_4 := cel hb w.heap.size 4
 simp [go_sem, *] at q1c0_4
 have q1c0_5 := cel hb w.heap.size 5
 simp [go_sem, *] at q1c0_5
 have q1c0_6 := cel hb w.heap.size 6
 simp [go_sem, *] at q1c0_6
 have q1c0_7 := cel hb w.heap.size 7
 simp [go_sem, *] at q1c0_7
 have q1c0_8 := cel hb w.heap.size 8
 simp [go_sem, *] at q1c0_8
 have q1c0_9 := cel hb w.heap.size 9
 simp [go_sem, *] at q1c0_9
 have q1c0_10 := cel hb w.heap.size 10
 simp [go_sem, *] at q1c0_10
 have q1c0_11 := cel hb w.heap.size 11
 simp [go_sem, *] at q1c0_11
 have q1c0_12 := cel hb w.heap.size 12
 simp [go_sem, *] at q1c0_12
 have q1c0_13 := cel hb w.heap.size 13
 simp [go_sem, *] at q1c0_13
 have q1c0_14 := cel hb w.heap.size 14
 simp [go_sem, *] at q1c0_14
 have q1c0_15 := cel hb w.heap.size 15
 simp [go_sem, *] at q1c0_15
 have q1c0_16 := cel hb w.heap.size 16
 simp [go_sem, *] at q1c0_16
 have q1c0_20 := cel hb w.heap.size 20
 simp [go_sem, *] at q1c0_20
 have q1c0_21 := cel hb w.heap.size 21
 simp [go_sem, *] at q1c0_21
 have q1f0 := fun o => fro hb w.heap.size o
 simp [go_sem, *] at q1f0
 have q1o := belO q1B
 clear hb
 have Q1 := hide q1B
 clear g0 g1 g2 g20 g21 g3 g4 g5 g6 g7 g8 g9 g10 g11 g12 g13 g14 g15 g16
 by_cases hz0 : y0 ≠ 0
 ·have dE : (y0 == 0) = false := by simpa using hz0
  have HZ := hide hz0
  clear hz0
  go_wp2_with fail
  go_ret
  exact ⟨_, rfl, fun h => absurd h HZ.out, Q1.out⟩
 ·replace hz0 : y0 = 0 := Decidable.of_not_not hz0
  have dE0 : (y0 == 0) = true := by simp [hz0]
  clear hz0
  go_wp2_with fail
  refine (wcals_any A1 n1 p1 c1 C1 HK1.out _ (HA1.out.below (Q1.out.trans belT))).mono ?_
  rintro r w2 ⟨⟨y1, rfl⟩, hb⟩
  have BX : Below w1.heap.size w1 w2 := qB hb
  have HC2 := hide (blk_below BX (by omega) HC1.out)
  clear BX
  have q2B : Below w1.heap.size w1 w2 := qB hb
  have q2z := hb.size
  try simp at q2z
  have q2t : w1.heap.size ≤ w2.heap.size := (by omega)
  obtain ⟨q2s0, q2n0_0, q2n0_1, q2n0_2⟩ := kB w2.heap.size w.heap.size
  have q2c0_2 := cel hb w.heap.size 2
  simp [go_sem, *] at q2c0_2
  have q2c0_3 := cel hb w.heap.size 3
  simp [go_sem, *] at q2c0_3
  have q2c0_4 := cel hb w.heap.size 4
  simp [go_sem, *] at q2c0_4
  have q2c0_5 := cel hb w.heap.size 5
  simp [go_sem, *] at q2c0_5
  have q2c0_6 := cel hb w.heap.size 6
  simp [go_sem, *] at q2c0_6
  have q2c0_7 := cel hb w.heap.size 7
  simp [go_sem, *] at q2c0_7
  have q2c0_8 := cel hb w.heap.size 8
  simp [go_sem, *] at q2c0_8
  have q2c0_9 := cel hb w.heap.size 9
  simp [go_sem, *] at q2c0_9
  have q2c0_10 := cel hb w.heap.size 10
  simp [go_sem, *] at q2c0_10
  have q2c0_11 := cel hb w.heap.size 11
  simp [go_sem, *] at q2c0_11
  have q2c0_12 := cel hb w.heap.size 12
  simp [go_sem, *] at q2c0_12
  have q2c0_13 := cel hb w.heap.size 13
  simp [go_sem, *] at q2c0_13
  have q2c0_14 := cel hb w.heap.size 14
  simp [go_sem, *] at q2c0_14
  have q2c0_15 := cel hb w.heap.size 15
  simp [go_sem, *] at q2c0_15
  have q2c0_16 := cel hb w.heap.size 16
  simp [go_sem, *] at q2c0_16
  have q2c0_20 := cel hb w.heap.size 20
  simp [go_sem, *] at q2c0_20
  have q2c0_21 := cel hb w.heap.size 21
  simp [go_sem, *] at q2c0_21
  have q2f0 := fun o => fro hb w.heap.size o
  simp [go_sem, *] at q2f0
  have q2o := belO q2B
  clear hb q1o q1f0 q1c0_21 q1c0_20 q1c0_16 q1c0_15 q1c0_14 q1c0_13 q1c0_12 q1c0_11 q1c0_10 q1c0_9 q1c0_8 q1c0_7 q1c0_6 q1c0_5 q1c0_4 q1c0_3 q1c0_2 q1c0_1 q1s0 q1z q1B
  have Q2 := hide (Q1.out.trans (q2B.mono Q1.out.size))
  by_cases hz1 : y1 ≠ 0
  ·have dE : (y1 == 0) = false := by simpa using hz1
   have HZ := hide hz1
   clear hz1
   go_wp2_with fail
   go_ret
   exact ⟨_, rfl, fun h => absurd h HZ.out, Q2.out⟩
  ·replace hz1 : y1 = 0 := Decidable.of_not_not hz1
   have dE1 : (y1 == 0) = true := by simp [hz1]
   clear hz1
   go_wp2_with fail
   refine (wchart_any A2 n2 p2 c2 C2 HQ2.out HK2.out _ [z3, z4, z5, z6, z7, z8, z9, z10, z11, z12, z13, z14, z15, z16] rfl rfl _ (HA2.out.below (Q2.out.trans belT))).mono ?_
   rintro r w3 ⟨⟨y2, rfl⟩, hb⟩
   have BX : Below w2.heap.size w2 w3 := qB hb
   have HC3 := hide (blk_below BX (by omega) HC2.out)
   clear BX
   have q3B : Below w2.heap.size w2 w3 := qB hb
   have q3z := hb.size
   try simp at q3z
   have q3t : w2.heap.size ≤ w3.heap.size := (by omega)
   obtain ⟨q3s0, q3n0_0, q3n0_1, q3n0_2⟩ := kB w3.heap.size w.heap.size
   have q3c0_20 := cel hb w.heap.size 20
   simp [go_sem, *] at q3c0_20
   have q3c0_21 := cel hb w.heap.size 21
   simp [go_sem, *] at q3c0_21
   have q3f0 := fun o => fro hb w.heap.size o
   simp [go_sem, *] at q3f0
   have q3o := belO q3B
   clear hb q2o q2f0 q2c0_21 q2c0_20 q2c0_16 q2c0_15 q2c0_14 q2c0_13 q2c0_12 q2c0_11 q2c0_10 q2c0_9 q2c0_8 q2c0_7 q2c0_6 q2c0_5 q2c0_4 q2c0_3 q2c0_2 q2s0 q2z q2B
   have Q3 := hide (Q2.out.trans (q3B.mono Q2.out.size))
   by_cases hz2 : y2 ≠ 0
   ·have dE : (y2 == 0) = false := by simpa using hz2
    have HZ := hide hz2
    clear hz2
    go_wp2_with fail
    go_ret
    exact ⟨_, rfl, fun h => absurd h HZ.out, Q3.out⟩
   ·replace hz2 : y2 = 0 := Decidable.of_not_not hz2
    have dE2 : (y2 == 0) = true := by simp [hz2]
    clear hz2
    go_wp2_with (with_reducible refine wpList_load_row rfl 33 (.tmp 1) rfl w.heap.size rfl 33 X (0, 0) _ HC3.out Tryz.underlying33 rfl HSB.out ?_)
    refine (wprods_any (fun _ k W Y h => wright_any k W Y h) HKN.out _ _ (HX.out.below (Q3.out.trans belT))).mono ?_
    rintro r w4 ⟨y3, rfl, hE, hb⟩
    have HE3 := hide hE
    clear hE
    have BX : Below w3.heap.size w3 w4 := qB hb
    have HC4 := hide (blk_below BX (by omega) HC3.out)
    clear BX
    have q4B : Below w3.heap.size w3 w4 := qB hb
    have q4z := hb.size
    try simp at q4z
    have q4t : w3.heap.size ≤ w4.heap.size := (by omega)
    obtain ⟨q4s0, q4n0_0, q4n0_1, q4n0_2⟩ := kB w4.heap.size w.heap.size
    have q4c0_20 := cel hb w.heap.size 20
    simp [go_sem, *] at q4c0_20
    have q4c0_21 := cel hb w.heap.size 21
    simp [go_sem, *] at q4c0_21
    have q4f0 := fun o => fro hb w.heap.size o
    simp [go_sem, *] at q4f0
    have q4o := belO q4B
    clear hb q3o q3f0 q3c0_21 q3c0_20 q3s0 q3z q3B
    have Q4 := hide (Q3.out.trans (q4B.mono Q3.out.size))
    by_cases hz3 : y3 ≠ 0
    ·have dE : (y3 == 0) = false := by simpa using hz3
     have HZ := hide hz3
     clear hz3
     go_wp2_with fail
     go_ret
     exact ⟨_, rfl, fun h => absurd h HZ.out, Q4.out⟩
    ·replace hz3 : y3 = 0 := Decidable.of_not_not hz3
     have dE3 : (y3 == 0) = true := by simp [hz3]
     have HTI := hide (HE3.out hz3)
     obtain ⟨B, rfl, hB, hw⟩ := bk_of HKN.out (sml_of HFT.out HTI.out) HX.out
     have HB := hide hB
     have HW := hide hw
     have HXB := hide HX.out
     have HAI := hide (acc_id hB hw HKN.out HX.out)
     clear hB hw
     clear hz3
     go_wp2_with (with_reducible refine wpList_load_row rfl 33 (.tmp 1) rfl w.heap.size rfl 33 B.C (0, 0) _ HC4.out Tryz.underlying33 rfl HSB.out ?_)
     refine (wcheck24_any B HB.out _ (HW.out.below (Q4.out.trans belT))).mono ?_
     rintro r w5 ⟨y4, rfl, hE, hb⟩
     have HE4 := hide hE
     clear hE
     have BX : Below w4.heap.size w4 w5 := qB hb
     have HC5 := hide (blk_below BX (by omega) HC4.out)
     clear BX
     have q5B : Below w4.heap.size w4 w5 := qB hb
     have q5z := hb.size
     try simp at q5z
     have q5t : w4.heap.size ≤ w5.heap.size := (by omega)
     obtain ⟨q5s0, q5n0_0, q5n0_1, q5n0_2⟩ := kB w5.heap.size w.heap.size
     have q5c0_20 := cel hb w.heap.size 20
     simp [go_sem, *] at q5c0_20
     have q5c0_21 := cel hb w.heap.size 21
     simp [go_sem, *] at q5c0_21
     have q5f0 := fun o => fro hb w.heap.size o
     simp [go_sem, *] at q5f0
     have q5o := belO q5B
     clear hb q4o q4f0 q4c0_21 q4c0_20 q4s0 q4z q4B
     have Q5 := hide (Q4.out.trans (q5B.mono Q4.out.size))
     by_cases hz4 : y4 ≠ 0
     ·have dE : (y4 == 0) = false := by simpa using hz4
      have HZ := hide hz4
      clear hz4
      go_wp2_with fail
      go_ret
      exact ⟨_, rfl, fun h => absurd h HZ.out, Q5.out⟩
     ·replace hz4 : y4 = 0 := Decidable.of_not_not hz4
      have dE4 : (y4 == 0) = true := by simp [hz4]
      have HID := hide (show ∀ k, k < (ck 18).n → 1000 ≤ intOf (lfv ((ck 18).c k 0)) from fun k hk => by have h := HAI.out.2 k (by rw [← HAI.out.1]; exact hk); rw [h]; exact HE4.out hz4 k (by rw [← HAI.out.1]; exact hk))
      clear hz4
      go_wp2_with (with_reducible refine wpList_load_row rfl 33 (.tmp 1) rfl w.heap.size rfl 33 B.C (0, 0) _ HC5.out Tryz.underlying33 rfl HSB.out ?_)
      refine (wentries26_any B HB.out HKN.out _ (HW.out.below (Q5.out.trans belT)) (HXB.out.below (Q5.out.trans belT))).mono ?_
      rintro r w6 ⟨y5, rfl, hE, hb⟩
      have HE5 := hide hE
      clear hE
      have BX : Below w5.heap.size w5 w6 := qB hb
      have HC6 := hide (blk_below BX (by omega) HC5.out)
      clear BX
      have q6B : Below w5.heap.size w5 w6 := qB hb
      have q6z := hb.size
      try simp at q6z
      have q6t : w5.heap.size ≤ w6.heap.size := (by omega)
      obtain ⟨q6s0, q6n0_0, q6n0_1, q6n0_2⟩ := kB w6.heap.size w.heap.size
      have q6c0_20 := cel hb w.heap.size 20
      simp [go_sem, *] at q6c0_20
      have q6c0_21 := cel hb w.heap.size 21
      simp [go_sem, *] at q6c0_21
      have q6f0 := fun o => fro hb w.heap.size o
      simp [go_sem, *] at q6f0
      have q6o := belO q6B
      clear hb q5o q5f0 q5c0_21 q5c0_20 q5s0 q5z q5B
      have Q6 := hide (Q5.out.trans (q6B.mono Q5.out.size))
      by_cases hz5 : y5 ≠ 0
      ·have dE : (y5 == 0) = false := by simpa using hz5
       have HZ := hide hz5
       clear hz5
       go_wp2_with fail
       go_ret
       exact ⟨_, rfl, fun h => absurd h HZ.out, Q6.out⟩
      ·replace hz5 : y5 = 0 := Decidable.of_not_not hz5
       have dE5 : (y5 == 0) = true := by simp [hz5]
       have HSN := hide (show SndT ck from ⟨HE5.out hz5, HID.out, HTI.out⟩)
       clear hz5
       go_wp2_with fail
       refine (wcheck22_any A20 n20 p20 c20 C20 HQ20.out HK20.out _ (HA20.out.below (Q6.out.trans belT))).mono ?_
       rintro r w7 ⟨⟨y6, rfl⟩, hb⟩
       have BX : Below w6.heap.size w6 w7 := qB hb
       have HC7 := hide (blk_below BX (by omega) HC6.out)
       clear BX
       have q7B : Below w6.heap.size w6 w7 := qB hb
       have q7z := hb.size
       try simp at q7z
       have q7t : w6.heap.size ≤ w7.heap.size := (by omega)
       obtain ⟨q7s0, q7n0_0, q7n0_1, q7n0_2⟩ := kB w7.heap.size w.heap.size
       have q7c0_21 := cel hb w.heap.size 21
       simp [go_sem, *] at q7c0_21
       have q7f0 := fun o => fro hb w.heap.size o
       simp [go_sem, *] at q7f0
       have q7o := belO q7B
       clear hb q6o q6f0 q6c0_21 q6c0_20 q6s0 q6z q6B
       have Q7 := hide (Q6.out.trans (q7B.mono Q6.out.size))
       by_cases hz6 : y6 ≠ 0
       ·have dE : (y6 == 0) = false := by simpa using hz6
        have HZ := hide hz6
        clear hz6
        go_wp2_with fail
        go_ret
        exact ⟨_, rfl, fun h => absurd h HZ.out, Q7.out⟩
       ·replace hz6 : y6 = 0 := Decidable.of_not_not hz6
        have dE6 : (y6 == 0) = true := by simp [hz6]
        clear hz6
        go_wp2_with fail
        refine (wcheck23_any A21 n21 p21 c21 C21 HQ21.out HK21.out _ (HA21.out.below (Q7.out.trans belT))).mono ?_
        rintro r w8 ⟨⟨y7, rfl⟩, hb⟩
        have BX : Below w7.heap.size w7 w8 := qB hb
        have HC8 := hide (blk_below BX (by omega) HC7.out)
        clear BX
        have q8B : Below w7.heap.size w7 w8 := qB hb
        have q8z := hb.size
        try simp at q8z
        have q8t : w7.heap.size ≤ w8.heap.size := (by omega)
        have q8o := belO q8B
        clear hb q7o q7f0 q7c0_21 q7s0 q7z q7B
        have Q8 := hide (Q7.out.trans (q8B.mono Q7.out.size))
        go_wp2_with fail
        go_ret
        exact ⟨_, rfl, fun _ => HSN.out, Q8.out⟩
end Go.Proofs.YtpghciiifnjimaaGreatDoor
namespace Go.Proofs.YtpghciiifnjimaaGreatDoor
set_option maxRecDepth 4000
set_option linter.unusedSimpArgs false
set_option linter.unusedVariables false
open Go.RowKit
section
variable {P : Program}
theorem wpList_load_rowH {ops : Array Oper} {rest : List Oper} {o : Oper} {a : Act} {w : World} {Q : Exit → Act → World → Prop} (hw : Region.wanted o (yielded ops a.tmps) = true) (ty : TypeId) (x : Operand) (ho : o.op = .load ty x)
  (g : Nat) (hx : a.eval x = .pointer (some ⟨g, 0, none⟩)) (t : TypeId) (cs : Array Value) (fr : Nat × Nat) (d : TypeDesc) (hg : w.heap[g]? = some (.cells cs t fr))
  (hu : P.underlying ty = some d) (hd : (match d with | .struct _ | .array _ _ => true | _ => false) = true) (hi : (P.info? ty).map (·.size) = some cs.size)
  (h : wpList P ops Q rest (a.put o.dst (.agg cs)) w) : wpList P ops Q (o :: rest) a w :=
 wpList_step fun _ hK => by simp only [hw, if_true]; exact wp_load_row ty x ho g hx t cs fr d hg hu hd hi (hK _ _ h)
end
set_option maxRecDepth 20000 in
set_option maxHeartbeats 4000000 in
theorem wsound_any {ck : Nat → Tr} (kn : KnOK 15 ck) (X : Array Value) (w : World) (hX : ElT (Old w) w 15 ck X) :
  Calls Tryz.prog 5 #[.agg X] w (OkB (FewT ck ∧ SndT ck) w) := by
 have HX := hide hX
 have KN := hide kn
 have HSB := hide (show (Tryz.prog.info? 33).map (·.size) = some X.size by rw [hX.size]; kernel_rfl)
 clear hX kn
 go_enter Tryz.func5, Tryz.ntmps5
 go_wp2_with (with_reducible refine wpList_load_row rfl 33 (.tmp 1) rfl w.heap.size rfl 33 X (0, 0) _ (blk_new rfl) Tryz.underlying33 rfl HSB.out ?_)
 refine (wfew51_any KN.out X _ (HX.out.below belT)).mono ?_
 rintro r w1 ⟨b, rfl, hf, hb⟩
 have HF := hide hf
 have HC1 := hide (blk_below hb (by first | omega | (simp <;> omega)) (blk_new (w := w) (o := .cells X 33) rfl))
 clear hf
 have q1B : Below w.heap.size w w1 := qB hb
 have q1z := hb.size
 try simp at q1z
 have q1t : w.heap.size ≤ w1.heap.size := (by omega)
 have q1o := belO q1B
 clear hb
 have Q1 := hide q1B
 cases b with
 | false =>
  go_wp2_with fail
  go_ret
  exact ⟨_, rfl, nofun, Q1.out⟩
 | true =>
  go_wp2_with ((with_reducible refine wpList_load_rowH ?_ 33 (.tmp 1) rfl w.heap.size rfl 33 X (0, 0) _ HC1.out Tryz.underlying33 rfl HSB.out ?_); (focus rfl))
  refine (wcheck26_any KN.out (HF.out True.intro) X _ (HX.out.below (Q1.out.trans belT))).mono ?_
  rintro r w2 ⟨z, rfl, hz, hb⟩
  have HZ := hide hz
  have Q2 := hide (Q1.out.trans ((Below.trans (by (repeat (first | (with_reducible first | exact Below.refl _ _ | assumption | refine Below.drew ?_) | ((with_reducible first | refine Below.alloc ?_ ?_ _ | refine Below.setCell ?_ ?_ _); rotate_left; (first | omega | (simp <;> omega))))) : Below w1.heap.size w1 _) (hb.mono (by first | omega | (simp <;> omega)))).mono Q1.out.size))
  clear hz hb
  by_cases h0 : z = 0
  ·have d0 : (z == 0) = true := by simp [h0]
   have HS := hide (HZ.out h0)
   clear h0
   go_wp2_with fail
   go_ret
   exact ⟨_, rfl, fun _ => ⟨HF.out True.intro, HS.out⟩, Q2.out⟩
  ·have d0 : (z == 0) = false := by simpa using h0
   clear h0
   go_wp2_with fail
   go_ret
   exact ⟨_, rfl, nofun, Q2.out⟩
end Go.Proofs.YtpghciiifnjimaaGreatDoor
namespace Go.Proofs.YtpghciiifnjimaaGreatDoor
set_option maxRecDepth 4000
set_option linter.unusedSimpArgs false
set_option linter.unusedVariables false
open Go.RowKit
/-- A loop that leaves within n rounds. -/
def LoopN (P : Program) (c : Code) (Q : Exit → Act → World → Prop) : Nat → Act → World → Prop
 | 0, _, _ => False
 | n + 1, a, w => c.wp P (Exit.then (LoopN P c Q n) Q) a w
theorem loopN_arr {P : Program} {c : Code} {Q : Exit → Act → World → Prop} : ∀ (n : Nat) (a : Act) (w : World), LoopN P c Q n a w → ∀ (b : Frame) (k : List Item) (cs : List Frame), ∃ e a' w', Q e a' w' ∧ Arrives P (lone (b.at a (.code c :: .inLoop c :: k)) cs w) b k cs e a' w'
 | 0, _, _, h => h.elim
 | n + 1, a, w, h => fun b k cs => by
  obtain ⟨e, a₁, w₁, hq, harr⟩ := h b (.inLoop c :: k) cs
  cases e with
  | normal =>
   obtain ⟨e₂, a₂, w₂, hq₂, harr₂⟩ := loopN_arr n a₁ w₁ hq b k cs
   exact ⟨e₂, a₂, w₂, hq₂, .of_steps (Steps.trans harr (.one step_inLoop)) harr₂⟩
  | exit id => exact ⟨_, a₁, w₁, hq, .pass (x := .inLoop c) rfl (fun _ _ => .inl (by simp)) harr⟩
  | goto l => exact ⟨_, a₁, w₁, hq, .pass (x := .inLoop c) rfl (fun _ _ => .inl (by simp)) harr⟩
  | ret => exact ⟨_, a₁, w₁, hq, .pass (x := .inLoop c) rfl (fun _ _ => .inl (by simp)) harr⟩
  | panic ch => exact ⟨_, a₁, w₁, hq, .pass (x := .inLoop c) rfl (fun _ _ => .inl (by simp)) harr⟩
  | outgrown => exact ⟨_, a₁, w₁, hq, .pass (x := .inLoop c) rfl (fun _ _ => .inl (by simp)) harr⟩
/-- A loop that leaves within n rounds, walked round by round. -/
theorem wp_loopN {P : Program} {c : Code} {Q : Exit → Act → World → Prop} (n : Nat) {a : Act} {w : World} (h : LoopN P c Q n a w) : (Code.loop c).wp P Q a w := fun b k cs => by
 obtain ⟨e, a', w', hq, harr⟩ := loopN_arr n a w h b k cs
 exact ⟨e, a', w', hq, .of_steps (.one step_loop) harr⟩
theorem lv_code (w : World) : Calls Tryz.prog 67 #[.string ⟨#[69, 85, 82]⟩] w fun e w' => e = .returned (.bool true) ∧ w' = w := by
 have b0 : ((⟨#[69, 85, 82]⟩ : ByteArray)[0]'(by decide)).toNat = 69 := rfl
 have b1 : ((⟨#[69, 85, 82]⟩ : ByteArray)[1]'(by decide)).toNat = 85 := rfl
 have b2 : ((⟨#[69, 85, 82]⟩ : ByteArray)[2]'(by decide)).toNat = 82 := rfl
 go_enter Tryz.func67, Tryz.ntmps67
 go_wp2_with fail
 refine wp_loopN 4 ?_
 unfold LoopN
 go_wp2_with fail
 unfold LoopN
 go_wp2_with fail
 unfold LoopN
 go_wp2_with fail
 unfold LoopN
 go_wp2_with fail
 go_ret
 exact ⟨rfl, rfl⟩
theorem lv_textk (w : World) : Calls Tryz.prog 65 #[.string ⟨#[107]⟩, .int .u8 33, .int .i64 48] w fun e w' => e = .returned (.bool true) ∧ w' = w := by
 have b0 : ((⟨#[107]⟩ : ByteArray)[0]'(by decide)).toNat = 107 := rfl
 go_enter Tryz.func65, Tryz.ntmps65
 go_wp2_with fail
 refine wp_loopN 2 ?_
 unfold LoopN
 go_wp2_with fail
 unfold LoopN
 go_wp2_with fail
 go_ret
 exact ⟨rfl, rfl⟩
theorem lv_text (w : World) : Calls Tryz.prog 65 #[.string ⟨#[]⟩, .int .u8 32, .int .i64 64] w fun e w' => e = .returned (.bool true) ∧ w' = w := by
 go_enter Tryz.func65, Tryz.ntmps65
 go_wp2_with fail
 refine wp_loopN 1 ?_
 unfold LoopN
 go_wp2_with fail
 go_ret
 exact ⟨rfl, rfl⟩
theorem lv_key (w : World) : Calls Tryz.prog 64 #[.string ⟨#[107]⟩] w fun e w' => e = .returned (.bool true) ∧ w' = w := by
 go_enter Tryz.func64, Tryz.ntmps64
 go_wp2_with fail
 refine (lv_textk _).mono ?_
 rintro r w1 ⟨rfl, rfl⟩
 go_wp2_with fail
 go_ret
 exact ⟨rfl, rfl⟩
theorem lv_day (w : World) : Calls Tryz.prog 66 #[.int .i64 9678] w fun e w' => e = .returned (.bool true) ∧ w' = w := by
 go_enter Tryz.func66, Tryz.ntmps66
 go_wp2_with fail
 go_ret
 exact ⟨rfl, rfl⟩
theorem lv_day0 (w : World) : Calls Tryz.prog 66 #[.int .i64 0] w fun e w' => e = .returned (.bool true) ∧ w' = w := by
 go_enter Tryz.func66, Tryz.ntmps66
 go_wp2_with fail
 go_ret
 exact ⟨rfl, rfl⟩
end Go.Proofs.YtpghciiifnjimaaGreatDoor
