/- Texts laid together: TqC TqD. -/
import Derived.Test.YtpghciiifnjimaaGreatDoorXTqA
import Derived.Test.YtpghciiifnjimaaGreatDoorXK0
namespace Go.Proofs.YtpghciiifnjimaaGreatDoor
set_option maxRecDepth 4000
set_option linter.unusedSimpArgs false
set_option linter.unusedVariables false
open Go.RowKit
theorem pro_cur {B : LBk} (hB : BkOK B) {w : World} (hw : BkIn w B) {ck : Nat → Tr} (kn : KnOK 15 ck) (hX : ElT (Old w) w 15 ck B.C) : ∀ k, k < B.pn → ∃ s, (B.P k).C[1]? = some (.string s) := fun k hk => by
 have hXs : B.C.size = 22 := hX.size
 obtain ⟨n17, c17, q17, hk17, A17, cap17, C17, e17, _, hr17⟩ := rd_row (e := 8) (hX.rd 17 (by decide)) (kn 17 (by decide))
 have g17 := at_eq hXs (by decide) e17
 rw [hB.pro] at g17
 injection g17 with g17
 injection g17 with gA gn gc
 obtain ⟨b, off, e, _, hc⟩ := hw.pro.row (by omega)
 obtain ⟨b2, o2, e2, _, hc2⟩ := hr17.cells (k := k) (by decide) (by omega)
 rw [gA, e2] at e
 injection e with e
 injection e with e3 e4 _
 have hz := (hB.cells k hk).size
 have h1 : (B.P k).C[1]? = some (B.P k).C[1] := Array.getElem?_eq_getElem (by omega)
 have m1 := hc k 1 _ hk h1
 obtain ⟨s, _, es, _⟩ := rd_str (hr17.rd k 1 (by omega) (by decide)) (hk17.wt k 1 (by omega) (by decide))
 have m2 := hc2 1 _ (elA_at 8 C17 k 1 (by decide))
 rw [es] at m2
 subst e3 e4
 exact ⟨s, by rw [h1]; exact m1.symm.trans m2⟩
set_option maxRecDepth 20000 in
set_option maxHeartbeats 8000000 in
theorem wleg26_any (B : LBk) (hB : BkOK B) {ck : Nat → Tr} (kn : KnOK 15 ck) (z0 z1 : Int) (s2 : ByteArray) (booked : Int) (w : World) (hw : BkIn w B) (hX : ElT (Old w) w 15 ck B.C) :
  Calls Tryz.prog 155 #[.agg B.C, .agg #[.int .i64 z0, .int .i64 z1, .string s2], .int .i64 booked] w (SomE w) := by
 obtain ⟨i0, Z, hi0, hi1, hi2⟩ := pz_zero
 have HI := hide (And.intro hi0 hi1)
 have HZ1 := hide hi2
 have HB := hide hB
 have HW := hide hw
 have HS := hide (bk_size hB)
 have HCU := hide (pro_cur hB hw kn hX)
 have hXs : B.C.size = 22 := hX.size
 obtain ⟨n0, c0, _, hk0, A0, p0, C0, e0, _, hA0⟩ := rd_row (e := 1) (hX.rd 0 (by decide)) (kn 0 (by decide))
 obtain ⟨n2, c2, _, hk2, A2, p2, C2, e2, _, hA2⟩ := rd_row (e := 3) (hX.rd 2 (by decide)) (kn 2 (by decide))
 have g0 := at_eq hXs (by decide) e0
 have g2 := at_eq hXs (by decide) e2
 have h17 := hB.pro
 have HK0 := hide hk0
 have HA0 := hide hA0
 have HK2 := hide hk2
 have HA2 := hide hA2
 clear hB hw hi0 hi1 hi2 kn hX hXs e0 e2 hk0 hA0 hk2 hA2
 obtain ⟨x, hx⟩ : ∃ x, x = getA B.a z0 B.an := ⟨_, rfl⟩
 obtain ⟨h, hh⟩ : ∃ h, h = hasA B.a z0 B.an := ⟨_, rfl⟩
 have HF := hide (fun W hr => by have t := rfind_any B.C B.aA B.an B.ac B.jA B.jn B.jc HB.out.bks B.a z0 HB.out.an W hr; rw [← hx, ← hh] at t; exact t)
 clear hx hh
 go_enter Tryz.func155, Tryz.ntmps155
 go_wp2_with fail
 refine (wfind3_any A0 n0 p0 c0 C0 HK0.out s2 _ (HA0.out.below belT)).mono ?_
 rintro r w1 ⟨⟨s0, y1, known, rfl⟩, hb⟩
 have HC1 := hide (blk_below hb (by first | omega | (simp <;> omega)) (blk_under (blk_new (w := w) (o := .cells B.C 33) rfl)))
 have q1B : Below w.heap.size w w1 := qB hb
 have q1z := hb.size
 try simp at q1z
 have q1t : w.heap.size ≤ w1.heap.size := (by omega)
 obtain ⟨q1s0, q1n0_0, q1n0_1, q1n0_2⟩ := kB w1.heap.size w.heap.size
 have q1c0_2 := cel hb w.heap.size 2
 simp [go_sem, *] at q1c0_2
 have q1c0_17 := cel hb w.heap.size 17
 simp [go_sem, *] at q1c0_17
 have q1f0 := fun o => fro hb w.heap.size o
 simp [go_sem, *] at q1f0
 obtain ⟨q1s1, q1n1_0, q1n1_1, q1n1_2⟩ := kB w1.heap.size (w.heap.size + 1)
 obtain ⟨q1c1_0, q1c1_1, q1c1_2, q1f1⟩ := kC3 hb (w.heap.size + 1)
 simp [go_sem, *] at q1c1_0 q1c1_1 q1c1_2 q1f1
 have q1o := belO q1B
 clear hb
 have Q1 := hide q1B
 clear g0 g2 h17
 by_cases h1000 : z0 < 1000
 ·have d1 : decide (z0 < 1000) = true := decide_eq_true h1000
  clear h1000
  go_wp2_with fail
  refine (wfind18_any A2 n2 p2 c2 C2 HK2.out z0 _ (HA2.out.below (Q1.out.trans belT))).mono ?_
  rintro r w2 ⟨⟨v0, v1, v2, v3, ok, rfl⟩, hb⟩
  have q2B : Below w1.heap.size w1 w2 := qB hb
  have q2z := hb.size
  try simp at q2z
  have q2t : w1.heap.size ≤ w2.heap.size := (by omega)
  obtain ⟨q2s0, q2n0_0, q2n0_1, q2n0_2⟩ := kB w2.heap.size w.heap.size
  have q2c0_2 := cel hb w.heap.size 2
  simp [go_sem, *] at q2c0_2
  have q2f0 := fun o => fro hb w.heap.size o
  simp [go_sem, *] at q2f0
  obtain ⟨q2s1, q2n1_0, q2n1_1, q2n1_2⟩ := kB w2.heap.size (w.heap.size + 1)
  obtain ⟨q2c1_0, q2c1_1, q2c1_2, q2f1⟩ := kC3 hb (w.heap.size + 1)
  simp [go_sem, *] at q2c1_0 q2c1_1 q2c1_2 q2f1
  have q2o := belO q2B
  clear hb q1o q1f1 q1c1_2 q1c1_1 q1c1_0 q1s1 q1f0 q1c0_17 q1c0_2 q1s0 q1z q1B
  have Q2 := hide (Q1.out.trans (q2B.mono Q1.out.size))
  cases ok with
  | false =>
   go_wp2_with fail
   go_ret
   exact ⟨⟨_, rfl⟩, Q2.out.trans belT⟩
  | true =>
   go_wp2_with fail
   refine (wpar26_any A2 n2 p2 c2 C2 HK2.out z0 _ (HA2.out.below (Q2.out.trans belT))).mono ?_
   rintro r w3 ⟨⟨pb, rfl⟩, hb⟩
   have Q3 := hide (Q2.out.trans ((Below.trans (by (repeat (first | (with_reducible first | exact Below.refl _ _ | assumption | refine Below.drew ?_) | ((with_reducible first | refine Below.alloc ?_ ?_ _ | refine Below.setCell ?_ ?_ _); rotate_left; (first | omega | (simp <;> omega))))) : Below w2.heap.size w2 _) (hb.mono (by first | omega | (simp <;> omega)))).mono Q2.out.size))
   clear hb
   go_wp2_with fail
   all_goals (go_ret; exact ⟨⟨_, rfl⟩, Q3.out.trans belT⟩)
 ·have d1 : decide (z0 < 1000) = false := decide_eq_false h1000
  clear h1000
  go_wp2_with (with_reducible refine wpList_load_row rfl 33 (.tmp 3) rfl w.heap.size rfl 33 B.C (0, 0) _ (blk_under HC1.out) Tryz.underlying33 rfl HS.out ?_)
  refine (HF.out _ (HW.out.acc.below (Q1.out.trans belT))).mono ?_
  rintro r w2 ⟨rfl, hb⟩
  have BX : Below w1.heap.size w1 w2 := qB hb
  have HC2 := hide (blk_below BX (by omega) HC1.out)
  have q2B : Below w1.heap.size w1 w2 := qB hb
  have q2z := hb.size
  try simp at q2z
  have q2t : w1.heap.size ≤ w2.heap.size := (by omega)
  obtain ⟨q2s0, q2n0_0, q2n0_1, q2n0_2⟩ := kB w2.heap.size w.heap.size
  have q2c0_17 := cel hb w.heap.size 17
  simp [go_sem, *] at q2c0_17
  have q2f0 := fun o => fro hb w.heap.size o
  simp [go_sem, *] at q2f0
  obtain ⟨q2s1, q2n1_0, q2n1_1, q2n1_2⟩ := kB w2.heap.size (w.heap.size + 1)
  obtain ⟨q2c1_0, q2c1_1, q2c1_2, q2f1⟩ := kC3 hb (w.heap.size + 1)
  simp [go_sem, *] at q2c1_0 q2c1_1 q2c1_2 q2f1
  have q2o := belO q2B
  clear hb
  have Q2 := hide (Q1.out.trans (q2B.mono Q1.out.size))
  clear BX
  cases h with
  | false =>
   go_wp2_with fail
   go_ret
   exact ⟨⟨_, rfl⟩, Q2.out.trans belT⟩
  | true =>
   go_wp2_with fail
   refine (rcat_any B.pA B.pn B.pc B.P x.pr x.op HB.out.pn HB.out.cells _ (HW.out.pro.below (Q2.out.trans belT))).mono ?_
   rintro r w3 ⟨C, b, rfl, hs, h1, ho, hb⟩
   have HH := hide (And.intro hs h1)
   have BX : Below w2.heap.size w2 w3 := qB hb
   have HC3 := hide (blk_below BX (by omega) HC2.out)
   have q3B : Below w2.heap.size w2 w3 := qB hb
   have q3z := hb.size
   try simp at q3z
   have q3t : w2.heap.size ≤ w3.heap.size := (by omega)
   obtain ⟨q3s0, q3n0_0, q3n0_1, q3n0_2⟩ := kB w3.heap.size (w.heap.size + 1)
   obtain ⟨q3c0_0, q3c0_1, q3c0_2, q3f0⟩ := kC3 hb (w.heap.size + 1)
   simp [go_sem, *] at q3c0_0 q3c0_1 q3c0_2 q3f0
   have q3o := belO q3B
   clear hb q2o q2f1 q2c1_2 q2c1_1 q2c1_0 q2s1 q2f0 q2c0_17 q2s0 q2z q2B
   have Q3 := hide (Q2.out.trans (q3B.mono Q2.out.size))
   clear BX
   have HCS := hide (show b = true → ∃ s, C[1]? = some (.string s) from fun hb => by
    generalize hob : bstP B.P x.pr x.op B.pn = o at ho
    cases o with
    | none => rw [ho] at hb; cases hb
    | some k => rw [ho.1]; exact HCU.out k (bstP_lt hob))
   clear hs h1 ho
   cases b with
   | false =>
    cases known with
    | false =>
     go_wp2_with (first
      | (with_reducible refine wpList_alloc_row rfl 88 rfl (some 13) rfl i0 HI.out.1 Z HI.out.2 w3.heap.size rfl ?_)
      | ((with_reducible refine wpList_store_newrow2 rfl 88 (.tmp 13) (.tmp 62) rfl rfl w3.heap.size C rfl rfl 88 Z (blk_new rfl) (pz_size HH.out.1) (by rw [HZ1.out, HH.out.1]) HH.out.2 ?_); intro w5 hb hs5 hx5 hk5; have BX := hide (show Below w3.heap.size w3 w5 from Below.trans belT hb); have HC5 := hide (blk_below BX.out (by omega) HC3.out); (have q4B : Below w3.heap.size w3 w5 := qB hb; have q4z := hb.size; (try simp at q4z); have q4t : w3.heap.size ≤ w5.heap.size := (by omega); have q4s0 : w.heap.size + 1 < w5.heap.size := (by omega); obtain ⟨q4n0_0, q4n0_1, q4n0_2⟩ := kN q4s0; obtain ⟨q4c0_0, q4c0_1, q4c0_2, q4f0⟩ := kC3 hb (w.heap.size + 1); simp [go_sem, *] at q4c0_0 q4c0_1 q4c0_2 q4f0; have q4o := belO q4B; have hbS := hb; have hbS4 := hb; clear hb); have Q4 := hide (Q3.out.trans (BX.out.mono Q3.out.size)); clear hs5 hx5 hk5))
     go_ret
     exact ⟨⟨_, rfl⟩, Q4.out.trans belT⟩
    | true =>
     go_wp2_with (first
      | (with_reducible refine wpList_alloc_row rfl 88 rfl (some 13) rfl i0 HI.out.1 Z HI.out.2 w3.heap.size rfl ?_)
      | ((with_reducible refine wpList_store_newrow2 rfl 88 (.tmp 13) (.tmp 62) rfl rfl w3.heap.size C rfl rfl 88 Z (blk_new rfl) (pz_size HH.out.1) (by rw [HZ1.out, HH.out.1]) HH.out.2 ?_); intro w5 hb hs5 hx5 hk5; have BX := hide (show Below w3.heap.size w3 w5 from Below.trans belT hb); have HC5 := hide (blk_below BX.out (by omega) HC3.out); (have q4B : Below w3.heap.size w3 w5 := qB hb; have q4z := hb.size; (try simp at q4z); have q4t : w3.heap.size ≤ w5.heap.size := (by omega); have q4s0 : w.heap.size + 1 < w5.heap.size := (by omega); obtain ⟨q4n0_0, q4n0_1, q4n0_2⟩ := kN q4s0; obtain ⟨q4c0_0, q4c0_1, q4c0_2, q4f0⟩ := kC3 hb (w.heap.size + 1); simp [go_sem, *] at q4c0_0 q4c0_1 q4c0_2 q4f0; have q4o := belO q4B; have hbS := hb; have hbS4 := hb; clear hb); have Q4 := hide (Q3.out.trans (BX.out.mono Q3.out.size)); clear hs5 hx5 hk5))
     go_ret
     exact ⟨⟨_, rfl⟩, Q4.out.trans belT⟩
   | true =>
    obtain ⟨sc, hsc⟩ := HCS.out rfl
    cases known with
    | false =>
     go_wp2_with (first
      | (with_reducible refine wpList_alloc_row rfl 88 rfl (some 13) rfl i0 HI.out.1 Z HI.out.2 w3.heap.size rfl ?_)
      | ((with_reducible refine wpList_store_newrow2 rfl 88 (.tmp 13) (.tmp 62) rfl rfl w3.heap.size C rfl rfl 88 Z (blk_new rfl) (pz_size HH.out.1) (by rw [HZ1.out, HH.out.1]) HH.out.2 ?_); intro w5 hb hs5 hx5 hk5; have BX := hide (show Below w3.heap.size w3 w5 from Below.trans belT hb); have HC5 := hide (blk_below BX.out (by omega) HC3.out); (have q4B : Below w3.heap.size w3 w5 := qB hb; have q4z := hb.size; (try simp at q4z); have q4t : w3.heap.size ≤ w5.heap.size := (by omega); have q4s0 : w.heap.size + 1 < w5.heap.size := (by omega); obtain ⟨q4n0_0, q4n0_1, q4n0_2⟩ := kN q4s0; obtain ⟨q4c0_0, q4c0_1, q4c0_2, q4f0⟩ := kC3 hb (w.heap.size + 1); simp [go_sem, *] at q4c0_0 q4c0_1 q4c0_2 q4f0; have q4o := belO q4B; have hbS := hb; have hbS4 := hb; clear hb); have Q4 := hide (Q3.out.trans (BX.out.mono Q3.out.size)); clear hs5 hx5 hk5))
     go_ret
     exact ⟨⟨_, rfl⟩, Q4.out.trans belT⟩
    | true =>
     rcases Bool.eq_false_or_eq_true (sc.toList == s2.toList) with q | q
     ·go_wp2_with (first
       | (with_reducible refine wpList_alloc_row rfl 88 rfl (some 13) rfl i0 HI.out.1 Z HI.out.2 w3.heap.size rfl ?_)
       | ((with_reducible refine wpList_store_newrow2 rfl 88 (.tmp 13) (.tmp 62) rfl rfl w3.heap.size C rfl rfl 88 Z (blk_new rfl) (pz_size HH.out.1) (by rw [HZ1.out, HH.out.1]) HH.out.2 ?_); intro w5 hb hs5 hx5 hk5; have BX := hide (show Below w3.heap.size w3 w5 from Below.trans belT hb); have HC5 := hide (blk_below BX.out (by omega) HC3.out); have cc : w5.cell? ⟨w3.heap.size, 1, none⟩ = some (.string sc) := (cell_of_cells hx5 1).trans hsc; clear hsc; (have q4B : Below w3.heap.size w3 w5 := qB hb; have q4z := hb.size; (try simp at q4z); have q4t : w3.heap.size ≤ w5.heap.size := (by omega); have q4s0 : w.heap.size + 1 < w5.heap.size := (by omega); obtain ⟨q4n0_0, q4n0_1, q4n0_2⟩ := kN q4s0; obtain ⟨q4c0_0, q4c0_1, q4c0_2, q4f0⟩ := kC3 hb (w.heap.size + 1); simp [go_sem, *] at q4c0_0 q4c0_1 q4c0_2 q4f0; have q4o := belO q4B; have hbS := hb; have hbS4 := hb; clear hb); have Q4 := hide (Q3.out.trans (BX.out.mono Q3.out.size)); clear hs5 hx5 hk5)
       | (with_reducible refine wpList_load_row rfl 33 (.tmp 3) rfl w.heap.size rfl 33 B.C (0, 0) _ HC5.out Tryz.underlying33 rfl HS.out ?_))
      refine (ractive_any B HB.out z0 booked _ (HW.out.below (Q4.out.trans belT))).mono ?_
      rintro r w6 ⟨rfl, hb⟩
      have Q6 := hide (Q4.out.trans ((Below.trans (by (repeat (first | (with_reducible first | exact Below.refl _ _ | assumption | refine Below.drew ?_) | ((with_reducible first | refine Below.alloc ?_ ?_ _ | refine Below.setCell ?_ ?_ _); rotate_left; (first | omega | (simp <;> omega))))) : Below w5.heap.size w5 _) (hb.mono (by first | omega | (simp <;> omega)))).mono Q4.out.size))
      clear hb
      go_wp2_with fail
      all_goals (go_ret; exact ⟨⟨_, rfl⟩, Q6.out.trans belT⟩)
     ·go_wp2_with (first
       | (with_reducible refine wpList_alloc_row rfl 88 rfl (some 13) rfl i0 HI.out.1 Z HI.out.2 w3.heap.size rfl ?_)
       | ((with_reducible refine wpList_store_newrow2 rfl 88 (.tmp 13) (.tmp 62) rfl rfl w3.heap.size C rfl rfl 88 Z (blk_new rfl) (pz_size HH.out.1) (by rw [HZ1.out, HH.out.1]) HH.out.2 ?_); intro w5 hb hs5 hx5 hk5; have BX := hide (show Below w3.heap.size w3 w5 from Below.trans belT hb); have HC5 := hide (blk_below BX.out (by omega) HC3.out); have cc : w5.cell? ⟨w3.heap.size, 1, none⟩ = some (.string sc) := (cell_of_cells hx5 1).trans hsc; clear hsc; (have q4B : Below w3.heap.size w3 w5 := qB hb; have q4z := hb.size; (try simp at q4z); have q4t : w3.heap.size ≤ w5.heap.size := (by omega); have q4s0 : w.heap.size + 1 < w5.heap.size := (by omega); obtain ⟨q4n0_0, q4n0_1, q4n0_2⟩ := kN q4s0; obtain ⟨q4c0_0, q4c0_1, q4c0_2, q4f0⟩ := kC3 hb (w.heap.size + 1); simp [go_sem, *] at q4c0_0 q4c0_1 q4c0_2 q4f0; have q4o := belO q4B; have hbS := hb; have hbS4 := hb; clear hb); have Q4 := hide (Q3.out.trans (BX.out.mono Q3.out.size)); clear hs5 hx5 hk5))
      go_ret
      exact ⟨⟨_, rfl⟩, Q4.out.trans belT⟩
end Go.Proofs.YtpghciiifnjimaaGreatDoor
namespace Go.Proofs.YtpghciiifnjimaaGreatDoor
set_option maxRecDepth 4000
set_option linter.unusedSimpArgs false
set_option linter.unusedVariables false
open Go.RowKit
theorem rg_row {N : Nat} {W wx : World} {b : Nat} {C : Array Value} {t : TypeId} (hS : SB N [] W wx) (hb : b < N) (h : W.heap[b]? = some (.cells C t (0, 0))) : wx.rangeAt b 0 C.toList := fun j v hv => by
 rw [hS b (0 + j) hb (by simp), Nat.zero_add, cell_of_cells h]
 simpa using hv
theorem leg_size {X : Array Value} (h : X.size = 3) : (Tryz.prog.info? 107).map (·.size) = some X.size := by rw [h]; kernel_rfl
theorem wleg26_el (B : LBk) (hB : BkOK B) {ck : Nat → Tr} (kn : KnOK 15 ck) {cl : Nat → Tr} (kl : KnOK 10 cl) (D : Nat → Nat → Value) (i : Nat) (booked : Int) (w : World) (hw : BkIn w B) (hX : ElT (Old w) w 15 ck B.C) (hL : ElT (Old w) w 10 cl (elA 10 D i)) :
  Calls Tryz.prog 155 #[.agg B.C, .agg (elA 10 D i), .int .i64 booked] w (SomE w) := by
 have hL' : ElT (Old w) w 10 cl #[D i 0, D i 1, D i 2] := hL
 obtain ⟨z0, _, e0, _⟩ := rd_int (hL'.rd 0 (by decide)) (kl 0 (by decide))
 obtain ⟨z1, _, e1, _⟩ := rd_int (hL'.rd 1 (by decide)) (kl 1 (by decide))
 obtain ⟨s2, _, e2, _⟩ := rd_str (hL'.rd 2 (by decide)) (kl 2 (by decide))
 replace e0 : D i 0 = _ := e0
 replace e1 : D i 1 = _ := e1
 replace e2 : D i 2 = _ := e2
 rw [show elA 10 D i = #[D i 0, D i 1, D i 2] from rfl, e0, e1, e2]
 exact wleg26_any B hB kn z0 z1 s2 booked w hw hX
set_option maxRecDepth 20000 in
set_option maxHeartbeats 8000000 in
theorem wlegs26_any (B : LBk) (hB : BkOK B) {ck : Nat → Tr} (kn : KnOK 15 ck) {ce : Nat → Tr} (ke : KnOK 11 ce) (X : Array Value) (w : World) (hw : BkIn w B) (hX : ElT (Old w) w 15 ck B.C) (hE : ElT (Old w) w 11 ce X) :
  Calls Tryz.prog 94 #[.agg B.C, .agg X] w (SomE w) := by
 have hXs : X.size = 10 := hE.size
 obtain ⟨z1, _, e1, _⟩ := rd_int (hE.rd 1 (by decide)) (ke 1 (by decide))
 obtain ⟨n, c, _, hk, A, cap, C, e8, _, hA⟩ := rd_row (e := 10) (hE.rd 8 (by decide)) (ke 8 (by decide))
 have g1 : X[1]? = some (.int .i64 z1) := at_eq hXs (by decide) e1
 have g8 : X[8]? = some (.slice A n cap) := at_eq hXs (by decide) e8
 have hn : n ≤ 140737488351232 := by have := hk.room; simp only [tby] at this; omega
 have HK := hide hk
 have HA := hide hA
 have HB := hide hB
 have HW := hide hw
 have HX := hide hX
 have KN := hide kn
 have HSB := hide (bk_size hB)
 clear hk hA hB hw hX kn hE ke e1 e8 hXs
 go_enter Tryz.func94, Tryz.ntmps94
 go_wp2_with fail
 go_loopw [5] (fun v wr => KB n ((w.alloc (.cells B.C 33)).alloc (.cells X 53)) v wr) (fun v _ => n - (intOf v).toNat)
 case atStart => exact ⟨0, by omega, rfl, Below.refl _ _⟩
 case round =>
  obtain ⟨k, hkn, rfl, hb⟩ := hrel
  have H0 := hide hb
  have HCB := hide (blk_below hb (by first | omega | (simp <;> omega)) (blk_under (blk_new (w := w) (o := .cells B.C 33) rfl)))
  have q1B : Below w.heap.size w wr := qB hb
  have q1z := hb.size
  try simp at q1z
  have q1t : w.heap.size ≤ wr.heap.size := (by omega)
  obtain ⟨q1s0, q1n0_0, q1n0_1, q1n0_2⟩ := kB wr.heap.size (w.heap.size + 1)
  have q1c0_1 := cel hb (w.heap.size + 1) 1
  simp [go_sem, *] at q1c0_1
  have q1c0_8 := cel hb (w.heap.size + 1) 8
  simp [go_sem, *] at q1c0_8
  have q1f0 := fun o => fro hb (w.heap.size + 1) o
  simp [go_sem, *] at q1f0
  have q1o := belO q1B
  clear hb
  have BL := hide q1B
  have zq : w.heap.size < wr.heap.size := by omega
  clear g1 g8
  by_cases hlt : k < n
  ·have hm : (k : Int) < n := by omega
   have hk0 : (0 : Int) ≤ k := by omega
   have HLT := hide hlt
   have HAW := hide (HA.out.below BL.out)
   have HL := hide (HAW.out.el HK.out hlt)
   have HKL := hide (show KnOK 10 (c k) from fun j hj => HK.out.wt k j hlt hj)
   obtain ⟨b, off, rfl, hbl, hc⟩ := HAW.out.cells (by decide) hlt
   have HC := hide (show ∀ j v, (elA 10 C k)[j]? = some v → wr.cell? ⟨b, off + k * 3 + j, none⟩ = some v from hc)
   have HSZ := hide (leg_size (elA_size 10 C k))
   clear hlt hkn hc
   go_wp2_with fail
   refine ord_start (SB (wr.heap.size) [] _) 10 (preB 0 10) (by kernel_rfl) (by kernel_rfl) (by kernel_rfl) SB.refl.drew (fun hHeld => ?_)
   refine oT (i := 0) (preB 1 9) (.agg B.C) rfl hHeld (fun wx hSx => tk_row _ _ rfl w.heap.size 0 rfl B.C _ (rg_row hSx zq HCB.out) Tryz.underlying33 rfl HSB.out) ?_
   (try simp only [Act.put, putS])
   refine oS (i := 1) (preB 2 8) rfl hHeld ?_
   (try simp only [Act.put, putS])
   refine oS (i := 2) (preB 3 7) rfl hHeld ?_
   (try simp only [Act.put, putS])
   refine oS (i := 3) (preB 4 6) rfl hHeld ?_
   (try simp only [Act.put, putS])
   refine oS (i := 4) (preB 5 5) rfl hHeld ?_
   (try simp only [Act.put, putS])
   refine oT (i := 5) (preB 6 4) (.agg (elA 10 C k)) rfl hHeld (fun wx hSx => tk_row _ _ rfl b (off + k * 3) rfl (elA 10 C k) _ (rg_mid hSx hbl HC.out) Tryz.underlying107 rfl HSZ.out) ?_
   (try simp only [Act.put, putS])
   refine oS (i := 6) (preB 7 3) rfl hHeld ?_
   (try simp only [Act.put, putS])
   refine oS (i := 7) (preB 8 2) rfl hHeld ?_
   (try simp only [Act.put, putS])
   refine wpAnyH_ready (rs := [8]) (by kernel_rfl) (by simp) ?_
   refine ord_run (i := 8) (preB 9 1) rfl (by kernel_rfl) (by rfl) (fun K hK => ?_) AllReadyH.nil
   go_simp
   go_wp2_with (go_at_call 155; refine (wleg26_el B HB.out KN.out HKL.out C k z1 _ (HW.out.below (BL.out.trans belT)) (HX.out.below (BL.out.trans belT)) (HL.out.below belT)).mono ?_; rintro r w2 ⟨⟨E, rfl⟩, hb⟩; have hbS := hb; have P1 := hide (show Below wr.heap.size wr w2 from Below.trans belT (hb.mono (by first | omega | (simp <;> omega)))); have zP1 := P1.out.size; clear hb)
   refine hK.out _ _ ?_ (fun hHeld => ?_)
   ·exact sbT
   clear hK K
   (try simp only [Act.put, putS])
   refine oS (i := 9) (preB 10 0) rfl hHeld ?_
   (try simp only [Act.put, putS])
   refine wpAnyH_done (by kernel_rfl) ?_ _
   have BE := hide (show Below wr.heap.size wr _ from P1.out.trans belT)
   have zBE := BE.out.size
   by_cases hz : E = 0
   ·have dE : (E != 0) = false := by simp [hz]
    clear hz
    go_wp2_with fail
    go_roundw
    case rel => exact ⟨k + 1, HLT.out, by go_num, H0.out.trans (BE.out.mono (by have h1 := H0.out.size; simpa using h1))⟩
    case measure => have := HLT.out; simp [intOf]; omega
   ·have dE : (E != 0) = true := by simpa using hz
    clear hz
    go_wp2_with fail
    go_ret
    exact ⟨⟨_, rfl⟩, BL.out.trans (BE.out.mono BL.out.size)⟩
  ·obtain rfl : k = n := by omega
   clear hlt hkn
   go_wp2_with fail
   go_ret
   exact ⟨⟨_, rfl⟩, BL.out⟩
set_option maxRecDepth 20000 in
set_option maxHeartbeats 8000000 in
theorem wentries26_any (B : LBk) (hB : BkOK B) {ck : Nat → Tr} (kn : KnOK 15 ck) (w : World) (hw : BkIn w B) (hX : ElT (Old w) w 15 ck B.C) :
  Calls Tryz.prog 45 #[.agg B.C] w (OkE (∀ k, k < (ck 19).n → VeP (ck 19).c k) w) := by
 have hXs : B.C.size = 22 := hX.size
 obtain ⟨n, c, q19, hk, A, cap, C, e19, hnc, hA⟩ := rd_row (e := 11) (hX.rd 19 (by decide)) (kn 19 (by decide))
 have g19 : B.C[19]? = some (.slice A n cap) := at_eq hXs (by decide) e19
 have HQ := hide (show (∀ k, k < n → VeP c k) → ∀ k, k < (ck 19).n → VeP (ck 19).c k from fun h => by rw [q19]; exact h)
 have hn : n ≤ 140737488351232 := by have := hk.room; simp only [tby] at this; omega
 have HK := hide hk
 have HA := hide hA
 have HB := hide hB
 have HW := hide hw
 have HX := hide hX
 have KN := hide kn
 have HSB := hide (bk_size hB)
 have HNC := hide hnc
 clear hk hA hB hw hX kn e19 q19 hXs hnc
 go_enter Tryz.func45, Tryz.ntmps45
 go_wp2_with fail
 refine (wverify20_any A n cap HNC.out c C HK.out _ (HA.out.below belT)).mono ?_
 rintro r w1 ⟨m, rfl, hm, hb⟩
 have HM := hide hm
 have HCB0 := hide (blk_below hb (by first | omega | (simp <;> omega)) (blk_new (w := w) (o := .cells B.C 33) rfl))
 clear hm
 have q1B : Below w.heap.size w w1 := qB hb
 have q1z := hb.size
 try simp at q1z
 have q1t : w.heap.size ≤ w1.heap.size := (by omega)
 obtain ⟨q1s0, q1n0_0, q1n0_1, q1n0_2⟩ := kB w1.heap.size w.heap.size
 have q1c0_19 := cel hb w.heap.size 19
 simp [go_sem, *] at q1c0_19
 have q1f0 := fun o => fro hb w.heap.size o
 simp [go_sem, *] at q1f0
 have q1o := belO q1B
 clear hb
 have B1 := hide q1B
 by_cases hz : m = -1
 ·have dE : (m != -1) = false := by simp [hz]
  have HV := hide (HQ.out (HM.out hz))
  clear hz g19
  go_wp2_with fail
  go_loopw [3] (fun v wr => KB n w1 v wr) (fun v _ => n - (intOf v).toNat)
  case atStart => exact ⟨0, by omega, rfl, Below.refl _ _⟩
  case round =>
   obtain ⟨k, hkn, rfl, hb⟩ := hrel
   have H0 := hide hb
   have HCB := hide (blk_below hb (by omega) HCB0.out)
   have q2B : Below w1.heap.size w1 wr := qB hb
   have q2z := hb.size
   try simp at q2z
   have q2t : w1.heap.size ≤ wr.heap.size := (by omega)
   obtain ⟨q2s0, q2n0_0, q2n0_1, q2n0_2⟩ := kB wr.heap.size w.heap.size
   have q2c0_19 := cel hb w.heap.size 19
   simp [go_sem, *] at q2c0_19
   have q2f0 := fun o => fro hb w.heap.size o
   simp [go_sem, *] at q2f0
   have q2o := belO q2B
   clear hb
   have BL := hide (B1.out.trans (q2B.mono B1.out.size))
   have zq : w.heap.size < wr.heap.size := by omega
   by_cases hlt : k < n
   ·have hm : (k : Int) < n := by omega
    have hk0 : (0 : Int) ≤ k := by omega
    have HLT := hide hlt
    have HAW := hide (HA.out.below BL.out)
    have HL := hide (HAW.out.el HK.out hlt)
    have HKL := hide (show KnOK 11 (c k) from fun j hj => HK.out.wt k j hlt hj)
    obtain ⟨b, off, rfl, hbl, hc⟩ := HAW.out.cells (by decide) hlt
    have HC := hide (show ∀ j v, (elA 11 C k)[j]? = some v → wr.cell? ⟨b, off + k * 10 + j, none⟩ = some v from hc)
    have HSZ := hide (ent_size (elA_size 11 C k))
    clear hlt hkn hc
    go_wp2_with fail
    refine ord_start (SB (wr.heap.size) [] _) 8 (preB 0 8) (by kernel_rfl) (by kernel_rfl) (by kernel_rfl) SB.refl.drew (fun hHeld => ?_)
    refine oT (i := 0) (preB 1 7) (.agg B.C) rfl hHeld (fun wx hSx => tk_row _ _ rfl w.heap.size 0 rfl B.C _ (rg_row hSx zq HCB.out) Tryz.underlying33 rfl HSB.out) ?_
    (try simp only [Act.put, putS])
    refine oS (i := 1) (preB 2 6) rfl hHeld ?_
    (try simp only [Act.put, putS])
    refine oS (i := 2) (preB 3 5) rfl hHeld ?_
    (try simp only [Act.put, putS])
    refine oS (i := 3) (preB 4 4) rfl hHeld ?_
    (try simp only [Act.put, putS])
    refine oS (i := 4) (preB 5 3) rfl hHeld ?_
    (try simp only [Act.put, putS])
    refine oT (i := 5) (preB 6 2) (.agg (elA 11 C k)) rfl hHeld (fun wx hSx => tk_row _ _ rfl b (off + k * 10) rfl (elA 11 C k) _ (rg_mid hSx hbl HC.out) Tryz.underlying53 rfl HSZ.out) ?_
    (try simp only [Act.put, putS])
    refine wpAnyH_ready (rs := [6]) (by kernel_rfl) (by simp) ?_
    refine ord_run (i := 6) (preB 7 1) rfl (by kernel_rfl) (by rfl) (fun K hK => ?_) AllReadyH.nil
    go_simp
    go_wp2_with (go_at_call 94; refine (wlegs26_any B HB.out KN.out HKL.out (elA 11 C k) _ (HW.out.below (BL.out.trans belT)) (HX.out.below (BL.out.trans belT)) (HL.out.below belT)).mono ?_; rintro r w2 ⟨⟨E, rfl⟩, hb⟩; have hbS := hb; have P1 := hide (show Below wr.heap.size wr w2 from Below.trans belT (hb.mono (by first | omega | (simp <;> omega)))); have zP1 := P1.out.size; clear hb)
    refine hK.out _ _ ?_ (fun hHeld => ?_)
    ·exact sbT
    clear hK K
    (try simp only [Act.put, putS])
    refine oS (i := 7) (preB 8 0) rfl hHeld ?_
    (try simp only [Act.put, putS])
    refine wpAnyH_done (by kernel_rfl) ?_ _
    have BE := hide (show Below wr.heap.size wr _ from P1.out.trans belT)
    have zBE := BE.out.size
    by_cases hz : E = 0
    ·have dE : (E != 0) = false := by simp [hz]
     clear hz
     go_wp2_with fail
     go_roundw
     case rel => exact ⟨k + 1, HLT.out, by go_num, H0.out.trans (BE.out.mono (by have h1 := H0.out.size; simpa using h1))⟩
     case measure => have := HLT.out; simp [intOf]; omega
    ·have dE : (E != 0) = true := by simpa using hz
     clear hz
     go_wp2_with fail
     go_ret
     exact ⟨_, rfl, fun h => absurd h (by decide), BL.out.trans (BE.out.mono BL.out.size)⟩
   ·obtain rfl : k = n := by omega
    clear hlt hkn
    go_wp2_with fail
    go_ret
    exact ⟨_, rfl, fun _ => HV.out, BL.out⟩
 ·have dE : (m != -1) = true := by simpa using hz
  clear hz
  go_wp2_with fail
  go_ret
  exact ⟨_, rfl, fun h => absurd h (by decide), B1.out⟩
end Go.Proofs.YtpghciiifnjimaaGreatDoor
