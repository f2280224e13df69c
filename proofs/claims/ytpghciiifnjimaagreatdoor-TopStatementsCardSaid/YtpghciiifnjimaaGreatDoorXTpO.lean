/- Texts laid together: TpO. -/
import Derived.Test.YtpghciiifnjimaaGreatDoorXTpN
import Derived.Test.YtpghciiifnjimaaGreatDoorXK0
namespace Go.Proofs.YtpghciiifnjimaaGreatDoor
set_option maxRecDepth 4000
set_option linter.unusedSimpArgs false
set_option linter.unusedVariables false
open Go.RowKit
theorem fe_size {X : Array Value} (h : X.size = 10) : (Tryz.prog.info? 228).map (·.size) = some X.size := by rw [h]; kernel_rfl
theorem ru_size {X : Array Value} (h : X.size = 6) : (Tryz.prog.info? 231).map (·.size) = some X.size := by rw [h]; kernel_rfl
set_option maxRecDepth 8000 in
set_option maxHeartbeats 16000000 in
theorem wcheck15_any (hR : RtAll) {ck : Nat → Tr} (kn : KnOK 8 ck) (A1 : Option Addr) (n1 cap1 : Nat) (c1 : Nat → Nat → Tr) (C1 : Nat → Nat → Value) (hk1 : RowK 1 n1 c1) (A2 : Option Addr) (n2 cap2 : Nat) (c2 : Nat → Nat → Tr) (C2 : Nat → Nat → Value) (hk2 : RowK 2 n2 c2) (w : World) (X : Array Value) (hX : ElT (Old w) w 8 ck X) (hA1 : RowT (Old w) w 1 A1 n1 c1 C1) (hA2 : RowT (Old w) w 2 A2 n2 c2 C2) :
  Calls Tryz.prog 89 #[.agg X, .slice A1 n1 cap1, .slice A2 n2 cap2] w (OkE ((ck 7).n ≤ 6 ∧ (ck 12).n ≤ 6) w) := by
 have hXs : X.size = 19 := hX.size
 obtain ⟨s0, _, e0, _⟩ := rd_str (hX.rd 0 (by decide)) (kn 0 (by decide))
 have g0 : X[0]? = some (.string s0) := at_eq hXs (by decide) e0
 obtain ⟨s1, _, e1, _⟩ := rd_str (hX.rd 1 (by decide)) (kn 1 (by decide))
 have g1 : X[1]? = some (.string s1) := at_eq hXs (by decide) e1
 obtain ⟨s2, _, e2, _⟩ := rd_str (hX.rd 2 (by decide)) (kn 2 (by decide))
 have g2 : X[2]? = some (.string s2) := at_eq hXs (by decide) e2
 obtain ⟨z3, _, e3, _⟩ := rd_int (hX.rd 3 (by decide)) (kn 3 (by decide))
 have g3 : X[3]? = some (.int .i64 z3) := at_eq hXs (by decide) e3
 obtain ⟨z4, _, e4, _⟩ := rd_int (hX.rd 4 (by decide)) (kn 4 (by decide))
 have g4 : X[4]? = some (.int .i64 z4) := at_eq hXs (by decide) e4
 obtain ⟨z5, _, e5, _⟩ := rd_int (hX.rd 5 (by decide)) (kn 5 (by decide))
 have g5 : X[5]? = some (.int .i64 z5) := at_eq hXs (by decide) e5
 obtain ⟨z6, _, e6, _⟩ := rd_int (hX.rd 6 (by decide)) (kn 6 (by decide))
 have g6 : X[6]? = some (.int .i64 z6) := at_eq hXs (by decide) e6
 obtain ⟨m7, c7, q7, hr7, B7, p7, C7, e7, _, ha7⟩ := rd_row (e := 4) (hX.rd 7 (by decide)) (kn 7 (by decide))
 have HR7 := hide hr7
 have HB7 := hide ha7
 have g7 : X[7]? = some (.slice B7 m7 p7) := at_eq hXs (by decide) e7
 obtain ⟨b8, _, e8⟩ := rd_bool (hX.rd 8 (by decide)) (kn 8 (by decide))
 have g8 : X[8]? = some (.bool b8) := at_eq hXs (by decide) e8
 obtain ⟨z9, _, e9, _⟩ := rd_int (hX.rd 9 (by decide)) (kn 9 (by decide))
 have g9 : X[9]? = some (.int .i64 z9) := at_eq hXs (by decide) e9
 obtain ⟨z10, _, e10, _⟩ := rd_int (hX.rd 10 (by decide)) (kn 10 (by decide))
 have g10 : X[10]? = some (.int .i64 z10) := at_eq hXs (by decide) e10
 obtain ⟨b11, _, e11⟩ := rd_bool (hX.rd 11 (by decide)) (kn 11 (by decide))
 have g11 : X[11]? = some (.bool b11) := at_eq hXs (by decide) e11
 obtain ⟨m12, c12, q12, hr12, B12, p12, C12, e12, _, ha12⟩ := rd_row (e := 4) (hX.rd 12 (by decide)) (kn 12 (by decide))
 have HR12 := hide hr12
 have HB12 := hide ha12
 have g12 : X[12]? = some (.slice B12 m12 p12) := at_eq hXs (by decide) e12
 obtain ⟨b13, _, e13⟩ := rd_bool (hX.rd 13 (by decide)) (kn 13 (by decide))
 have g13 : X[13]? = some (.bool b13) := at_eq hXs (by decide) e13
 obtain ⟨z14, _, e14, _⟩ := rd_int (hX.rd 14 (by decide)) (kn 14 (by decide))
 have g14 : X[14]? = some (.int .i64 z14) := at_eq hXs (by decide) e14
 obtain ⟨z15, _, e15, _⟩ := rd_int (hX.rd 15 (by decide)) (kn 15 (by decide))
 have g15 : X[15]? = some (.int .i64 z15) := at_eq hXs (by decide) e15
 obtain ⟨b16, _, e16⟩ := rd_bool (hX.rd 16 (by decide)) (kn 16 (by decide))
 have g16 : X[16]? = some (.bool b16) := at_eq hXs (by decide) e16
 obtain ⟨m17, c17, q17, hr17, B17, p17, C17, e17, _, ha17⟩ := rd_row (e := 6) (hX.rd 17 (by decide)) (kn 17 (by decide))
 have HR17 := hide hr17
 have HB17 := hide ha17
 have g17 : X[17]? = some (.slice B17 m17 p17) := at_eq hXs (by decide) e17
 obtain ⟨m18, c18, q18, hr18, B18, p18, C18, e18, _, ha18⟩ := rd_row (e := 7) (hX.rd 18 (by decide)) (kn 18 (by decide))
 have HR18 := hide hr18
 have HB18 := hide ha18
 have g18 : X[18]? = some (.slice B18 m18 p18) := at_eq hXs (by decide) e18
 have hn17 : m17 ≤ 140737488351232 := by have := hr17.room; simp only [tby] at this; omega
 have hn18 : m18 ≤ 140737488351232 := by have := hr18.room; simp only [tby] at this; omega
 have HFIN := hide (show m7 ≤ 6 → m12 ≤ 6 → (ck 7).n ≤ 6 ∧ (ck 12).n ≤ 6 from fun a b => ⟨by rw [q7]; exact a, by rw [q12]; exact b⟩)
 have HRT := hide hR
 clear hX kn hXs hR e0 e1 e2 e3 e4 e5 e6 e7 e8 e9 e10 e11 e12 e13 e14 e15 e16 e17 e18 hr7 ha7 q7 hr12 ha12 q12 hr17 ha17 q17 hr18 ha18 q18
 have HK1 := hide hk1
 have HA1 := hide hA1
 have hn1 : n1 ≤ 140737488351232 := by have := hk1.room; simp only [tby] at this; omega
 clear hk1 hA1
 have HK2 := hide hk2
 have HA2 := hide hA2
 have hn2 : n2 ≤ 140737488351232 := by have := hk2.room; simp only [tby] at this; omega
 clear hk2 hA2
 go_enter Tryz.func89, Tryz.ntmps89
 go_wp2_with fail
 refine (wname15_any s0 _).mono ?_
 rintro r w1 ⟨⟨v1, rfl⟩, hb⟩
 have q1B : Below w.heap.size w w1 := qB hb
 have q1z := hb.size
 try simp at q1z
 have q1t : w.heap.size ≤ w1.heap.size := (by omega)
 obtain ⟨q1s0, q1n0_0, q1n0_1, q1n0_2⟩ := kB w1.heap.size w.heap.size
 obtain ⟨q1c0_0, q1c0_1, q1c0_2, q1c0_3, q1c0_4, q1c0_5, q1c0_6, q1c0_7, q1c0_8, q1c0_9, q1c0_10, q1c0_11, q1c0_12, q1c0_13, q1c0_14, q1c0_15, q1c0_16, q1c0_17, q1c0_18, q1f0⟩ := kC19 hb w.heap.size
 simp [go_sem, *] at q1c0_0 q1c0_1 q1c0_2 q1c0_3 q1c0_4 q1c0_5 q1c0_6 q1c0_7 q1c0_8 q1c0_9 q1c0_10 q1c0_11 q1c0_12 q1c0_13 q1c0_14 q1c0_15 q1c0_16 q1c0_17 q1c0_18 q1f0
 have q1o := belO q1B
 clear hb
 have Q1 := hide q1B
 cases v1 with
 | false =>
  go_wp2_with fail
  go_ret
  exact ⟨_, rfl, fun h => absurd h (by decide), Q1.out⟩
 | true =>
  go_wp2_with fail
  refine (wfind3_any A1 n1 cap1 c1 C1 HK1.out s1 _ (HA1.out.below Q1.out)).mono ?_
  rintro r w2 ⟨⟨t0, t1, v2, rfl⟩, hb⟩
  have q2B : Below w1.heap.size w1 w2 := qB hb
  have q2z := hb.size
  try simp at q2z
  have q2t : w1.heap.size ≤ w2.heap.size := (by omega)
  obtain ⟨q2s0, q2n0_0, q2n0_1, q2n0_2⟩ := kB w2.heap.size w.heap.size
  obtain ⟨q2c0_0, q2c0_1, q2c0_2, q2c0_3, q2c0_4, q2c0_5, q2c0_6, q2c0_7, q2c0_8, q2c0_9, q2c0_10, q2c0_11, q2c0_12, q2c0_13, q2c0_14, q2c0_15, q2c0_16, q2c0_17, q2c0_18, q2f0⟩ := kC19 hb w.heap.size
  simp [go_sem, *] at q2c0_0 q2c0_1 q2c0_2 q2c0_3 q2c0_4 q2c0_5 q2c0_6 q2c0_7 q2c0_8 q2c0_9 q2c0_10 q2c0_11 q2c0_12 q2c0_13 q2c0_14 q2c0_15 q2c0_16 q2c0_17 q2c0_18 q2f0
  have q2o := belO q2B
  clear hb q1o q1f0 q1c0_18 q1c0_17 q1c0_16 q1c0_15 q1c0_14 q1c0_13 q1c0_12 q1c0_11 q1c0_10 q1c0_9 q1c0_8 q1c0_7 q1c0_6 q1c0_5 q1c0_4 q1c0_3 q1c0_2 q1c0_1 q1c0_0 q1s0 q1z q1B
  have Q2 := hide (Q1.out.trans (q2B.mono Q1.out.size))
  have z2 := Q2.out.size
  cases v2 with
  | false =>
   go_wp2_with fail
   go_ret
   exact ⟨_, rfl, fun h => absurd h (by decide), Q2.out.trans belT⟩
  | true =>
   go_wp2_with fail
   refine (wfind5_any A2 n2 cap2 c2 C2 HK2.out s2 _ (HA2.out.below (Q2.out.trans belT))).mono ?_
   rintro r w3 ⟨⟨t2, D1, d1, f1, D2, d2, f2, v3, rfl⟩, hb⟩
   have q3B : Below w2.heap.size w2 w3 := qB hb
   have q3z := hb.size
   try simp at q3z
   have q3t : w2.heap.size ≤ w3.heap.size := (by omega)
   obtain ⟨q3s0, q3n0_0, q3n0_1, q3n0_2⟩ := kB w3.heap.size w.heap.size
   obtain ⟨q3c0_0, q3c0_1, q3c0_2, q3c0_3, q3c0_4, q3c0_5, q3c0_6, q3c0_7, q3c0_8, q3c0_9, q3c0_10, q3c0_11, q3c0_12, q3c0_13, q3c0_14, q3c0_15, q3c0_16, q3c0_17, q3c0_18, q3f0⟩ := kC19 hb w.heap.size
   simp [go_sem, *] at q3c0_0 q3c0_1 q3c0_2 q3c0_3 q3c0_4 q3c0_5 q3c0_6 q3c0_7 q3c0_8 q3c0_9 q3c0_10 q3c0_11 q3c0_12 q3c0_13 q3c0_14 q3c0_15 q3c0_16 q3c0_17 q3c0_18 q3f0
   have q3o := belO q3B
   clear hb q2o q2f0 q2c0_18 q2c0_17 q2c0_16 q2c0_15 q2c0_14 q2c0_13 q2c0_12 q2c0_11 q2c0_10 q2c0_9 q2c0_8 q2c0_7 q2c0_6 q2c0_5 q2c0_4 q2c0_3 q2c0_2 q2c0_1 q2c0_0 q2s0 q2z q2B
   have Q3 := hide (Q2.out.trans (q3B.mono Q2.out.size))
   have z3s := Q3.out.size
   cases v3 with
   | false =>
    go_wp2_with fail
    go_ret
    exact ⟨_, rfl, fun h => absurd h (by decide), Q3.out.trans belT⟩
   | true =>
    go_upto_region 9 with fail
    go_cut [11] (fun v11 wx => (∃ b : Bool, v11 = .bool b) ∧ wx = w3.alloc (.cells #[.string t2, .slice D1 d1 f1, .slice D2 d2 f2] 99))
    case first =>
     go_wp2_with fail
     all_goals (go_meet; exact ⟨⟨_, rfl⟩, rfl⟩)
    case rest =>
     obtain ⟨⟨be, rfl⟩, rfl⟩ := hcut
     have Q4 := hide (show Below w.heap.size w (w3.alloc (.cells #[.string t2, .slice D1 d1 f1, .slice D2 d2 f2] 99)) from Q3.out.trans belT)
     go_wp2_with (go_at_call 90; refine (rvalid_any _ _).mono ?_; rintro r wv ⟨rfl, rfl⟩)
     all_goals try (go_ret; exact ⟨_, rfl, fun h => absurd h (by decide), Q4.out⟩)
     refine (wint15_any B7 m7 p7 c7 C7 HR7.out b8 z9 z10 b11 _ (HB7.out.below Q4.out)).mono ?_
     rintro r w4 ⟨E4, rfl, hE4, hb⟩
     have HE4 := hide hE4
     clear hE4
     have q4B : Below w3.heap.size w3 w4 := qB hb
     have q4z := hb.size
     try simp at q4z
     have q4t : w3.heap.size ≤ w4.heap.size := (by omega)
     obtain ⟨q4s0, q4n0_0, q4n0_1, q4n0_2⟩ := kB w4.heap.size w.heap.size
     obtain ⟨q4c0_0, q4c0_1, q4c0_2, q4c0_3, q4c0_4, q4c0_5, q4c0_6, q4c0_7, q4c0_8, q4c0_9, q4c0_10, q4c0_11, q4c0_12, q4c0_13, q4c0_14, q4c0_15, q4c0_16, q4c0_17, q4c0_18, q4f0⟩ := kC19 hb w.heap.size
     simp [go_sem, *] at q4c0_0 q4c0_1 q4c0_2 q4c0_3 q4c0_4 q4c0_5 q4c0_6 q4c0_7 q4c0_8 q4c0_9 q4c0_10 q4c0_11 q4c0_12 q4c0_13 q4c0_14 q4c0_15 q4c0_16 q4c0_17 q4c0_18 q4f0
     have q4o := belO q4B
     clear hb q3o q3f0 q3c0_18 q3c0_17 q3c0_16 q3c0_15 q3c0_14 q3c0_13 q3c0_12 q3c0_11 q3c0_10 q3c0_9 q3c0_8 q3c0_7 q3c0_6 q3c0_5 q3c0_4 q3c0_3 q3c0_2 q3c0_1 q3c0_0 q3s0 q3z q3B
     have Q5 := hide (Q3.out.trans (q4B.mono Q3.out.size))
     by_cases hz4 : E4 = 0
     rotate_left
     ·have dE4 : (E4 != 0) = true := by simpa using hz4
      have HXE4 := hide hz4
      clear hz4
      go_wp2_with fail
      go_ret
      exact ⟨_, rfl, fun h => absurd h HXE4.out, Q5.out⟩
     have H7 := hide (HE4.out hz4)
     have dE4 : (E4 != 0) = false := by simp [hz4]
     clear hz4
     go_wp2_with fail
     refine (wint15_any B12 m12 p12 c12 C12 HR12.out b13 z14 z15 b16 _ (HB12.out.below Q5.out)).mono ?_
     rintro r w5 ⟨E5, rfl, hE5, hb⟩
     have HE5 := hide hE5
     clear hE5
     have q5B : Below w4.heap.size w4 w5 := qB hb
     have q5z := hb.size
     try simp at q5z
     have q5t : w4.heap.size ≤ w5.heap.size := (by omega)
     obtain ⟨q5s0, q5n0_0, q5n0_1, q5n0_2⟩ := kB w5.heap.size w.heap.size
     have q5c0_17 := cel hb w.heap.size 17
     simp [go_sem, *] at q5c0_17
     have q5c0_18 := cel hb w.heap.size 18
     simp [go_sem, *] at q5c0_18
     have q5f0 := fun o => fro hb w.heap.size o
     simp [go_sem, *] at q5f0
     have q5o := belO q5B
     clear hb q4o q4f0 q4c0_18 q4c0_17 q4c0_16 q4c0_15 q4c0_14 q4c0_13 q4c0_12 q4c0_11 q4c0_10 q4c0_9 q4c0_8 q4c0_7 q4c0_6 q4c0_5 q4c0_4 q4c0_3 q4c0_2 q4c0_1 q4c0_0 q4s0 q4z q4B
     have Q6 := hide (Q5.out.trans (q5B.mono Q5.out.size))
     by_cases hz5 : E5 = 0
     rotate_left
     ·have dE5 : (E5 != 0) = true := by simpa using hz5
      have HXE5 := hide hz5
      clear hz5
      go_wp2_with fail
      go_ret
      exact ⟨_, rfl, fun h => absurd h HXE5.out, Q6.out⟩
     have H12 := hide (HE5.out hz5)
     have dE5 : (E5 != 0) = false := by simp [hz5]
     clear hz5
     go_wp2_with fail
     all_goals try (go_ret; exact ⟨_, rfl, fun h => absurd h (by decide), Q6.out⟩)
     go_loopw [14] (fun v wr => KB m17 w5 v wr) (fun v _ => m17 - (intOf v).toNat)
     case atStart => exact ⟨0, by omega, rfl, Below.refl _ _⟩
     case round =>
      obtain ⟨k, hkn, rfl, hb⟩ := hrel
      have H0 := hide hb
      have q6B : Below w5.heap.size w5 wr := qB hb
      have q6z := hb.size
      try simp at q6z
      have q6t : w5.heap.size ≤ wr.heap.size := (by omega)
      obtain ⟨q6s0, q6n0_0, q6n0_1, q6n0_2⟩ := kB wr.heap.size w.heap.size
      have q6c0_17 := cel hb w.heap.size 17
      simp [go_sem, *] at q6c0_17
      have q6c0_18 := cel hb w.heap.size 18
      simp [go_sem, *] at q6c0_18
      have q6f0 := fun o => fro hb w.heap.size o
      simp [go_sem, *] at q6f0
      have q6o := belO q6B
      clear hb q5o q5f0 q5c0_18 q5c0_17 q5s0 q5z q5B
      have QL := hide (Q6.out.trans (H0.out.mono Q6.out.size))
      by_cases hlt : k < m17
      ·have hm : (k : Int) < m17 := by omega
       have hk0 : (0 : Int) ≤ k := by omega
       have HLT := hide hlt
       obtain ⟨b, off, rfl, hbl, hc⟩ := (HB17.out.below QL.out).cells (by decide) hlt
       have HC := hide (show ∀ j v, (elA 6 C17 k)[j]? = some v → wr.cell? ⟨b, off + k * 10 + j, none⟩ = some v from hc)
       have HX := hide ((HB17.out.below QL.out).el HR17.out hlt)
       have HS := hide (fe_size (elA_size 6 C17 k))
       have HKE := hide (kn_of HR17.out hlt)
       clear hc hlt hkn
       go_wp2_with (with_reducible refine wpList_load_midA rfl 228 (.tmp 118) rfl b (off + k * 10) rfl (elA 6 C17 k) _ HC.out Tryz.underlying228 rfl HS.out ?_)
       refine (wfee15_any HRT.out HKE.out _ _ HX.out).mono ?_
       rintro r w8 ⟨⟨z8, rfl⟩, hb⟩
       by_cases hz8 : z8 = 0
       ·have d8 : (z8 != 0) = false := by simp [hz8]
        clear hz8
        go_wp2_with fail
        go_roundw
        case rel => exact ⟨k + 1, HLT.out, by go_num, H0.out.trans (hb.mono H0.out.size)⟩
        case measure => have := HLT.out; simp [intOf]; omega
       ·have d8 : (z8 != 0) = true := by simpa using hz8
        have HX8 := hide hz8
        clear hz8
        go_wp2_with fail
        go_ret
        exact ⟨_, rfl, fun h => absurd h HX8.out, QL.out.trans (hb.mono QL.out.size)⟩
      ·obtain rfl : k = m17 := by omega
       clear hlt hkn
       go_wp2_with fail
       obtain ⟨w6, hw6⟩ : ∃ x, x = wr := ⟨_, rfl⟩
       subst hw6
       have Q7 := hide QL.out
       go_loopw [16] (fun v wr => KB m18 w6 v wr) (fun v _ => m18 - (intOf v).toNat)
       case atStart => exact ⟨0, by omega, rfl, Below.refl _ _⟩
       case round =>
        obtain ⟨k, hkn, rfl, hb⟩ := hrel
        have H0 := hide hb
        have q7B : Below w6.heap.size w6 wr := qB hb
        have q7z := hb.size
        try simp at q7z
        have q7t : w6.heap.size ≤ wr.heap.size := (by omega)
        obtain ⟨q7s0, q7n0_0, q7n0_1, q7n0_2⟩ := kB wr.heap.size w.heap.size
        have q7c0_17 := cel hb w.heap.size 17
        simp [go_sem, *] at q7c0_17
        have q7c0_18 := cel hb w.heap.size 18
        simp [go_sem, *] at q7c0_18
        have q7f0 := fun o => fro hb w.heap.size o
        simp [go_sem, *] at q7f0
        have q7o := belO q7B
        clear hb q6o q6f0 q6c0_18 q6c0_17 q6s0 q6z q6B
        have QL := hide (Q7.out.trans (H0.out.mono Q7.out.size))
        by_cases hlt : k < m18
        ·have hm : (k : Int) < m18 := by omega
         have hk0 : (0 : Int) ≤ k := by omega
         have HLT := hide hlt
         obtain ⟨b, off, rfl, hbl, hc⟩ := (HB18.out.below QL.out).cells (by decide) hlt
         have HC := hide (show ∀ j v, (elA 7 C18 k)[j]? = some v → wr.cell? ⟨b, off + k * 6 + j, none⟩ = some v from hc)
         have HX := hide ((HB18.out.below QL.out).el HR18.out hlt)
         have HS := hide (ru_size (elA_size 7 C18 k))
         have HKE := hide (kn_of HR18.out hlt)
         clear hc hlt hkn
         go_wp2_with (with_reducible refine wpList_load_midA rfl 231 (.tmp 134) rfl b (off + k * 6) rfl (elA 7 C18 k) _ HC.out Tryz.underlying231 rfl HS.out ?_)
         refine (wrule15_any HRT.out HKE.out _ _ HX.out).mono ?_
         rintro r w8 ⟨⟨z8, rfl⟩, hb⟩
         by_cases hz8 : z8 = 0
         ·have d8 : (z8 != 0) = false := by simp [hz8]
          clear hz8
          go_wp2_with fail
          go_roundw
          case rel => exact ⟨k + 1, HLT.out, by go_num, H0.out.trans (hb.mono H0.out.size)⟩
          case measure => have := HLT.out; simp [intOf]; omega
         ·have d8 : (z8 != 0) = true := by simpa using hz8
          have HX8 := hide hz8
          clear hz8
          go_wp2_with fail
          go_ret
          exact ⟨_, rfl, fun h => absurd h HX8.out, QL.out.trans (hb.mono QL.out.size)⟩
        ·obtain rfl : k = m18 := by omega
         clear hlt hkn
         go_wp2_with fail
         go_ret
         exact ⟨_, rfl, fun _ => HFIN.out H7.out H12.out, QL.out⟩
end Go.Proofs.YtpghciiifnjimaaGreatDoor
