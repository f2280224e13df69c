/- Texts laid together: Ezh. -/
import Derived.Test.YtdjlaiilngechaaGreatDoorQEzd
import Derived.Test.YtdjlaiilngechaaGreatDoorQEys
import Derived.Test.YtdjlaiilngechaaGreatDoorQK0
namespace Go.Proofs.YtdjlaiilngechaaGreatDoor
set_option maxRecDepth 4000
set_option linter.unusedSimpArgs false
set_option linter.unusedVariables false
open Go.RowKit
theorem smF_congr {f g : Nat → Lin} : ∀ {n : Nat}, (∀ k, k < n → f k = g k) → smF f n = smF g n
  | 0, _ => rfl
  | n + 1, h => by
    unfold smF
    rw [smF_congr (f := f) (g := g) (n := n) (fun k hk => h k (by omega)), h n (by omega)]
theorem atX_map {l : List LnR} {k : Nat} (h : k < l.length) : linOf (atX l) k = atL (l.map (·.1)) k := by
  unfold linOf
  rw [atX_at h, atL_at (by simpa using h), List.getElem_map]
theorem lnL_bd {f : Nat → Lin} {n : Nat} (h : ∀ i, i < n → LinB 1 (f i)) : ∀ x, x ∈ lnL f n → LinB n x := by
  cases n with
  | zero => intro x hx; simp [lnL] at hx
  | succ k =>
    have t := lnS_bd (f := f) (k := k) (fun i hi => h i (by omega))
    intro x hx
    unfold lnL at hx
    rcases List.mem_append.1 hx with hx | hx
    · exact (t.2 x hx).up (by omega)
    · rw [List.mem_singleton.1 hx]; exact t.1.up (by omega)
/-- The lines of a span, as they lie in memory. -/
theorem lns_fine {B : LBk} {id f : Int} {n : Nat} {l : List LnR} (hn : n ≤ 200) (hl : l.map (·.1) = lnL (fun k => oneP B (acrN B id f k)) n) :
    l.length ≤ 200 ∧ (∀ k, k < l.length → WIn (atX l k).1.gr) ∧ smF (linOf (atX l)) l.length = some (sumC (acrN B id f) n - sumD (acrN B id f) n) := by
  have hb : ∀ i, i < n → LinB 1 (oneP B (acrN B id f i)) := fun i _ => oneP_bd (acrN_fine B id f i).1
  have hlen : l.length = (lnL (fun k => oneP B (acrN B id f k)) n).length := by rw [← hl, List.length_map]
  have h1 := lnL_len (fun k => oneP B (acrN B id f k)) n
  refine ⟨by omega, fun k hk => ?_, ?_⟩
  · have e := atX_map hk
    unfold linOf at e
    rw [e, hl]
    have hk2 : k < (lnL (fun k => oneP B (acrN B id f k)) n).length := by omega
    rw [atL_at hk2]
    exact ((lnL_bd hb _ (List.getElem_mem hk2)).win (by omega)).1
  · rw [smF_congr (g := atL (lnL (fun k => oneP B (acrN B id f k)) n)) (fun k hk => by rw [atX_map hk, hl]), hlen, smF_all hn hb, sumF_one]
/-- The contracts of a span of days. -/
theorem sums_win {B : LBk} {id f : Int} {n : Nat} (hn : n ≤ 200) : WIn (sumC (acrN B id f) n) ∧ WIn (sumD (acrN B id f) n) ∧ WIn (sumC (acrN B id f) n - sumD (acrN B id f) n) := by
  have h := fun i (_ : i < n) => (acrN_fine B id f i).1
  have t := sum_bd h
  have t2 := sum_in hn h
  refine ⟨t2.1, t2.2, ?_⟩
  unfold WIn
  omega
set_option maxRecDepth 8000 in
set_option maxHeartbeats 8000000 in
theorem walk_sums (C : Array Value) (ck : Nat → Tr) (id f t : Int) (w : World) (kn : KnOK 15 ck) (hX : ElT (Old w) w 15 ck C) (ht : Tab w) :
    Calls Tryz.prog 6 #[.agg C, .agg #[.int .i64 id, .int .i64 f, .int .i64 t]] w fun e w' => e = .returned (.bool true) ∧ Below w.heap.size w w' := by
  have HT := hide ht
  have HX := hide hX
  have HK := hide kn
  have HS := hide (show (Tryz.prog.info? 33).map (·.size) = some C.size by rw [show C.size = 22 from hX.size]; kernel_rfl)
  clear ht hX kn
  go_enter Tryz.func6, Tryz.ntmps6
  go_wp2_with (with_reducible refine wpList_load_row rfl 33 (.tmp 2) rfl w.heap.size rfl 33 C (0, 0) _ (blk_under (blk_new rfl)) Tryz.underlying33 rfl HS.out ?_)
  refine (bgr_any HK.out _ C (HX.out.below belT)).mono ?_
  rintro e w1 ⟨b0, rfl, hsm, hb⟩
  have X1 := hide (blk_below hb (by simp; omega) (blk_under (blk_new (k := w.heap.size) rfl)))
  have HSM := hide hsm
  clear hsm
  have q1B : Below w.heap.size w w1 := qB hb
  have q1z := hb.size
  try simp at q1z
  have q1t : w.heap.size ≤ w1.heap.size := (by omega)
  have q1s0 : w.heap.size + 1 < w1.heap.size := (by omega)
  have q1n0_0 : ¬ w1.heap.size = w.heap.size + 1 := (by omega)
  have q1n0_1 : ¬ w1.heap.size + 1 = w.heap.size + 1 := (by omega)
  have q1n0_2 : ¬ w1.heap.size + 2 = w.heap.size + 1 := (by omega)
  have q1c0_0 := cel hb (w.heap.size + 1) 0
  simp [go_sem, *] at q1c0_0
  have q1c0_1 := cel hb (w.heap.size + 1) 1
  simp [go_sem, *] at q1c0_1
  have q1c0_2 := cel hb (w.heap.size + 1) 2
  simp [go_sem, *] at q1c0_2
  have q1f0 := fun o => fro hb (w.heap.size + 1) o
  simp [go_sem, *] at q1f0
  have q1o := belO q1B
  clear hb
  have Q1 := hide q1B
  cases b0 with
  | true =>
    go_wp2_with fail
    go_ret
    exact ⟨rfl, Q1.out⟩
  | false =>
    obtain ⟨B, rfl, hB, hW⟩ := bk_of HK.out (HSM.out (by first | rfl | trivial)) HX.out
    have HB := hide hB
    have HW := hide hW
    clear hB hW
    by_cases c1 : f < 0
    · go_wp2_with fail
      go_ret
      exact ⟨rfl, Q1.out⟩
    by_cases c2 : t < f
    · go_wp2_with fail
      go_ret
      exact ⟨rfl, Q1.out⟩
    by_cases c3 : 73048 < t
    · go_wp2_with fail
      go_ret
      exact ⟨rfl, Q1.out⟩
    have c4 : -9223372036854775808 ≤ t - f ∧ t - f ≤ 9223372036854775807 := by omega
    by_cases c5 : 120 < t - f
    · go_wp2_with fail
      go_ret
      exact ⟨rfl, Q1.out⟩
    by_cases h0 : serE B id f t = 0
    · obtain ⟨n, hn⟩ : ∃ n : Nat, (n : Int) = t - f + 1 := ⟨(t - f + 1).toNat, by omega⟩
      have hn2 : n ≤ 200 := by omega
      have HL := hide (fun W h => by have z := lines_any B HB.out id f t (by omega) W h; unfold LinesRet lnsL at z; rw [h0, if_pos rfl, show (t - f + 1).toNat = n by omega] at z; exact z)
      have HSR := hide (fun W h => by have z := series_any B HB.out id f t W h; unfold SerRet at z; rw [h0] at z; exact z)
      have HSW := hide (fun (w : World) (A : Option Addr) h => ser_row (w := w) (A := A) h0 hn h)
      have HZ := hide (sums_win (B := B) (id := id) (f := f) hn2)
      have HFN := hide (fun (l : List LnR) h => lns_fine (B := B) (id := id) (f := f) (n := n) (l := l) hn2 h)
      have HTT := hide (fun W A c h => by have z := tot_any A n c (acrN B id f) (by omega) (fun k _ => by have y := (acrN_fine B id f k).1; have := y.c0; have := y.c1; have := y.d0; have := y.d1; unfold WIn; omega) W h; rw [tot_sum hn2 (fun i _ => (acrN_fine B id f i).1)] at z; unfold TotRet at z; exact z)
      have HN2 := hide hn2
      clear h0 hn hn2
      go_wp2_with (with_reducible refine wpList_load_row rfl 33 (.tmp 2) rfl w.heap.size rfl 33 B.C (0, 0) _ X1.out Tryz.underlying33 rfl HS.out ?_)
      refine (HL.out _ (HW.out.below Q1.out)).mono ?_
      rintro e w2 ⟨A, c, l, rfl, hrl, hl, hb⟩
      have X2 := hide (blk_below hb (by omega) X1.out)
      have B2 := hide hb
      have q2B : Below w1.heap.size w1 w2 := qB hb
      have q2z := hb.size
      try simp at q2z
      have q2t : w1.heap.size ≤ w2.heap.size := (by omega)
      have q2s0 : w.heap.size + 1 < w2.heap.size := (by omega)
      have q2n0_0 : ¬ w2.heap.size = w.heap.size + 1 := (by omega)
      have q2n0_1 : ¬ w2.heap.size + 1 = w.heap.size + 1 := (by omega)
      have q2n0_2 : ¬ w2.heap.size + 2 = w.heap.size + 1 := (by omega)
      have q2c0_0 := cel hb (w.heap.size + 1) 0
      simp [go_sem, *] at q2c0_0
      have q2c0_1 := cel hb (w.heap.size + 1) 1
      simp [go_sem, *] at q2c0_1
      have q2c0_2 := cel hb (w.heap.size + 1) 2
      simp [go_sem, *] at q2c0_2
      have q2f0 := fun o => fro hb (w.heap.size + 1) o
      simp [go_sem, *] at q2f0
      have q2o := belO q2B
      clear hb q1o q1f0 q1c0_2 q1c0_1 q1c0_0 q1s0 q1z q1B
      have Q2 := hide (Q1.out.trans (B2.out.mono Q1.out.size))
      have HRL := hide hrl
      obtain ⟨l1, l2, l3⟩ := HFN.out l hl
      have L1 := hide l1
      have L2 := hide l2
      have L3 := hide l3
      clear hrl hl l1 l2 l3
      go_wp2_with (with_reducible refine wpList_load_row rfl 33 (.tmp 2) rfl w.heap.size rfl 33 B.C (0, 0) _ X2.out Tryz.underlying33 rfl HS.out ?_)
      refine (HSR.out _ (HW.out.below Q2.out)).mono ?_
      rintro e w3 ⟨A2, cc, rfl, hra, hb⟩
      obtain ⟨e1, hra⟩ := HSW.out _ _ hra
      rw [e1]
      have HRA := hide hra
      have B3 := hide hb
      have Q3 := hide (Q2.out.trans (B3.out.mono Q2.out.size))
      clear hra e1 hb
      go_wp2_with fail
      refine (esum_any A l.length c (atX l) (by have := L1.out; omega) L2.out _ (HRL.out.below B3.out)).mono ?_
      rw [show smFV (linOf (atX l)) l.length = sumC (acrN B id f) n - sumD (acrN B id f) n by unfold smFV; rw [L3.out], show smFE (linOf (atX l)) l.length = 0 by unfold smFE; rw [L3.out]]
      rintro e w4 ⟨rfl, hb⟩
      have B4 := hide hb
      have Q4 := hide (Q3.out.trans (B4.out.mono Q3.out.size))
      clear hb
      go_wp2_with fail
      refine (HTT.out _ A2 cc (HRA.out.below (B4.out.trans (by have := B4.out.size; (repeat (first | (with_reducible first | exact Below.refl _ _ | assumption | refine Below.drew ?_) | ((with_reducible first | refine Below.alloc ?_ ?_ _ | refine Below.setCell ?_ ?_ _); rotate_left; (first | omega | (simp <;> omega))))))))).mono ?_
      rintro e w5 ⟨rfl, hb⟩
      have q5B : Below w4.heap.size w4 w5 := qB hb
      have q5z := hb.size
      try simp at q5z
      have q5t : w4.heap.size ≤ w5.heap.size := (by omega)
      have q5s0 : w4.heap.size < w5.heap.size := (by omega)
      have q5n0_0 : ¬ w5.heap.size = w4.heap.size := (by omega)
      have q5n0_1 : ¬ w5.heap.size + 1 = w4.heap.size := (by omega)
      have q5n0_2 : ¬ w5.heap.size + 2 = w4.heap.size := (by omega)
      have q5c0_0 := cel hb w4.heap.size 0
      simp [go_sem, *] at q5c0_0
      have q5c0_1 := cel hb w4.heap.size 1
      simp [go_sem, *] at q5c0_1
      have q5f0 := fun o => fro hb w4.heap.size o
      simp [go_sem, *] at q5f0
      have q5o := belO q5B
      clear hb
      have B5 := hide (show Below w4.heap.size w4 w5 from q5B)
      have HZ5 := hide (show w4.heap.size < w5.heap.size from q5s0)
      have Q5 := hide (Q4.out.trans (B5.out.mono Q4.out.size))
      go_wp2_with fail
      refine (wsub_any _ _ HZ.out.1 HZ.out.2.1 _).mono ?_
      rw [fitR_of HZ.out.2.2, fitE_of HZ.out.2.2]
      rintro e w6 ⟨rfl, hb⟩
      have q6B : Below w5.heap.size w5 w6 := qB hb
      have q6z := hb.size
      try simp at q6z
      have q6t : w5.heap.size ≤ w6.heap.size := (by omega)
      have q6s0 : w4.heap.size < w6.heap.size := (by omega)
      have q6n0_0 : ¬ w6.heap.size = w4.heap.size := (by omega)
      have q6n0_1 : ¬ w6.heap.size + 1 = w4.heap.size := (by omega)
      have q6n0_2 : ¬ w6.heap.size + 2 = w4.heap.size := (by omega)
      have q6c0_0 := cel hb w4.heap.size 0
      simp [go_sem, *] at q6c0_0
      have q6c0_1 := cel hb w4.heap.size 1
      simp [go_sem, *] at q6c0_1
      have q6f0 := fun o => fro hb w4.heap.size o
      simp [go_sem, *] at q6f0
      have q6o := belO q6B
      clear hb q5o q5f0 q5c0_1 q5c0_0 q5s0 q5z q5B
      have Q6 := hide (Q5.out.trans (q6B.mono Q5.out.size))
      go_wp2_with fail
      refine (live_any _ (HT.out.below (Q6.out.trans (by have := Q6.out.size; (repeat (first | (with_reducible first | exact Below.refl _ _ | assumption | refine Below.drew ?_) | ((with_reducible first | refine Below.alloc ?_ ?_ _ | refine Below.setCell ?_ ?_ _); rotate_left; (first | omega | (simp <;> omega))))))))).mono ?_
      rintro e w7 ⟨rfl, hb⟩
      go_wp2_with fail
      go_ret
      exact ⟨rfl, by have := Q6.out.size; exact Q6.out.trans (Below.trans belT (hb.mono (by simp; omega)))⟩
    · obtain ⟨hE, hV⟩ := ser_bad h0 (by omega) (by omega) (by omega) (by omega)
      have hE : serE B id f t = 11 := by rcases hE with h | h; exact h; omega
      have HL := hide (fun W h => by have z := lines_any B HB.out id f t (by omega) W h; unfold LinesRet lnsL at z; rw [if_neg h0, hE] at z; exact z)
      have HSR := hide (fun W h => by have z := series_any B HB.out id f t W h; unfold SerRet at z; rw [hE, hV] at z; exact z)
      clear h0 hE hV
      go_wp2_with (with_reducible refine wpList_load_row rfl 33 (.tmp 2) rfl w.heap.size rfl 33 B.C (0, 0) _ X1.out Tryz.underlying33 rfl HS.out ?_)
      refine (HL.out _ (HW.out.below Q1.out)).mono ?_
      rintro e w2 ⟨A, c, l, rfl, hrl, hl, hb⟩
      obtain rfl : l = [] := by cases l with | nil => rfl | cons x l => cases hl
      have X2 := hide (blk_below hb (by omega) X1.out)
      have B2 := hide hb
      have q2B : Below w1.heap.size w1 w2 := qB hb
      have q2z := hb.size
      try simp at q2z
      have q2t : w1.heap.size ≤ w2.heap.size := (by omega)
      have q2s0 : w.heap.size + 1 < w2.heap.size := (by omega)
      have q2n0_0 : ¬ w2.heap.size = w.heap.size + 1 := (by omega)
      have q2n0_1 : ¬ w2.heap.size + 1 = w.heap.size + 1 := (by omega)
      have q2n0_2 : ¬ w2.heap.size + 2 = w.heap.size + 1 := (by omega)
      have q2c0_0 := cel hb (w.heap.size + 1) 0
      simp [go_sem, *] at q2c0_0
      have q2c0_1 := cel hb (w.heap.size + 1) 1
      simp [go_sem, *] at q2c0_1
      have q2c0_2 := cel hb (w.heap.size + 1) 2
      simp [go_sem, *] at q2c0_2
      have q2f0 := fun o => fro hb (w.heap.size + 1) o
      simp [go_sem, *] at q2f0
      have q2o := belO q2B
      clear hb
      have Q2 := hide (Q1.out.trans (B2.out.mono Q1.out.size))
      clear hrl hl
      go_wp2_with (with_reducible refine wpList_load_row rfl 33 (.tmp 2) rfl w.heap.size rfl 33 B.C (0, 0) _ X2.out Tryz.underlying33 rfl HS.out ?_)
      refine (HSR.out _ (HW.out.below Q2.out)).mono ?_
      rintro e w3 ⟨A2, cc, rfl, hra, hb⟩
      have Q3 := hide (Q2.out.trans (hb.mono Q2.out.size))
      clear hra hb
      go_wp2_with fail
      refine (live_any _ (HT.out.below Q3.out)).mono ?_
      rintro e w7 ⟨rfl, hb⟩
      go_wp2_with fail
      go_ret
      exact ⟨rfl, Q3.out.trans (hb.mono Q3.out.size)⟩
end Go.Proofs.YtdjlaiilngechaaGreatDoor
