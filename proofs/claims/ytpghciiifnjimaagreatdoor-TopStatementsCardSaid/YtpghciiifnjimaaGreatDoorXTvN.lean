/- Texts laid together: TvN TvO TvP TvQ TvR. -/
import Derived.Test.YtpghciiifnjimaaGreatDoorXTvL
import Derived.Test.YtpghciiifnjimaaGreatDoorXTpV
import Derived.Test.YtpghciiifnjimaaGreatDoorXTpL
import Derived.Laws.CopyOwn
import Derived.Lib.AppendIntMem
import Derived.Lib.AppendStr
import Derived.Lib.ItoaLen
import Derived.Laws.IdiomStrings
import Derived.Test.YtpghciiifnjimaaGreatDoorXK0
namespace Go.Proofs.YtpghciiifnjimaaGreatDoor
set_option maxRecDepth 4000
set_option linter.unusedSimpArgs false
set_option linter.unusedVariables false
open Go.RowKit
def legE (B : LBk) (D : LTb) (bk : Int) (l : LLeg) : Int := if l.ac < 1000 then ledE D l.ac l.cu else cusE B D l.ac l.cu bk
/-- The first refusal among n legs. -/
def legsE (B : LBk) (D : LTb) (bk : Int) (l : Nat → LLeg) : Nat → Int
 | 0 => 0
 | n + 1 => if legsE B D bk l n = 0 then legE B D bk (l n) else legsE B D bk l n
theorem legsE_stop {B : LBk} {D : LTb} {bk : Int} {l : Nat → LLeg} {k : Nat} (h : legsE B D bk l k ≠ 0) : ∀ {n : Nat}, k ≤ n → legsE B D bk l n = legsE B D bk l k
 | 0, hk => by
  obtain rfl : k = 0 := by omega
  rfl
 | n + 1, hk => by
  rcases Nat.eq_or_lt_of_le hk with e | hlt
  ·rw [e]
  ·have ih := legsE_stop h (n := n) (by omega)
   show (if legsE B D bk l n = 0 then legE B D bk (l n) else legsE B D bk l n) = _
   rw [ih, if_neg h]
def LgI (B : LBk) (D : LTb) (bk : Int) (l : Nat → LLeg) (n : Nat) (W : World) (v : Value) (wr : World) : Prop := ∃ k : Nat, k ≤ n ∧ v = .int .i64 k ∧ legsE B D bk l k = 0 ∧ Below W.heap.size W wr
set_option maxRecDepth 8000 in
set_option maxHeartbeats 4000000 in
theorem legs_any (B : LBk) (hB : BkOK B) (D : LTb) (hD : TbOK B D) (e : LEnt) (hn : e.ln ≤ 1000000) (w : World) (hw : BkIn w B) (hd : TbIn w D) (hl : RowLeg w e.lA e.ln e.legs) :
  Calls Tryz.prog 29 #[.agg B.C, entA e] w fun r w' => r = .returned (.int .i64 (legsE B D e.bk e.legs e.ln)) ∧ Below w.heap.size w w' := by
 obtain ⟨id, bk, va, ki, au, pe, key, tx, lA, ln, lc, ch, l⟩ := e
 have HB := hide hB
 have HD := hide hD
 have HW := hide hw
 have HT := hide hd
 have HL := hide hl
 have HS := hide (bk_size hB)
 clear hB hD hw hd hl
 dsimp only at hn HL ⊢
 go_enter Tryz.func29, Tryz.ntmps29
 go_wp2_with fail
 go_loopw [11] (fun v wr => LgI B D bk l ln ((w.alloc (.cells B.C 33)).alloc (.cells #[.int .i64 id, .int .i64 bk, .int .i64 va, .int .i64 ki, .int .i64 au, .int .i64 pe, .string key, .string tx, .slice lA ln lc, .int .u64 ch] 53)) v wr) (fun v _ => ln - (intOf v).toNat)
 case atStart => exact ⟨0, by omega, rfl, rfl, Below.refl _ _⟩
 case round =>
  obtain ⟨k, hkn, rfl, hno, hb⟩ := hrel
  have HNO := hide hno
  have H0 := hide hb
  have HC1 := hide (blk_below hb (by first | omega | (simp <;> omega)) (two_boxes w (.cells B.C 33) _))
  clear hno
  have q1B : Below w.heap.size w wr := qB hb
  have q1z := hb.size
  try simp at q1z
  have q1t : w.heap.size ≤ wr.heap.size := (by omega)
  obtain ⟨q1s0, q1n0_0, q1n0_1, q1n0_2⟩ := kB wr.heap.size (w.heap.size + 1)
  have q1c0_1 := cel hb (w.heap.size + 1) 1
  simp [go_sem, *] at q1c0_1
  have q1c0_8 := cel hb (w.heap.size + 1) 8
  simp [go_sem, *] at q1c0_8
  have q1f0 := fun o => fro hb (w.heap.size + 1) o
  simp [go_sem, *] at q1f0
  have q1o := belO q1B
  clear hb
  have BL := hide q1B
  by_cases hlt : k < ln
  ·have hm : (k : Int) < ln := by omega
   have hk0 : (0 : Int) ≤ k := by omega
   have HLT := hide hlt
   obtain ⟨b, off, rfl, hbl, c0, c1, c2⟩ := (HL.out.below q1B).at hlt
   obtain ⟨x, hx⟩ : ∃ x, x = l k := ⟨_, rfl⟩
   rw [← hx] at c0 c1 c2
   have HX := hide hx
   clear hlt hkn hx
   have HE := hide (show legsE B D bk l (k + 1) = legE B D bk x from by show (if legsE B D bk l k = 0 then legE B D bk (l k) else legsE B D bk l k) = _; rw [if_pos HNO.out, HX.out])
   by_cases h1 : x.ac < 1000
   ·obtain ⟨y, hy⟩ : ∃ y, y = ledE D x.ac x.cu := ⟨_, rfl⟩
    have HC := hide (fun W h => by have t := ledger_any B HB.out D HD.out x.ac x.am x.cu W h; rw [← hy] at t; exact t)
    have HE2 := hide (show legsE B D bk l (k + 1) = y from by rw [HE.out, hy]; exact if_pos h1)
    clear hy
    go_wp2_with (with_reducible refine wpList_load_row rfl 33 (.tmp 2) rfl w.heap.size rfl 33 B.C (0, 0) _ (blk_under HC1.out) Tryz.underlying33 rfl HS.out ?_)
    refine (HC.out _ (HT.out.below (BL.out.trans belT))).mono ?_
    rintro r w2 ⟨rfl, hb⟩
    have B2 := hide (H0.out.trans ((show Below wr.heap.size wr _ from by (repeat (first | (with_reducible first | exact Below.refl _ _ | assumption | refine Below.drew ?_) | ((with_reducible first | refine Below.alloc ?_ ?_ _ | refine Below.setCell ?_ ?_ _); rotate_left; (first | omega | (simp <;> omega)))))).trans (hb.mono (by first | omega | (simp <;> omega)))|>.mono H0.out.size))
    clear hb
    by_cases hy : y = 0
    ·have d : (y == 0) = true := by simp [hy]
     have HN := hide (HE2.out.trans hy)
     clear hy
     go_wp2_with fail
     go_roundw
     case rel => exact ⟨k + 1, HLT.out, by go_num, HN.out, B2.out⟩
     case measure => have := HLT.out; simp [intOf]; omega
    ·have d : (y == 0) = false := by simpa using hy
     have HN := hide (show legsE B D bk l ln = y from by rw [legsE_stop (by rw [HE2.out]; exact hy) HLT.out, HE2.out])
     clear hy
     go_wp2_with fail
     go_ret
     exact ⟨by rw [HN.out]; rfl, (show Below w.heap.size w _ from by (repeat (first | (with_reducible first | exact Below.refl _ _ | assumption | refine Below.drew ?_) | ((with_reducible first | refine Below.alloc ?_ ?_ _ | refine Below.setCell ?_ ?_ _); rotate_left; (first | omega | (simp <;> omega)))))).trans (B2.out.mono (by simp; omega))⟩
   ·obtain ⟨y, hy⟩ : ∃ y, y = cusE B D x.ac x.cu bk := ⟨_, rfl⟩
    have HC := hide (fun W h1 h2 => by have t := customer_any B HB.out D HD.out x.ac x.am x.cu bk W h1 h2; rw [← hy] at t; exact t)
    have HE2 := hide (show legsE B D bk l (k + 1) = y from by rw [HE.out, hy]; exact if_neg h1)
    clear hy
    go_wp2_with (with_reducible refine wpList_load_row rfl 33 (.tmp 2) rfl w.heap.size rfl 33 B.C (0, 0) _ (blk_under HC1.out) Tryz.underlying33 rfl HS.out ?_)
    refine (HC.out _ (HW.out.below (BL.out.trans belT)) (HT.out.below (BL.out.trans belT))).mono ?_
    rintro r w2 ⟨rfl, hb⟩
    have B2 := hide (H0.out.trans ((show Below wr.heap.size wr _ from by (repeat (first | (with_reducible first | exact Below.refl _ _ | assumption | refine Below.drew ?_) | ((with_reducible first | refine Below.alloc ?_ ?_ _ | refine Below.setCell ?_ ?_ _); rotate_left; (first | omega | (simp <;> omega)))))).trans (hb.mono (by first | omega | (simp <;> omega)))|>.mono H0.out.size))
    clear hb
    by_cases hy : y = 0
    ·have d : (y == 0) = true := by simp [hy]
     have HN := hide (HE2.out.trans hy)
     clear hy
     go_wp2_with fail
     go_roundw
     case rel => exact ⟨k + 1, HLT.out, by go_num, HN.out, B2.out⟩
     case measure => have := HLT.out; simp [intOf]; omega
    ·have d : (y == 0) = false := by simpa using hy
     have HN := hide (show legsE B D bk l ln = y from by rw [legsE_stop (by rw [HE2.out]; exact hy) HLT.out, HE2.out])
     clear hy
     go_wp2_with fail
     go_ret
     exact ⟨by rw [HN.out]; rfl, (show Below w.heap.size w _ from by (repeat (first | (with_reducible first | exact Below.refl _ _ | assumption | refine Below.drew ?_) | ((with_reducible first | refine Below.alloc ?_ ?_ _ | refine Below.setCell ?_ ?_ _); rotate_left; (first | omega | (simp <;> omega)))))).trans (B2.out.mono (by simp; omega))⟩
  ·obtain rfl : k = ln := by omega
   clear hlt hkn
   go_wp2_with fail
   go_ret
   exact ⟨by rw [HNO.out]; rfl, BL.out⟩
end Go.Proofs.YtpghciiifnjimaaGreatDoor
namespace Go.Proofs.YtpghciiifnjimaaGreatDoor
set_option maxRecDepth 4000
set_option linter.unusedSimpArgs false
set_option linter.unusedVariables false
open Go.RowKit
set_option maxRecDepth 8000 in
set_option maxHeartbeats 4000000 in
theorem lv_allowed (B : LBk) (hB : BkOK B) (h21 : B.C[21]? = some (.slice none 0 0)) (hh : hasA B.a 1000 B.an = true) (ha : actB B 1000 9678 = true) (b : Nat) (w : World) (hw : BkIn w B) (hl : w.heap[b]? = some (.cells lvLg 107 (0, 0))) :
  Calls Tryz.prog 30 #[.agg B.C, .agg (lvEn b)] w fun r w' => r = .returned (.int .i64 0) ∧ Below w.heap.size w w' := by
 have HW := hide hw
 have HL := hide hl
 have HS := hide (bk_size hB)
 have HF := hide (fun W hr => by have t := find_any B.C B.aA B.an B.ac B.jA B.jn B.jc hB.bks B.a 1000 hB.an W hr; rw [hh] at t; exact t)
 have HA := hide (fun W h => by have t := active_any B hB 1000 9678 W h; rw [ha] at t; exact t)
 clear hB hh ha hw hl
 go_enter Tryz.func30, Tryz.ntmps30
 go_wp2_with fail
 refine (lv_net b _ (blk_under (blk_under HL.out))).mono ?_
 rintro r w1 ⟨g, c, rfl, hc, hg, hb⟩
 have HC1 := hide (blk_below hb (by first | omega | (simp <;> omega)) (two_boxes w (.cells B.C 33) _))
 have HG := hide hc
 have q1B : Below w.heap.size w w1 := qB hb
 have q1z := hb.size
 try simp at q1z
 have q1t : w.heap.size ≤ w1.heap.size := (by omega)
 obtain ⟨q1s0, q1n0_0, q1n0_1, q1n0_2⟩ := kB w1.heap.size w.heap.size
 have q1c0_21 := cel hb w.heap.size 21
 simp [go_sem, *] at q1c0_21
 have q1f0 := fun o => fro hb w.heap.size o
 simp [go_sem, *] at q1f0
 obtain ⟨q1s1, q1n1_0, q1n1_1, q1n1_2⟩ := kB w1.heap.size (w.heap.size + 1)
 have q1c1_1 := cel hb (w.heap.size + 1) 1
 simp [go_sem, *] at q1c1_1
 have q1f1 := fun o => fro hb (w.heap.size + 1) o
 simp [go_sem, *] at q1f1
 have q1o := belO q1B
 clear hb
 have B1 := hide q1B
 have c0 := HG.out 0 _ rfl
 have c1 := HG.out 1 _ rfl
 have c2 := HG.out 2 _ rfl
 have c3 := HG.out 3 _ rfl
 have c4 := HG.out 4 _ rfl
 have c5 := HG.out 5 _ rfl
 clear hc h21
 go_wp2_with fail
 refine wp_loopN 3 ?_
 unfold LoopN
 go_wp2_with fail
 unfold LoopN
 go_wp2_with (with_reducible refine wpList_load_row rfl 33 (.tmp 2) rfl w.heap.size rfl 33 B.C (0, 0) _ (blk_under (blk_under HC1.out)) Tryz.underlying33 rfl HS.out ?_)
 refine (HF.out _ (HW.out.acc.below (B1.out.trans belT))).mono ?_
 rintro r w2 ⟨rfl, hb⟩
 have HC2 := hide (blk_below hb (by first | omega | (simp <;> omega)) (blk_under (blk_under HC1.out)))
 have q2B : Below w1.heap.size w1 w2 := qB hb
 have q2z := hb.size
 try simp at q2z
 have q2t : w1.heap.size ≤ w2.heap.size := (by omega)
 obtain ⟨q2s0, q2n0_0, q2n0_1, q2n0_2⟩ := kB w2.heap.size w.heap.size
 have q2c0_21 := cel hb w.heap.size 21
 simp [go_sem, *] at q2c0_21
 have q2f0 := fun o => fro hb w.heap.size o
 simp [go_sem, *] at q2f0
 obtain ⟨q2s1, q2n1_0, q2n1_1, q2n1_2⟩ := kB w2.heap.size (w.heap.size + 1)
 have q2c1_1 := cel hb (w.heap.size + 1) 1
 simp [go_sem, *] at q2c1_1
 have q2f1 := fun o => fro hb (w.heap.size + 1) o
 simp [go_sem, *] at q2f1
 obtain ⟨q2s2, q2n2_0, q2n2_1, q2n2_2⟩ := kB w2.heap.size (w1.heap.size + 1)
 obtain ⟨q2c2_0, q2c2_1, q2c2_2, q2f2⟩ := kC3 hb (w1.heap.size + 1)
 simp [go_sem, *] at q2c2_0 q2c2_1 q2c2_2 q2f2
 have q2o := belO q2B
 clear hb q1o q1f1 q1c1_1 q1s1 q1f0 q1c0_21 q1s0 q1z q1B
 have B2 := hide (B1.out.trans (q2B.mono (by omega)))
 go_wp2_with (with_reducible refine wpList_load_row rfl 33 (.tmp 2) rfl w.heap.size rfl 33 B.C (0, 0) _ (blk_under HC2.out) Tryz.underlying33 rfl HS.out ?_)
 refine (HA.out _ (HW.out.below (B2.out.trans belT))).mono ?_
 rintro r w3 ⟨rfl, hb⟩
 have q3B : Below w2.heap.size w2 w3 := qB hb
 have q3z := hb.size
 try simp at q3z
 have q3t : w2.heap.size ≤ w3.heap.size := (by omega)
 obtain ⟨q3s0, q3n0_0, q3n0_1, q3n0_2⟩ := kB w3.heap.size w.heap.size
 have q3c0_21 := cel hb w.heap.size 21
 simp [go_sem, *] at q3c0_21
 have q3f0 := fun o => fro hb w.heap.size o
 simp [go_sem, *] at q3f0
 obtain ⟨q3s1, q3n1_0, q3n1_1, q3n1_2⟩ := kB w3.heap.size (w.heap.size + 1)
 have q3c1_1 := cel hb (w.heap.size + 1) 1
 simp [go_sem, *] at q3c1_1
 have q3f1 := fun o => fro hb (w.heap.size + 1) o
 simp [go_sem, *] at q3f1
 obtain ⟨q3s2, q3n2_0, q3n2_1, q3n2_2⟩ := kB w3.heap.size (w1.heap.size + 1)
 obtain ⟨q3c2_0, q3c2_1, q3c2_2, q3f2⟩ := kC3 hb (w1.heap.size + 1)
 simp [go_sem, *] at q3c2_0 q3c2_1 q3c2_2 q3f2
 have q3o := belO q3B
 clear hb q2o q2f2 q2c2_2 q2c2_1 q2c2_0 q2s2 q2f1 q2c1_1 q2s1 q2f0 q2c0_21 q2s0 q2z q2B
 have B3 := hide (B2.out.trans (q3B.mono (by omega)))
 go_wp2_with fail
 refine (lv_denies _ _ _ _).mono ?_
 rintro r w4 ⟨rfl, hb⟩
 have q4B : Below w3.heap.size w3 w4 := qB hb
 have q4z := hb.size
 try simp at q4z
 have q4t : w3.heap.size ≤ w4.heap.size := (by omega)
 obtain ⟨q4s0, q4n0_0, q4n0_1, q4n0_2⟩ := kB w4.heap.size (w1.heap.size + 1)
 obtain ⟨q4c0_0, q4c0_1, q4c0_2, q4f0⟩ := kC3 hb (w1.heap.size + 1)
 simp [go_sem, *] at q4c0_0 q4c0_1 q4c0_2 q4f0
 have q4o := belO q4B
 clear hb q3o q3f2 q3c2_2 q3c2_1 q3c2_0 q3s2 q3f1 q3c1_1 q3s1 q3f0 q3c0_21 q3s0 q3z q3B
 have B4 := hide (B3.out.trans (q4B.mono (by omega)))
 go_wp2_with fail
 unfold LoopN
 go_wp2_with fail
 go_ret
 exact ⟨rfl, B4.out⟩
end Go.Proofs.YtpghciiifnjimaaGreatDoor
namespace Go.Proofs.YtpghciiifnjimaaGreatDoor
set_option maxRecDepth 4000
set_option linter.unusedSimpArgs false
set_option linter.unusedVariables false
open Go.RowKit
def hasJ (E : Nat → LEnt) (s : ByteArray) : Nat → Bool
 | 0 => false
 | n + 1 => hasJ E s n || (E n).key.toList == s.toList
theorem hasJ_mono {E : Nat → LEnt} {s : ByteArray} : ∀ {n k : Nat}, k < n → ((E k).key.toList == s.toList) = true → hasJ E s n = true
 | n + 1, k, h, he => by
  unfold hasJ
  rcases Nat.lt_succ_iff_lt_or_eq.1 h with h | rfl
  ·rw [hasJ_mono h he]; rfl
  ·rw [he]; simp
theorem jfind1_any (e : LEnt) (s : ByteArray) (b : Nat) (w : World) (hb : b < w.heap.size) (h0 : w.cell? ⟨b, 0, none⟩ = some (.string s)) :
  Calls Tryz.prog 70 #[entA e, .pointer (some ⟨b, 0, none⟩)] w fun r w' => r = .returned (.bool (e.key.toList == s.toList)) ∧ Below w.heap.size w w' := by
 obtain ⟨id, bk, va, ki, au, pe, key, tx, lA, ln, lc, ch, l⟩ := e
 have hn : ¬ w.heap.size = b := by omega
 go_enter Tryz.func70, Tryz.ntmps70
 go_wp2_with fail
 go_ret
 exact ⟨rfl, by (repeat (first | (with_reducible first | exact Below.refl _ _ | assumption | refine Below.drew ?_) | ((with_reducible first | refine Below.alloc ?_ ?_ _ | refine Below.setCell ?_ ?_ _); rotate_left; (first | omega | (simp <;> omega)))))⟩
def IxJ (E : Nat → LEnt) (s : ByteArray) (n : Nat) (i : Int) : Prop := (hasJ E s n = false ∧ i = -1) ∨ (hasJ E s n = true ∧ ∃ k : Nat, k < n ∧ i = k)
set_option maxHeartbeats 4000000 in
theorem ixJ_any (A : Option Addr) (n cap : Nat) (E : Nat → LEnt) (s : ByteArray) (p : Nat) (hn : n ≤ 1000000) (w : World) (hr : Jrn w A n E) (hp : p < w.heap.size) (h0 : w.cell? ⟨p, 0, none⟩ = some (.string s)) :
  Calls Tryz.prog 69 #[.slice A n cap, .func (.func 70) #[] #[.pointer (some ⟨p, 0, none⟩)]] w fun e w' => (∃ i, e = .returned (.int .i64 i) ∧ IxJ E s n i) ∧ Below w.heap.size w w' := by
 have HR := hide hr
 have HP := hide h0
 clear hr h0
 go_enter Tryz.func69, Tryz.ntmps69
 go_wp2_with fail
 go_loopw [8] (fun v wr => NoI (hasJ E s) n w v wr) (fun v _ => n - (intOf v).toNat)
 case atStart => exact ⟨0, by omega, rfl, rfl, by (repeat (first | (with_reducible first | exact Below.refl _ _ | assumption | refine Below.drew ?_) | ((with_reducible first | refine Below.alloc ?_ ?_ _ | refine Below.setCell ?_ ?_ _); rotate_left; (first | omega | (simp <;> omega)))))⟩
 case round =>
  obtain ⟨k, hkn, rfl, hno, hb⟩ := hrel
  have HNO := hide hno
  have H0 := hide hb
  have hz := hb.size
  clear hno
  by_cases hlt : k < n
  ·have hm : (k : Int) < n := by omega
   have hk0 : (0 : Int) ≤ k := by omega
   have HLT := hide hlt
   obtain ⟨b, off, rfl, hbl, c0, c1, c2, c3, c4, c5, c6, c7, c8, c9⟩ := (HR.out.below hb).row.at hlt
   obtain ⟨x, hx⟩ : ∃ x, x = E k := ⟨_, rfl⟩
   rw [← hx] at c0 c1 c2 c3 c4 c5 c6 c7 c8 c9
   have HX := hide hx
   clear hlt hkn hx
   go_wp2_with fail
   refine (jfind1_any x s p _ (by omega) ((hb.cell (p := ⟨p, 0, none⟩) hp).trans HP.out)).mono ?_
   rintro r w1 ⟨rfl, hb1⟩
   have B1 := hide (H0.out.trans (hb1.mono hz))
   clear hb1 hb
   cases he : (x.key.toList == s.toList) with
   | true =>
    have HE := hide (show IxJ E s n k from .inr ⟨hasJ_mono HLT.out (by rw [← HX.out]; exact he), k, HLT.out, rfl⟩)
    go_wp2_with fail
    go_ret
    exact ⟨⟨_, rfl, HE.out⟩, B1.out⟩
   | false =>
    have HE := hide (show hasJ E s (k + 1) = false from by unfold hasJ; rw [HNO.out, ← HX.out, he]; rfl)
    go_wp2_with fail
    go_roundw
    case rel => exact ⟨k + 1, HLT.out, by go_num, HE.out, B1.out⟩
    case measure => have := HLT.out; simp [intOf]; omega
  ·obtain rfl : k = n := by omega
   clear hlt hkn
   go_wp2_with fail
   go_ret
   exact ⟨⟨_, rfl, .inl ⟨HNO.out, rfl⟩⟩, H0.out⟩
set_option maxRecDepth 8000 in
set_option maxHeartbeats 4000000 in
theorem jfind_any (A : Option Addr) (n cap : Nat) (E : Nat → LEnt) (s : ByteArray) (hn : n ≤ 1000000) (w : World) (hr : Jrn w A n E) :
  Calls Tryz.prog 28 #[.slice A n cap, .string s] w fun r w' => (∃ e, r = .returned (.tuple #[entA e, .bool (hasJ E s n)])) ∧ Below w.heap.size w w' := by
 have HR := hide hr
 have hmf : ∀ (fn : Fn) (first cap : Array Value) (w : World), (Instr.makeFunc fn first cap).run Tryz.prog w = .ok (.func fn first cap) w := fun _ _ _ _ => rfl
 clear hr
 go_enter Tryz.func28, Tryz.ntmps28
 go_wp2_with fail
 refine (ixJ_any A n cap E s w.heap.size hn _ (HR.out.below belT) (by simp; omega) (by simp [go_sem])).mono ?_
 rintro r w1 ⟨⟨i, rfl, hi⟩, hb⟩
 have q1B : Below w.heap.size w w1 := qB hb
 have q1z := hb.size
 try simp at q1z
 have q1t : w.heap.size ≤ w1.heap.size := (by omega)
 obtain ⟨q1s0, q1n0_0, q1n0_1, q1n0_2⟩ := kB w1.heap.size (w.heap.size + 1)
 obtain ⟨q1c0_0, q1c0_1, q1c0_2, q1c0_3, q1c0_4, q1c0_5, q1c0_6, q1c0_7, q1c0_8, q1c0_9, q1f0⟩ := kC10 hb (w.heap.size + 1)
 simp [go_sem, *] at q1c0_0 q1c0_1 q1c0_2 q1c0_3 q1c0_4 q1c0_5 q1c0_6 q1c0_7 q1c0_8 q1c0_9 q1f0
 have q1o := belO q1B
 clear hb
 have B1 := hide q1B
 rcases hi with ⟨h1, rfl⟩ | ⟨h1, k, hk, rfl⟩
 ·have HB := hide h1
  clear h1
  go_wp2_with fail
  refine bodyPost_ret (by simp [results, Tryz.results28, go_sem, *] <;> rfl) rfl ?_
  exact ⟨⟨⟨0, 0, 0, 0, 0, 0, ⟨#[]⟩, ⟨#[]⟩, none, 0, 0, 0, fun _ => ⟨0, 0, ⟨#[]⟩⟩⟩, by rw [HB.out]⟩, B1.out.trans belT⟩
 ·have HB := hide h1
  have hm : (k : Int) < n := by omega
  have hk0 : (0 : Int) ≤ k := by omega
  have hk1 : ¬ (k : Int) < 0 := by omega
  obtain ⟨b, off, rfl, hbl, c0, c1, c2, c3, c4, c5, c6, c7, c8, c9⟩ := (HR.out.below B1.out).row.at hk
  obtain ⟨x, hx⟩ : ∃ x, x = E k := ⟨_, rfl⟩
  rw [← hx] at c0 c1 c2 c3 c4 c5 c6 c7 c8 c9
  have nb : ¬ b = w.heap.size + 1 := by
   intro e
   have h := HR.out.row.at hk
   obtain ⟨b', _, e', hb', _⟩ := h
   cases e'
   omega
  clear h1 hk hx
  go_wp2_with fail
  refine bodyPost_ret (by simp [results, Tryz.results28, go_sem, *] <;> rfl) rfl ?_
  exact ⟨⟨x, by rw [HB.out]⟩, B1.out.trans belT⟩
end Go.Proofs.YtpghciiifnjimaaGreatDoor
namespace Go.Proofs.YtpghciiifnjimaaGreatDoor
set_option maxRecDepth 4000
set_option linter.unusedSimpArgs false
set_option linter.unusedVariables false
open Go.RowKit
section
variable {P : Program}
theorem run_copy_rowS (w : World) (dT sT ty elem : TypeId) (sz g o dLen dCap : Nat) (a : Addr) (sLen sCap : Nat) (cur : Array Value) (t : TypeId) (cs : List Value)
  (hu : P.underlying dT = some (.slice elem)) (hs : (P.info? elem).map (·.size) = some sz)
  (hg : w.heap[g]? = some (.cells cur t (0, 0))) (hn : cs.length = Nat.min sLen dLen * sz)
  (hsrc : ∀ j v, cs[j]? = some v → w.cell? (a.add j) = some v) (hfit : o + cs.length ≤ cur.size) (h1 : ∀ v ∈ cs, v.oneCell' = true) :
  (Builtin.copy_ #[dT, sT] ty #[.slice (some ⟨g, o, none⟩) dLen dCap, .slice (some a) sLen sCap]).run P w =
   .ok (goInt (Nat.min sLen dLen)) (w.setRow g (cur.toList.take o ++ cs ++ cur.toList.drop (o + cs.length)).toArray) := by
 have hl := run_loadCells_list (P := P) w a cs hsrc
 have hst := run_storeCells_at P g o t cs 0 cur w hg (by simpa using hfit) h1
 cases hq : P.info? elem with
 | none => simp [hq] at hs
 | some i =>
  have hi : i.size = sz := by simpa [hq] using hs
  simp [Builtin.copy_, run_underlying hu, Builtin.lenOf, Builtin.firstCells, sizeOf, typeInfo, hq, hi, ← hn, hl, hst]
theorem run_copy_noneS (w : World) (dT sT ty elem : TypeId) (sz : Nat) (d a : Option Addr) (dLen dCap sLen sCap : Nat) (hu : P.underlying dT = some (.slice elem)) (hs : (P.info? elem).map (·.size) = some sz) (hn : Nat.min sLen dLen = 0) :
  (Builtin.copy_ #[dT, sT] ty #[.slice d dLen dCap, .slice a sLen sCap]).run P w = .ok (goInt 0) w := by
 cases hq : P.info? elem with
 | none => simp [hq] at hs
 | some i =>
  have hl : ∀ (x : Addr), (loadCells x 0).run P w = .ok #[] w := fun x => by simpa using run_loadCells_list (P := P) w x [] (by simp)
  cases d <;> cases a <;> simp [Builtin.copy_, run_underlying hu, Builtin.lenOf, Builtin.firstCells, sizeOf, typeInfo, hq, hn, storeCells, hl]
theorem toArr_take (cur : List Value) (o : Nat) (cs : List Value) : (cur.toArray.toList.take o ++ cs ++ cur.toArray.toList.drop (o + cs.length)).toArray = (splice cur o cs).toArray := by simp [splice]
/-- A copy of whole records into a block that the call made. -/
theorem run_copyS (w : World) (dT sT ty elem : TypeId) (sz : Nat) (hu : P.underlying dT = some (.slice elem)) (hs : (P.info? elem).map (·.size) = some sz) (dp sp : Option Addr) (dLen dCap sLen sCap : Nat)
  (g off : Nat) (cur : List Value) (t : TypeId) (hg : w.heap[g]? = some (.cells cur.toArray t (0, 0))) (cs : List Value) (hn : cs.length = Nat.min sLen dLen * sz)
  (hpos : 0 < Nat.min sLen dLen → dp = some ⟨g, off, none⟩ ∧ ∃ ad, sp = some ad ∧ ∀ j v, cs[j]? = some v → w.cell? (ad.add j) = some v)
  (hfit : off + cs.length ≤ cur.length) (h1 : ∀ v ∈ cs, v.oneCell' = true) :
  ∃ w', (Builtin.copy_ #[dT, sT] ty #[.slice dp dLen dCap, .slice sp sLen sCap]).run P w = .ok (goInt (Nat.min sLen dLen)) w' ∧ w'.heap[g]? = some (.cells (splice cur off cs).toArray t (0, 0)) ∧ (∀ k, k ≠ g → w'.heap[k]? = w.heap[k]?) ∧ w'.heap.size = w.heap.size ∧ Below g w w' := by
 by_cases h0 : Nat.min sLen dLen = 0
 ·have hc : cs = [] := List.eq_nil_of_length_eq_zero (by rw [hn, h0]; simp)
  subst hc
  exact ⟨w, by rw [h0]; exact run_copy_noneS w dT sT ty elem sz dp sp dLen dCap sLen sCap hu hs h0, by simpa [splice] using hg, fun _ _ => rfl, rfl, Below.refl _ _⟩
 ·obtain ⟨rfl, ad, rfl, hsrc⟩ := hpos (by omega)
  have h := run_copy_rowS (P := P) w dT sT ty elem sz g off dLen dCap ad sLen sCap cur.toArray t cs hu hs hg hn hsrc (by simpa using hfit) h1
  rw [toArr_take] at h
  exact ⟨_, h, setRow_heap w g _ _ t _ hg, fun k hk => setRow_other w g k _ hk, by simp, below_setRow (Below.refl _ _) (Nat.le_refl _) _⟩
theorem wpList_copyS {w : World} {ops : Array Oper} {rest : List Oper} {o : Oper} {a : Act} {Q : Exit → Act → World → Prop} (hgd : o.guard = none) (d s : Operand) (dT sT : TypeId)
  (ho : o.op = .call { callee := .builtin .copy, args := #[d, s], argTypes := #[dT, sT] }) (elem : TypeId) (sz : Nat) (hu : P.underlying dT = some (.slice elem)) (hsz : (P.info? elem).map (·.size) = some sz)
  (dp sp : Option Addr) (dLen dCap sLen sCap : Nat) (hd : a.eval d = .slice dp dLen dCap) (hs : a.eval s = .slice sp sLen sCap)
  (g off : Nat) (cur : List Value) (t : TypeId) (hg : w.heap[g]? = some (.cells cur.toArray t (0, 0))) (cs : List Value) (hn : cs.length = Nat.min sLen dLen * sz)
  (hpos : 0 < Nat.min sLen dLen → dp = some ⟨g, off, none⟩ ∧ ∃ ad, sp = some ad ∧ ∀ j v, cs[j]? = some v → w.cell? (ad.add j) = some v)
  (hfit : off + cs.length ≤ cur.length) (h1 : ∀ v ∈ cs, v.oneCell' = true)
  (h : ∀ w', w'.heap[g]? = some (.cells (splice cur off cs).toArray t (0, 0)) → (∀ k, k ≠ g → w'.heap[k]? = w.heap[k]?) → w'.heap.size = w.heap.size → Below g w w' → wpList P ops Q rest (a.put o.dst (goInt (Nat.min sLen dLen))) w') :
  wpList P ops Q (o :: rest) a w := by
 refine wpList_plain hgd fun K hK => ?_
 obtain ⟨w', hr, h2, h3, h4, h5⟩ := run_copyS (P := P) w dT sT o.type elem sz hu hsz dp sp dLen dCap sLen sCap g off cur t hg cs hn hpos hfit h1
 unfold Oper.wp execOp
 simp only [ho, resolve, invoke, builtin, Sem.run_bind, Sem.run_pure, Result.andThen_ok, List.map_toArray, List.map_cons, List.map_nil, hd, hs, hr]
 exact hK _ _ (h w' h2 h3 h4 h5)
end
end Go.Proofs.YtpghciiifnjimaaGreatDoor
namespace Go.Proofs.YtpghciiifnjimaaGreatDoor
set_option maxRecDepth 4000
set_option linter.unusedSimpArgs false
set_option linter.unusedVariables false
open Go.RowKit
/-- Some number of 64 bits. -/
def EgI (W : World) (v0 v6 : Value) (wr : World) : Prop := ∃ (k : Nat) (z : Int), k ≤ 8 ∧ v6 = .int .i64 k ∧ v0 = .int .u64 z ∧ 0 ≤ z ∧ z < 18446744073709551616 ∧ Below W.heap.size W wr
set_option maxHeartbeats 4000000 in
theorem eight_any (h n : Int) (h0 : 0 ≤ h) (h1 : h < 18446744073709551616) (n0 : 0 ≤ n) (n1 : n < 18446744073709551616) (w : World) : Calls Tryz.prog 191 #[.int .u64 h, .int .u64 n] w (SomU w) := by
 have HH := hide (And.intro h0 h1)
 clear h0 h1
 go_enter Tryz.func191, Tryz.ntmps191
 go_wp2_with fail
 go_loopw [0, 6] (fun v0 v6 wr => EgI w v0 v6 wr) (fun _ v _ => 8 - (intOf v).toNat)
 case atStart => exact ⟨0, h, by omega, rfl, rfl, HH.out.1, HH.out.2, by (repeat (first | (with_reducible first | exact Below.refl _ _ | assumption | refine Below.drew ?_) | ((with_reducible first | refine Below.alloc ?_ ?_ _ | refine Below.setCell ?_ ?_ _); rotate_left; (first | omega | (simp <;> omega)))))⟩
 case round =>
  obtain ⟨k, z, hk, rfl, rfl, z0, z1, hb⟩ := hrel
  have H0 := hide hb
  clear hb
  by_cases hlt : k < 8
  ·have hm : (k : Int) < 8 := by omega
   have hk0 : (0 : Int) ≤ k := by omega
   have hk8 : (0 : Int) ≤ 8 * k := by omega
   have hw : IntKind.i64.wrap (8 * (k : Int)) = 8 * k := by rw [i64w]; unfold wrap64; omega
   have HLT := hide hlt
   clear hlt hk
   go_wp2_with fail
   go_roundw
   case rel => exact ⟨k + 1, _, HLT.out, by go_num, rfl, by rw [IntKind.wrap_u64]; omega, by rw [IntKind.wrap_u64]; omega, H0.out⟩
   case measure => have := HLT.out; simp [intOf]; omega
  ·obtain rfl : k = 8 := by omega
   clear hlt hk
   go_wp2_with fail
   go_ret
   exact ⟨⟨_, rfl, z0, z1⟩, H0.out⟩
theorem chain_any (p : Int) (h0 : 0 ≤ p) (h1 : p < 18446744073709551616) (s : ByteArray) (hl : s.size ≤ 140737488355328) (w : World) : Calls Tryz.prog 138 #[.int .u64 p, .string s] w (SomU w) := by
 go_enter Tryz.func138, Tryz.ntmps138
 go_wp2_with fail
 refine (eight_any 14695981039346656037 p (by decide) (by decide) h0 h1 _).mono ?_
 rintro r w1 ⟨⟨z, rfl, g0, g1⟩, hb⟩
 have B1 := hide hb
 have HG := hide (And.intro g0 g1)
 clear hb g0 g1 h0 h1
 go_wp2_with fail
 refine (dext_any z s hl _).mono ?_
 rintro r w2 ⟨rfl, hb⟩
 obtain ⟨y, hy⟩ : ∃ y, y = hext z s.data.toList := ⟨_, rfl⟩
 have HY := hide (by rw [hy]; exact hext_in _ HG.out.1 HG.out.2 _ : 0 ≤ y ∧ y < 18446744073709551616)
 have B2 := hide (B1.out.trans (hb.mono B1.out.size))
 rw [← hy]
 clear hy hb
 go_wp2_with fail
 go_ret
 exact ⟨⟨_, rfl, HY.out⟩, B2.out⟩
theorem winti_any (n : Int) (h1 : -9223372036854775808 ≤ n) (h2 : n ≤ 9223372036854775807) (w : World) (ht : Tab w) : Calls Tryz.prog 193 #[.int .i64 n] w (TxO 21 w) := by
 have HT := hide ht
 have HL := hide (Lib.itoa_length_le n h1 h2)
 obtain ⟨s, hs⟩ : ∃ s : ByteArray, s = ⟨(Lib.itoa n).toArray⟩ := ⟨_, rfl⟩
 have HS := hide (show s.size ≤ 21 from by rw [hs]; show (Lib.itoa n).toArray.size ≤ 21; simpa using HL.out)
 have HI := hide (fun W h => by have t := itoa_any n h1 h2 W h; rw [← hs] at t; exact t)
 clear hs HL ht
 go_enter Tryz.func193, Tryz.ntmps193
 go_wp2_with fail
 refine (HI.out _ HT.out).mono ?_
 rintro r w1 ⟨rfl, hb⟩
 go_wp2_with fail
 go_ret
 exact ⟨s, HS.out, rfl, hb⟩
/-- The packing of texts, so far. -/
def WpI (n L : Nat) (W : World) (v3 v8 : Value) (wr : World) : Prop := ∃ (k : Nat) (l : List UInt8), k ≤ n ∧ v8 = .int .i64 k ∧ wr.ownsRow W.heap.size 5 1 v3 l.length (Lib.byteCells l) ∧ l.length ≤ k * (L + 22) ∧ Below W.heap.size W wr
theorem byte_info : (Tryz.prog.info? 5).map (fun i => (i.zero, i.size, i.bytes)) = some (some (.int .u8 0), 1, 1) := by kernel_rfl
theorem len_str (l : List UInt8) (s : ByteArray) : (l ++ s.data.toList).length = l.length + s.size := by rw [List.length_append]; rfl
set_option maxRecDepth 8000 in
set_option maxHeartbeats 4000000 in
theorem wpk_any (A : Option Addr) (n cap L : Nat) (hn : n ≤ 20) (hL : L ≤ 100000) (w : World) (hA : TRow w A n L) (ht : Tab w) : Calls Tryz.prog 192 #[.slice A n cap] w (TxO (n * (L + 22)) w) := by
 have HA := hide hA
 have HT := hide (Lib.tabBelow_of_tabIs ht)
 obtain ⟨i0, hi, hz0, hz1, hz2⟩ := info_parts byte_info
 have I0 := hide hi
 have I1 := hide hz0
 have I2 := hide hz1
 have I3 := hide hz2
 clear hA ht hi hz0 hz1 hz2
 go_enter Tryz.func192, Tryz.ntmps192
 go_wp2_with fail
 go_loopw [3, 8] (fun v3 v8 wr => WpI n L w v3 v8 wr) (fun _ v _ => n - (intOf v).toNat)
 case atStart => exact ⟨0, [], by omega, rfl, ⟨rfl, .inl ⟨rfl, rfl⟩⟩, by simp, Below.refl _ _⟩
 case round =>
  obtain ⟨k, l, hkn, rfl, ho, hl, hb⟩ := hrel
  have H0 := hide hb
  have HO := hide ho
  have HLL := hide hl
  have zb := hb.size
  by_cases hlt : k < n
  ·have hm : (k : Int) < n := by omega
   have hk0 : (0 : Int) ≤ k := by omega
   have HLT := hide hlt
   obtain ⟨b, off, s, rfl, hbl, hsL, hc⟩ := (HA.out.below hb).at hlt
   have htb : l.length ≤ 20 * 100022 := Nat.le_trans hl (Nat.mul_le_mul (by omega) (by omega))
   clear hlt hkn hb hl ho
   go_wp2_with (go_at_call 240; refine (Tryz.strconv_AppendInt_10 w.heap.size l.length s.size (by omega) (by omega) _ (Lib.byteCells l) _ HO.out zb (by omega) (HT.out.on H0.out)).mono ?_; rintro r w1 ⟨v1, rfl, ho1, hb1, _⟩; refine Hid.out ?_)
   refine Lib.hid ?_
   have HL1 := hide (Lib.itoa_length_le (s.size : Int) (by omega) (by omega))
   obtain ⟨m, hm'⟩ : ∃ m, m = Lib.itoa (s.size : Int) := ⟨_, rfl⟩
   have HO1 := hide (show w1.ownsRow w.heap.size 5 1 v1 (l ++ m).length (Lib.byteCells (l ++ m)) from by rw [hm', List.length_append]; have e : Lib.byteCells (l ++ Lib.itoa (s.size : Int)) = Lib.byteCells l ++ Lib.byteCells (Lib.itoa (s.size : Int)) := (by simp [Lib.byteCells]); rw [e]; exact ho1)
   have HM := hide (show m.length ≤ 21 from by rw [hm']; exact HL1.out)
   have H1 := hide (H0.out.trans hb1)
   have z1 := H1.out.size
   clear hm' ho1 hb1 HL1 HO
   go_wp2_with (first
    | (at_builtin; go_loud (refine wpList_append_own2 _ rfl (.tmp 16) (.tmp 17) 170 rfl w.heap.size 5 i0 (.int .u8 0) 1 1 Tryz.underlying170 I0.out I1.out I2.out I3.out rfl (by decide) _ _ _ rfl (HO1.out.alloc _) ⟨w1.heap.size, 0, none⟩ 1 1 [.int .u8 58] rfl rfl (news1 (by simp [go_sem])) (ones_all rfl) (by have := HM.out; simp only [maxLen, List.length_append]; omega) (by have := HM.out; simp only [List.length_append]; omega) (by simp; omega) ?_); intro A2 c2 w2 ho2 hg2 _; refine Hid.out ?_))
   refine Lib.hid ?_
   have HO2 := hide (show w2.ownsRow w.heap.size 5 1 (.slice A2 (l.length + m.length + 1) c2) (l ++ m ++ [58]).length (Lib.byteCells (l ++ m ++ [58])) from by
    have e : Lib.byteCells (l ++ m ++ [58]) = Lib.byteCells (l ++ m) ++ [.int .u8 58] := by simp [Lib.byteCells]
    have e2 : (l ++ m ++ [58]).length = (l ++ m).length + 1 := by simp; omega
    have e3 : l.length + m.length + 1 = (l ++ m).length + 1 := by simp
    rw [e, e2, e3]; exact ho2)
   have H2 := hide (H1.out.trans ((show Below w.heap.size w1 _ from by (repeat (first | (with_reducible first | exact Below.refl _ _ | assumption | refine Below.drew ?_) | ((with_reducible first | refine Below.alloc ?_ ?_ _ | refine Below.setCell ?_ ?_ _); rotate_left; (first | omega | (simp <;> omega)))))).trans (below_grown (B := w.heap.size) hg2 (by simp; omega) (own_ge HO1.out))))
   have z2 := H2.out.size
   clear ho2 hg2 HO1
   go_wp2_with (first
    | (at_builtin; go_loud (refine Lib.wpList_append_own_string _ rfl (.tmp 19) (.tmp 20) 170 9 rfl w.heap.size 5 i0 Tryz.underlying170 Tryz.underlying9 I0.out I1.out I2.out I3.out _ _ _ rfl HO2.out s rfl (by have := HM.out; simp only [maxLen, List.length_append, List.length_singleton]; omega) (by have := HM.out; simp only [List.length_append, List.length_singleton]; omega) (by omega) ?_); intro v3 w3 ho3 hg3 _; refine Hid.out ?_))
   refine Lib.hid ?_
   have HO3 := hide (show w3.ownsRow w.heap.size 5 1 v3 (l ++ m ++ [58] ++ s.data.toList).length (Lib.byteCells (l ++ m ++ [58] ++ s.data.toList)) from by
    have e : Lib.byteCells (l ++ m ++ [58] ++ s.data.toList) = Lib.byteCells (l ++ m ++ [58]) ++ Lib.strCells s := by simp [Lib.byteCells, Lib.strCells]
    have e2 : (l ++ m ++ [58] ++ s.data.toList).length = (l ++ m ++ [58]).length + s.size := len_str _ s
    rw [e, e2]; exact ho3)
   have H3 := hide (H2.out.trans (below_grown (B := w.heap.size) hg3 (by omega) (own_ge HO2.out)))
   have HL3 := hide (show (l ++ m ++ [58] ++ s.data.toList).length ≤ (k + 1) * (L + 22) from by
    have h2 : (k + 1) * (L + 22) = k * (L + 22) + (L + 22) := Nat.succ_mul k (L + 22)
    have h3 : (l ++ m ++ [58] ++ s.data.toList).length = l.length + m.length + 1 + s.size := by rw [len_str]; simp; omega
    have h4 := HLL.out
    have h5 := HM.out
    omega)
   clear ho3 hg3 HO2
   go_wp2_with fail
   go_roundw
   case rel => exact ⟨k + 1, _, HLT.out, by go_num, HO3.out, HL3.out, H3.out⟩
   case measure => have := HLT.out; simp [intOf]; omega
  ·obtain rfl : k = n := by omega
   clear hlt hkn
   rcases HO.out.2 with ⟨hv, h0⟩ | ⟨g, cap2, cur, hv, hbg, hhB, _⟩
   ·subst hv
    have hcv : (convert 170 9 (.slice none 0 0)).run Tryz.prog wr = .ok (.string ⟨#[]⟩) wr := by kernel_rfl
    go_wp2_with fail
    go_ret
    exact ⟨⟨#[]⟩, by show 0 ≤ _; omega, rfl, H0.out⟩
   ·subst hv
    have hcv := run_convert_bytes_back (P := Tryz.prog) wr 170 9 5 ⟨g, 0, none⟩ cap2 l Tryz.underlying170 Tryz.underlying5 Tryz.underlying9 (fun j hj => HO.out.cells (g := g) rfl j _ (by simp [Lib.byteCells, hj]))
    go_wp2_with fail
    go_ret
    exact ⟨⟨l.toArray⟩, by have := HLL.out; show l.toArray.size ≤ _; simpa using this, rfl, H0.out⟩
end Go.Proofs.YtpghciiifnjimaaGreatDoor
