/- Texts laid together: StA StB StC StD AcM AcN. -/
import Derived.Test.YtpghciiifnjimaaGreatDoorXRowM
import Derived.Test.YtpghciiifnjimaaGreatDoorXNum
import Derived.Test.YtpghciiifnjimaaGreatDoorXTrM
import Derived.Test.YtpghciiifnjimaaGreatDoorXDaM
import Derived.Test.YtpghciiifnjimaaGreatDoorProg
import Derived.KernelRfl
import Derived.WalkSpells
import Derived.WalkLawsBesides
import Derived.Sort.WalkA
import Derived.Laws.Rows
import Derived.Test.YtpghciiifnjimaaGreatDoorXK0
namespace Go.Proofs.YtpghciiifnjimaaGreatDoor
set_option maxRecDepth 4000
set_option linter.unusedSimpArgs false
set_option linter.unusedVariables false
open Go.RowKit
/-- The index of an account, or -1. -/
def idxA (a : Nat → LAcc) (id : Int) (n : Nat) : Int := match fndA a id n with | some k => k | none => -1
theorem idxA_yes {a : Nat → LAcc} {id : Int} {n k : Nat} (hk : k < n) (he : (a k).id = id) (hl : ∀ j, j < k → (a j).id ≠ id) : idxA a id n = k := by unfold idxA; rw [fndA_first hk he hl]
theorem idxA_no {a : Nat → LAcc} {id : Int} {n : Nat} (hl : ∀ j, j < n → (a j).id ≠ id) : idxA a id n = -1 := by unfold idxA; rw [fndA_no hl]
theorem ix1_any (i0 i1 i2 i3 : Int) (s4 s5 s6 : ByteArray) (id : Int) (bi : Nat) (w : World) (hb : bi < w.heap.size) (hc : w.cell? ⟨bi, 0, none⟩ = some (.int .i64 id)) :
  Calls Tryz.prog 110 #[.agg #[.int .i64 i0, .int .i64 i1, .int .i64 i2, .int .i64 i3, .string s4, .string s5, .string s6], .pointer (some ⟨bi, 0, none⟩)] w fun e w' => e = .returned (.bool (i0 == id)) ∧ Below w.heap.size w w' := by
 go_enter Tryz.func110, Tryz.ntmps110
 go_wp2_with fail
 go_ret
 exact ⟨rfl, by (repeat (first | (with_reducible first | exact Below.refl _ _ | assumption | refine Below.drew ?_) | ((with_reducible first | refine Below.alloc ?_ ?_ _ | refine Below.setCell ?_ ?_ _); rotate_left; (first | omega | (simp <;> omega)))))⟩
def IxInv (a : Nat → LAcc) (id : Int) (n : Nat) (w : World) (v : Value) (wr : World) : Prop := ∃ k : Nat, k ≤ n ∧ v = .int .i64 k ∧ (∀ j, j < k → (a j).id ≠ id) ∧ Below w.heap.size w wr
theorem ixf_any (A : Option Addr) (n c : Nat) (a : Nat → LAcc) (id : Int) (bi : Nat) (hn : n ≤ 1000000) (w : World) (hr : RowAcc w A n a) (hb : bi < w.heap.size) (hc : w.cell? ⟨bi, 0, none⟩ = some (.int .i64 id)) :
  Calls Tryz.prog 109 #[.slice A n c, .func (.func 110) #[] #[.pointer (some ⟨bi, 0, none⟩)]] w fun e w' => e = .returned (.int .i64 (idxA a id n)) ∧ Below w.heap.size w w' := by
 go_enter Tryz.func109, Tryz.ntmps109
 go_wp2_with fail
 go_loopw [8] (fun v wr => IxInv a id n w v wr) (fun v _ => n - (intOf v).toNat)
 case atStart => exact ⟨0, by omega, rfl, fun j hj => by omega, by (repeat (first | (with_reducible first | exact Below.refl _ _ | assumption | refine Below.drew ?_) | ((with_reducible first | refine Below.alloc ?_ ?_ _ | refine Below.setCell ?_ ?_ _); rotate_left; (first | omega | (simp <;> omega)))))⟩
 case round =>
  obtain ⟨k, hk, rfl, hl, hB⟩ := hrel
  by_cases hlt : k < n
  ·have hm : (k : Int) < n := by omega
   obtain ⟨b, off, rfl, hbl, c0, c1, c2, c3, c4, c5, c6⟩ := (hr.below hB).at hlt
   have HL := hide hl
   clear hl
   go_wp2_with fail
   refine (ix1_any _ _ _ _ _ _ _ id bi _ (by have := hB.size; omega) ((hB.cell (p := ⟨bi, 0, none⟩) hb).trans hc)).mono ?_
   rintro e w1 ⟨rfl, hb1⟩
   by_cases he : (a k).id = id
   ·have h1 : ((a k).id == id) = true := beq_iff_eq.2 he
    have HE := hide (idxA_yes hlt he HL.out)
    clear he
    go_wp2_with fail
    go_ret
    exact ⟨by rw [HE.out]; rfl, hB.trans (hb1.mono hB.size)⟩
   ·have h1 : ((a k).id == id) = false := beq_eq_false_iff_ne.2 he
    have HE := hide he
    clear he
    go_wp2_with fail
    go_roundw
    case rel => exact ⟨k + 1, by omega, by go_num, fun j hj => by rcases Nat.lt_succ_iff_lt_or_eq.1 hj with h | rfl; exact HL.out j h; exact HE.out, hB.trans (hb1.mono hB.size)⟩
    case measure => simp [intOf]; omega
  ·obtain rfl : k = n := by omega
   have HE := hide (idxA_no hl)
   clear hl
   go_wp2_with fail
   go_ret
   exact ⟨by rw [HE.out]; rfl, hB⟩
/-- Books as cells: the accounts and the journal. -/
structure Bks (C : Array Value) (aA : Option Addr) (an ac : Nat) (jA : Option Addr) (jn jc : Nat) : Prop where
 size : C.size = 22
 acc : C[18]? = some (.slice aA an ac)
 jou : C[19]? = some (.slice jA jn jc)
theorem index_any (C : Array Value) (aA : Option Addr) (an ac : Nat) (jA : Option Addr) (jn jc : Nat) (hC : Bks C aA an ac jA jn jc) (a : Nat → LAcc) (id : Int) (hn : an ≤ 1000000) (w : World) (hr : RowAcc w aA an a) :
  Calls Tryz.prog 53 #[.agg C, .int .i64 id] w fun e w' => e = .returned (.int .i64 (idxA a id an)) ∧ Below w.heap.size w w' := by
 have HR := hide hr
 have h18 := hC.acc
 clear hr
 go_enter Tryz.func53, Tryz.ntmps53
 go_wp2_with fail
 refine (ixf_any aA an ac a id (w.heap.size + 1) hn _ (HR.out.below belT) (by simp) (by simp [go_sem])).mono ?_
 rintro e w1 ⟨rfl, hb⟩
 go_wp2_with fail
 go_ret
 exact ⟨rfl, by refine Below.trans ?_ (hb.mono (by simp; omega)); (repeat (first | (with_reducible first | exact Below.refl _ _ | assumption | refine Below.drew ?_) | ((with_reducible first | refine Below.alloc ?_ ?_ _ | refine Below.setCell ?_ ?_ _); rotate_left; (first | omega | (simp <;> omega)))))⟩
def zAcc : LAcc := ⟨0, 0, 0, 0, ByteArray.empty, ByteArray.empty, ByteArray.empty⟩
/-- What Find answers. -/
def getA (a : Nat → LAcc) (id : Int) (n : Nat) : LAcc := match fndA a id n with | some k => a k | none => zAcc
def hasA (a : Nat → LAcc) (id : Int) (n : Nat) : Bool := (fndA a id n).isSome
theorem getA_yes {a : Nat → LAcc} {id : Int} {n k : Nat} (h : fndA a id n = some k) : getA a id n = a k ∧ hasA a id n = true ∧ idxA a id n = k := by unfold getA hasA idxA; rw [h]; exact ⟨rfl, rfl, rfl⟩
theorem getA_no {a : Nat → LAcc} {id : Int} {n : Nat} (h : fndA a id n = none) : getA a id n = zAcc ∧ hasA a id n = false ∧ idxA a id n = -1 := by unfold getA hasA idxA; rw [h]; exact ⟨rfl, rfl, rfl⟩
end Go.Proofs.YtpghciiifnjimaaGreatDoor
namespace Go.Proofs.YtpghciiifnjimaaGreatDoor
set_option maxRecDepth 4000
set_option linter.unusedSimpArgs false
set_option linter.unusedVariables false
open Go.RowKit
theorem two_boxes (w : World) (o o' : Obj) : ((w.alloc o).alloc o').heap[w.heap.size]? = some o := (Go.Deep.blk_alloc_lt _ _ _ (by simp)).trans (Go.Deep.blk_alloc_new _ _)
set_option maxHeartbeats 1000000 in
theorem find_any (C : Array Value) (aA : Option Addr) (an ac : Nat) (jA : Option Addr) (jn jc : Nat) (hC : Bks C aA an ac jA jn jc) (a : Nat → LAcc) (id : Int) (hn : an ≤ 1000000) (w : World) (hr : RowAcc w aA an a) :
  Calls Tryz.prog 21 #[.agg C, .int .i64 id] w fun e w' => e = .returned (.tuple #[.agg #[.int .i64 (getA a id an).id, .int .i64 (getA a id an).op, .int .i64 (getA a id an).cl, .int .i64 (getA a id an).ex, .string (getA a id an).ow, .string (getA a id an).pr, .string (getA a id an).nu], .bool (hasA a id an)]) ∧ Below w.heap.size w w' := by
 have HR := hide hr
 have h18 := hC.acc
 have hrow : (Tryz.prog.info? 33).map (·.size) = some C.size := by rw [hC.size]; kernel_rfl
 have HW := hide hrow
 clear hr hrow
 cases hf : fndA a id an with
 | none =>
  have HF := hide (getA_no hf)
  clear hf
  go_enter Tryz.func21, Tryz.ntmps21
  go_wp2_with (with_reducible refine wpList_load_row rfl 33 (.tmp 2) rfl w.heap.size rfl 33 C (0, 0) _ (two_boxes _ _ _) Tryz.underlying33 rfl HW.out ?_)
  refine (index_any C aA an ac jA jn jc hC a id hn _ (HR.out.below belT)).mono ?_
  rintro e w1 ⟨rfl, hb⟩
  rw [HF.out.2.2]
  have q1B : Below w.heap.size w w1 := qB hb
  have q1z := hb.size
  try simp at q1z
  have q1t : w.heap.size ≤ w1.heap.size := (by omega)
  obtain ⟨q1s0, q1n0_0, q1n0_1, q1n0_2⟩ := kB w1.heap.size w.heap.size
  have q1c0_18 := cel hb w.heap.size 18
  simp [go_sem, *] at q1c0_18
  have q1f0 := fun o => fro hb w.heap.size o
  simp [go_sem, *] at q1f0
  obtain ⟨q1s1, q1n1_0, q1n1_1, q1n1_2⟩ := kB w1.heap.size (w.heap.size + 1)
  obtain ⟨q1c1_0, q1c1_1, q1c1_2, q1c1_3, q1c1_4, q1c1_5, q1c1_6, q1f1⟩ := kC7 hb (w.heap.size + 1)
  simp [go_sem, *] at q1c1_0 q1c1_1 q1c1_2 q1c1_3 q1c1_4 q1c1_5 q1c1_6 q1f1
  have q1o := belO q1B
  clear hb
  go_wp2_with fail
  refine bodyPost_ret (by simp [results, Tryz.results21, go_sem, *] <;> rfl) rfl ⟨?_, ?_⟩
  ·rw [HF.out.1, HF.out.2.1]; rfl
  (repeat (first | (with_reducible first | exact Below.refl _ _ | assumption | refine Below.drew ?_) | ((with_reducible first | refine Below.alloc ?_ ?_ _ | refine Below.setCell ?_ ?_ _); rotate_left; (first | omega | (simp <;> omega)))))
 | some k =>
  have HF := hide (getA_yes hf)
  have hk := (fndA_some hf).1
  clear hf
  have hm : (k : Int) < an := by omega
  go_enter Tryz.func21, Tryz.ntmps21
  go_wp2_with (with_reducible refine wpList_load_row rfl 33 (.tmp 2) rfl w.heap.size rfl 33 C (0, 0) _ (two_boxes _ _ _) Tryz.underlying33 rfl HW.out ?_)
  refine (index_any C aA an ac jA jn jc hC a id hn _ (HR.out.below belT)).mono ?_
  rintro e w1 ⟨rfl, hb⟩
  rw [HF.out.2.2]
  have q1B : Below w.heap.size w w1 := qB hb
  have q1z := hb.size
  try simp at q1z
  have q1t : w.heap.size ≤ w1.heap.size := (by omega)
  obtain ⟨q1s0, q1n0_0, q1n0_1, q1n0_2⟩ := kB w1.heap.size w.heap.size
  have q1c0_18 := cel hb w.heap.size 18
  simp [go_sem, *] at q1c0_18
  have q1f0 := fun o => fro hb w.heap.size o
  simp [go_sem, *] at q1f0
  obtain ⟨q1s1, q1n1_0, q1n1_1, q1n1_2⟩ := kB w1.heap.size (w.heap.size + 1)
  obtain ⟨q1c1_0, q1c1_1, q1c1_2, q1c1_3, q1c1_4, q1c1_5, q1c1_6, q1f1⟩ := kC7 hb (w.heap.size + 1)
  simp [go_sem, *] at q1c1_0 q1c1_1 q1c1_2 q1c1_3 q1c1_4 q1c1_5 q1c1_6 q1f1
  have q1o := belO q1B
  clear hb
  obtain ⟨b, off, rfl, hbl, c0, c1, c2, c3, c4, c5, c6⟩ := (HR.out.below q1B).at hk
  have hk0 : (0 : Int) ≤ k := by omega
  clear hC HR h18 hk HW
  go_wp2_with fail
  refine bodyPost_ret (by simp [results, Tryz.results21, go_sem, *] <;> rfl) rfl ⟨?_, ?_⟩
  ·rw [HF.out.1, HF.out.2.1]
  (repeat (first | (with_reducible first | exact Below.refl _ _ | assumption | refine Below.drew ?_) | ((with_reducible first | refine Below.alloc ?_ ?_ _ | refine Below.setCell ?_ ?_ _); rotate_left; (first | omega | (simp <;> omega)))))
end Go.Proofs.YtpghciiifnjimaaGreatDoor
namespace Go.Proofs.YtpghciiifnjimaaGreatDoor
set_option maxRecDepth 4000
set_option linter.unusedSimpArgs false
set_option linter.unusedVariables false
open Go.RowKit
def RFdInv (a : Nat → LAcc) (id : Int) (n : Nat) (W : World) (v : Value) (wr : World) : Prop := ∃ k : Nat, k ≤ n ∧ v = .int .i64 k ∧ (∀ j, j < k → (a j).id ≠ id) ∧ Below W.heap.size W wr
set_option maxHeartbeats 1000000 in
theorem rfind_any (C : Array Value) (aA : Option Addr) (an ac : Nat) (jA : Option Addr) (jn jc : Nat) (hC : Bks C aA an ac jA jn jc) (a : Nat → LAcc) (id : Int) (hn : an ≤ 1000000) (w : World) (hr : RowAcc w aA an a) :
  Calls Tryz.prog 8 #[.agg C, .int .i64 id] w fun e w' => e = .returned (.tuple #[.agg #[.int .i64 (getA a id an).id, .int .i64 (getA a id an).op, .int .i64 (getA a id an).cl, .int .i64 (getA a id an).ex, .string (getA a id an).ow, .string (getA a id an).pr, .string (getA a id an).nu], .bool (hasA a id an)]) ∧ Below w.heap.size w w' := by
 have HR := hide hr
 have h18 := hC.acc
 clear hr hC
 go_enter Tryz.func8, Tryz.ntmps8
 go_wp2_with fail
 go_loopw [6] (fun v wr => RFdInv a id an ((w.alloc (.cells C 33)).alloc (.cells #[.int .i64 0, .int .i64 0, .int .i64 0, .int .i64 0, .string ⟨#[]⟩, .string ⟨#[]⟩, .string ⟨#[]⟩] 44)) v wr) (fun v _ => an - (intOf v).toNat)
 case atStart => exact ⟨0, by omega, rfl, fun j hj => by omega, Below.refl _ _⟩
 case round =>
  obtain ⟨k, hk, rfl, hl, hb⟩ := hrel
  have HL := hide hl
  clear hl
  have H0 := hide hb
  have q1B : Below w.heap.size w wr := qB hb
  have q1z := hb.size
  try simp at q1z
  have q1t : w.heap.size ≤ wr.heap.size := (by omega)
  obtain ⟨q1s0, q1n0_0, q1n0_1, q1n0_2⟩ := kB wr.heap.size w.heap.size
  have q1c0_18 := cel hb w.heap.size 18
  simp [go_sem, *] at q1c0_18
  have q1f0 := fun o => fro hb w.heap.size o
  simp [go_sem, *] at q1f0
  obtain ⟨q1s1, q1n1_0, q1n1_1, q1n1_2⟩ := kB wr.heap.size (w.heap.size + 1)
  obtain ⟨q1c1_0, q1c1_1, q1c1_2, q1c1_3, q1c1_4, q1c1_5, q1c1_6, q1f1⟩ := kC7 hb (w.heap.size + 1)
  simp [go_sem, *] at q1c1_0 q1c1_1 q1c1_2 q1c1_3 q1c1_4 q1c1_5 q1c1_6 q1f1
  have q1o := belO q1B
  clear hb
  clear h18
  by_cases hlt : k < an
  ·have hm : (k : Int) < an := by omega
   obtain ⟨b, off, rfl, hbl, c0, c1, c2, c3, c4, c5, c6⟩ := (HR.out.below q1B).at hlt
   by_cases he : (a k).id = id
   ·have h1 : ((a k).id == id) = true := beq_iff_eq.2 he
    have HE := hide (getA_yes (fndA_first hlt he HL.out))
    clear he
    have hk0 : (0 : Int) ≤ k := by omega
    clear hlt hk
    go_wp2_with fail
    refine bodyPost_ret (by simp [results, Tryz.results8, go_sem, *] <;> rfl) rfl ⟨?_, ?_⟩
    ·rw [HE.out.1, HE.out.2.1]
    (repeat (first | (with_reducible first | exact Below.refl _ _ | assumption | refine Below.drew ?_) | ((with_reducible first | refine Below.alloc ?_ ?_ _ | refine Below.setCell ?_ ?_ _); rotate_left; (first | omega | (simp <;> omega)))))
   ·have h1 : ((a k).id == id) = false := beq_eq_false_iff_ne.2 he
    have HE := hide he
    clear he
    have hk0 : (0 : Int) ≤ k := by omega
    have HK := hide hlt
    clear hlt hk
    go_wp2_with fail
    go_roundw
    case rel => exact ⟨k + 1, HK.out, by go_num, fun j hj => by rcases Nat.lt_succ_iff_lt_or_eq.1 hj with h | rfl; exact HL.out j h; exact HE.out, H0.out⟩
    case measure => have := HK.out; simp [intOf]; omega
  ·obtain rfl : k = an := by omega
   have HE := hide (getA_no (fndA_no HL.out))
   clear hlt hk
   go_wp2_with fail
   refine bodyPost_ret (by simp [results, Tryz.results8, go_sem, *] <;> rfl) rfl ⟨?_, ?_⟩
   ·rw [HE.out.1, HE.out.2.1]; rfl
   (repeat (first | (with_reducible first | exact Below.refl _ _ | assumption | refine Below.drew ?_) | ((with_reducible first | refine Below.alloc ?_ ?_ _ | refine Below.setCell ?_ ?_ _); rotate_left; (first | omega | (simp <;> omega)))))
def MvInv (legs : Nat → LLeg) (id : Int) (n : Nat) (W : World) (v6 v7 v : Value) (wr : World) : Prop :=
 ∃ k : Nat, k ≤ n ∧ v = .int .i64 k ∧ v6 = .int .i64 (mvs legs id k) ∧ v7 = .bool (mvb legs id k) ∧ Below W.heap.size W wr
set_option maxHeartbeats 1000000 in
theorem moved_any (E : Array Value) (lA : Option Addr) (n c : Nat) (h8 : E[8]? = some (.slice lA n c)) (legs : Nat → LLeg) (id : Int) (hn : n ≤ 1000000) (w : World) (hr : RowLeg w lA n legs) :
  Calls Tryz.prog 23 #[.agg E, .int .i64 id] w fun e w' => e = .returned (.tuple #[.int .i64 (mvs legs id n), .bool (mvb legs id n)]) ∧ Below w.heap.size w w' := by
 have HR := hide hr
 clear hr
 go_enter Tryz.func23, Tryz.ntmps23
 go_wp2_with fail
 go_loopw [6, 7, 13] (fun v6 v7 v wr => MvInv legs id n (w.alloc (.cells E 53)) v6 v7 v wr) (fun _ _ v _ => n - (intOf v).toNat)
 case atStart => exact ⟨0, by omega, rfl, rfl, rfl, Below.refl _ _⟩
 case round =>
  obtain ⟨k, hk, rfl, rfl, rfl, hb⟩ := hrel
  have q1B : Below w.heap.size w wr := by refine Below.trans ?_ (hb.mono (by simp)); (repeat (first | (with_reducible first | exact Below.refl _ _ | assumption | refine Below.drew ?_) | ((with_reducible first | refine Below.alloc ?_ ?_ _ | refine Below.setCell ?_ ?_ _); rotate_left; (first | omega | (simp <;> omega)))))
  have hz := hb.size
  simp at hz
  by_cases hlt : k < n
  ·have hm : (k : Int) < n := by omega
   obtain ⟨b, off, rfl, hbl, c0, c1, c2⟩ := (HR.out.below q1B).at hlt
   have HK := hide hlt
   have hk0 : (0 : Int) ≤ k := by omega
   by_cases he : (legs k).ac = id
   ·have h1 : ((legs k).ac == id) = true := beq_iff_eq.2 he
    have HD := hide (show mvs legs id (k + 1) = wrap64 (mvs legs id k - (legs k).am) from if_pos he)
    have HB := hide (show mvb legs id (k + 1) = true from by show (mvb legs id k || (legs k).ac == id) = _; rw [h1]; simp)
    clear he hlt hk
    go_wp2_with fail
    go_roundw
    case rel => exact ⟨k + 1, HK.out, by go_num, by rw [HD.out], by rw [HB.out], by refine hb.trans ?_; (repeat (first | (with_reducible first | exact Below.refl _ _ | assumption | refine Below.drew ?_) | ((with_reducible first | refine Below.alloc ?_ ?_ _ | refine Below.setCell ?_ ?_ _); rotate_left; (first | omega | (simp <;> omega)))))⟩
    case measure => have := HK.out; simp [intOf]; omega
   ·have h1 : ((legs k).ac == id) = false := beq_eq_false_iff_ne.2 he
    have HD := hide (show mvs legs id (k + 1) = mvs legs id k from if_neg he)
    have HB := hide (show mvb legs id (k + 1) = mvb legs id k from by show (mvb legs id k || (legs k).ac == id) = _; rw [h1]; simp)
    clear he hlt hk
    go_wp2_with fail
    go_roundw
    case rel => exact ⟨k + 1, HK.out, by go_num, by rw [HD.out], by rw [HB.out], by refine hb.trans ?_; (repeat (first | (with_reducible first | exact Below.refl _ _ | assumption | refine Below.drew ?_) | ((with_reducible first | refine Below.alloc ?_ ?_ _ | refine Below.setCell ?_ ?_ _); rotate_left; (first | omega | (simp <;> omega)))))⟩
    case measure => have := HK.out; simp [intOf]; omega
  ·obtain rfl : k = n := by omega
   clear hlt hk
   go_wp2_with fail
   refine bodyPost_ret (by simp [results, Tryz.results23, go_sem, *] <;> rfl) rfl ⟨?_, ?_⟩
   ·rfl
   exact q1B
end Go.Proofs.YtpghciiifnjimaaGreatDoor
namespace Go.Proofs.YtpghciiifnjimaaGreatDoor
set_option maxRecDepth 4000
set_option linter.unusedSimpArgs false
set_option linter.unusedVariables false
open Go.RowKit
/-- The journals that the walks take. -/
structure Jrn (w : World) (A : Option Addr) (n : Nat) (E : Nat → LEnt) : Prop where
 row : RowEnt w A n E
 legs : ∀ k, k < n → (E k).ln ≤ 1000000
theorem Jrn.below {w w' : World} {A : Option Addr} {n : Nat} {E : Nat → LEnt} (h : Jrn w A n E) (hb : Below w.heap.size w w') : Jrn w' A n E := ⟨h.row.below hb, h.legs⟩
end Go.Proofs.YtpghciiifnjimaaGreatDoor
namespace Go.Proofs.YtpghciiifnjimaaGreatDoor
set_option maxRecDepth 4000
set_option linter.unusedSimpArgs false
set_option linter.unusedVariables false
open Go.RowKit
/-- The interest of one side of a product. -/
structure LInt where
 tA : Option Addr
 tn : Nat
 tc : Nat
 mg : Bool
 ba : Int
 mo : Int
 ke : Bool
 f : Nat → Int
 g : Nat → Int
/-- A version of a product: its cells, and what is read of it. -/
structure LPro where
 C : Array Value
 nm : ByteArray
 fr : Int
 cr : LInt
 db : LInt
structure PrC (C : Array Value) (p : LPro) : Prop where
 size : C.size = 19
 ones : C.all (·.oneCell') = true
 nm : C[0]? = some (.string p.nm)
 fr : C[3]? = some (.int .i64 p.fr)
 c0 : C[7]? = some (.slice p.cr.tA p.cr.tn p.cr.tc)
 c1 : C[8]? = some (.bool p.cr.mg)
 c2 : C[9]? = some (.int .i64 p.cr.ba)
 c3 : C[10]? = some (.int .i64 p.cr.mo)
 c4 : C[11]? = some (.bool p.cr.ke)
 d0 : C[12]? = some (.slice p.db.tA p.db.tn p.db.tc)
 d1 : C[13]? = some (.bool p.db.mg)
 d2 : C[14]? = some (.int .i64 p.db.ba)
 d3 : C[15]? = some (.int .i64 p.db.mo)
 d4 : C[16]? = some (.bool p.db.ke)
/-- Tiers that the walks take. -/
structure InI (x : LInt) : Prop where
 tn : x.tn ≤ 1000000
 ib : IB x.tn x.f x.g
 ba : IIn x.ba
def laterB (P : Nat → LPro) (i : Nat) : Option Nat → Bool
 | none => true
 | some k => decide ((P k).fr < (P i).fr)
/-- The version that holds on a day. -/
def bstP (P : Nat → LPro) (nm : ByteArray) (day : Int) : Nat → Option Nat
 | 0 => none
 | i + 1 => if ((P i).nm.toList == nm.toList) = true ∧ (P i).fr ≤ day ∧ laterB P i (bstP P nm day i) = true then some i else bstP P nm day i
def bstV (P : Nat → LPro) (nm : ByteArray) (day : Int) (n : Nat) : Int := match bstP P nm day n with | some k => k | none => -1
theorem bstP_lt {P : Nat → LPro} {nm : ByteArray} {day : Int} : ∀ {n k : Nat}, bstP P nm day n = some k → k < n
 | 0, k, h => by cases h
 | n + 1, k, h => by
  unfold bstP at h
  split at h
  ·injection h with h; omega
  ·have := bstP_lt h; omega
theorem bstV_some {P : Nat → LPro} {nm : ByteArray} {day : Int} {n k : Nat} (h : bstP P nm day n = some k) : bstV P nm day n = k := by unfold bstV; rw [h]
theorem bstV_none {P : Nat → LPro} {nm : ByteArray} {day : Int} {n : Nat} (h : bstP P nm day n = none) : bstV P nm day n = -1 := by unfold bstV; rw [h]
theorem bst_nm {P : Nat → LPro} {nm : ByteArray} {day : Int} {n : Nat} (h : ((P n).nm.toList == nm.toList) = false) : bstP P nm day (n + 1) = bstP P nm day n := if_neg fun hh => by rw [h] at hh; cases hh.1
theorem bst_fr {P : Nat → LPro} {nm : ByteArray} {day : Int} {n : Nat} (h : day < (P n).fr) : bstP P nm day (n + 1) = bstP P nm day n := if_neg fun hh => by have := hh.2.1; omega
theorem bst_old {P : Nat → LPro} {nm : ByteArray} {day : Int} {n k : Nat} (hk : bstP P nm day n = some k) (h : (P n).fr ≤ (P k).fr) : bstP P nm day (n + 1) = bstP P nm day n := if_neg fun hh => by
 have := hh.2.2
 rw [hk] at this
 have := of_decide_eq_true this
 omega
theorem bst_none {P : Nat → LPro} {nm : ByteArray} {day : Int} {n : Nat} (h1 : ((P n).nm.toList == nm.toList) = true) (h2 : (P n).fr ≤ day) (hk : bstP P nm day n = none) : bstP P nm day (n + 1) = some n := if_pos ⟨h1, h2, by rw [hk]; rfl⟩
theorem bst_new {P : Nat → LPro} {nm : ByteArray} {day : Int} {n k : Nat} (h1 : ((P n).nm.toList == nm.toList) = true) (h2 : (P n).fr ≤ day) (hk : bstP P nm day n = some k) (h : (P k).fr < (P n).fr) : bstP P nm day (n + 1) = some n := if_pos ⟨h1, h2, by rw [hk]; exact decide_eq_true h⟩
/-- An account is open on a day. -/
def actL (x : LAcc) (day : Int) : Bool := decide (x.op ≤ day) && (x.cl == 0 || decide (day < x.cl))
/-! ### Weights -/
/-! ### The interest of a day -/
structure LAcr where
 ac : Int
 dy : Int
 bl : Int
 cr : Int
 db : Int
def acrC (a : LAcr) : Nat → Value
 | 0 => .int .i64 a.ac | 1 => .int .i64 a.dy | 2 => .int .i64 a.bl | 3 => .int .i64 (hiW a.cr) | 4 => .int .u64 (loW a.cr) | 5 => .int .i64 (hiW a.db) | 6 => .int .u64 (loW a.db) | _ => undef
def RowAcr (w : World) (A : Option Addr) (n : Nat) (a : Nat → LAcr) : Prop := RowS w A n 7 (fun k => acrC (a k))
theorem RowAcr.below {w w' : World} {A : Option Addr} {n : Nat} {a : Nat → LAcr} (h : RowAcr w A n a) (hb : Below w.heap.size w w') : RowAcr w' A n a := RowS.below h hb
theorem RowAcr.at {w : World} {A : Option Addr} {n k : Nat} {a : Nat → LAcr} (h : RowAcr w A n a) (hk : k < n) : ∃ b off, A = some ⟨b, off, none⟩ ∧ b < w.heap.size ∧
  w.cell? ⟨b, off + k * 7, none⟩ = some (.int .i64 (a k).ac) ∧ w.cell? ⟨b, off + k * 7 + 1, none⟩ = some (.int .i64 (a k).dy) ∧ w.cell? ⟨b, off + k * 7 + 2, none⟩ = some (.int .i64 (a k).bl) ∧ w.cell? ⟨b, off + k * 7 + 3, none⟩ = some (.int .i64 (hiW (a k).cr)) ∧
  w.cell? ⟨b, off + k * 7 + 4, none⟩ = some (.int .u64 (loW (a k).cr)) ∧ w.cell? ⟨b, off + k * 7 + 5, none⟩ = some (.int .i64 (hiW (a k).db)) ∧ w.cell? ⟨b, off + k * 7 + 6, none⟩ = some (.int .u64 (loW (a k).db)) := by
 obtain ⟨b, off, e, hlt, hc⟩ := RowS.at h hk
 exact ⟨b, off, e, hlt, hc 0 (by omega), hc 1 (by omega), hc 2 (by omega), hc 3 (by omega), hc 4 (by omega), hc 5 (by omega), hc 6 (by omega)⟩
/-! ### Sums -/
end Go.Proofs.YtpghciiifnjimaaGreatDoor
namespace Go.Proofs.YtpghciiifnjimaaGreatDoor
set_option maxRecDepth 4000
set_option linter.unusedSimpArgs false
set_option linter.unusedVariables false
open Go.RowKit
/-- Books. -/
structure LBk where
 C : Array Value
 aA : Option Addr
 an : Nat
 ac : Nat
 a : Nat → LAcc
 jA : Option Addr
 jn : Nat
 jc : Nat
 E : Nat → LEnt
 pA : Option Addr
 pn : Nat
 pc : Nat
 P : Nat → LPro
/-- Rows of versions. -/
structure RowPro (w : World) (A : Option Addr) (n : Nat) (P : Nat → LPro) : Prop where
 row : 0 < n → ∃ b off, A = some ⟨b, off, none⟩ ∧ b < w.heap.size ∧ ∀ k j v, k < n → (P k).C[j]? = some v → w.cell? ⟨b, off + k * 19 + j, none⟩ = some v
 cr : ∀ k, k < n → Row2 w (P k).cr.tA (P k).cr.tn (P k).cr.f (P k).cr.g
 db : ∀ k, k < n → Row2 w (P k).db.tA (P k).db.tn (P k).db.f (P k).db.g
theorem RowPro.below {w w' : World} {A : Option Addr} {n : Nat} {P : Nat → LPro} (h : RowPro w A n P) (hb : Below w.heap.size w w') : RowPro w' A n P :=
 ⟨fun hn => by
  obtain ⟨b, off, e, hlt, hc⟩ := h.row hn
  exact ⟨b, off, e, Nat.lt_of_lt_of_le hlt hb.size, fun k j v hk hv => (hb.cell (p := ⟨b, _, none⟩) hlt).trans (hc k j v hk hv)⟩, fun k hk => (h.cr k hk).below hb, fun k hk => (h.db k hk).below hb⟩
/-- The version of an account's product on a day. -/
def prdB (B : LBk) (id day : Int) : Option Nat := if hasA B.a id B.an = true then bstP B.P (getA B.a id B.an).pr day B.pn else none
def actB (B : LBk) (id day : Int) : Bool := hasA B.a id B.an && actL (getA B.a id B.an) day
structure BkOK (B : LBk) : Prop where
 bks : Bks B.C B.aA B.an B.ac B.jA B.jn B.jc
 pro : B.C[17]? = some (.slice B.pA B.pn B.pc)
 an : B.an ≤ 1000000
 jn : B.jn ≤ 1000000
 pn : B.pn ≤ 1000000
 ones : B.C.all (·.oneCell') = true
 cells : ∀ k, k < B.pn → PrC (B.P k).C (B.P k)
 cr : ∀ k, k < B.pn → InI (B.P k).cr
 db : ∀ k, k < B.pn → InI (B.P k).db
structure BkIn (w : World) (B : LBk) : Prop where
 acc : RowAcc w B.aA B.an B.a
 jrn : Jrn w B.jA B.jn B.E
 pro : RowPro w B.pA B.pn B.P
theorem BkIn.below {w w' : World} {B : LBk} (h : BkIn w B) (hb : Below w.heap.size w w') : BkIn w' B := ⟨h.acc.below hb, h.jrn.below hb, h.pro.below hb⟩
end Go.Proofs.YtpghciiifnjimaaGreatDoor
