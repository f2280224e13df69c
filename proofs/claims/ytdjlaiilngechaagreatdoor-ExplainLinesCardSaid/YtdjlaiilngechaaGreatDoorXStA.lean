/- Texts laid together: StA StB AcA. -/
import Derived.Test.YtdjlaiilngechaaGreatDoorXRowM
import Derived.Test.YtdjlaiilngechaaGreatDoorXReg
import Derived.Test.YtdjlaiilngechaaGreatDoorProg
import Derived.KernelRfl
import Derived.WalkSpells
import Derived.WalkLawsBesides
import Derived.Sort.WalkA
import Derived.Laws.Rows
import Derived.Test.YtdjlaiilngechaaGreatDoorXK0
namespace Go.Proofs.YtdjlaiilngechaaGreatDoor
set_option maxRecDepth 4000
set_option linter.unusedSimpArgs false
set_option linter.unusedVariables false
open Go.RowKit
/-- The index of an account, or -1. -/
def idxA (a : Nat → LAcc) (id : Int) (n : Nat) : Int := match fndA a id n with | some k => k | none => -1
theorem idxA_yes {a : Nat → LAcc} {id : Int} {n k : Nat} (hk : k < n) (he : (a k).id = id) (hl : ∀ j, j < k → (a j).id ≠ id) : idxA a id n = k := by unfold idxA; rw [fndA_first hk he hl]
theorem idxA_no {a : Nat → LAcc} {id : Int} {n : Nat} (hl : ∀ j, j < n → (a j).id ≠ id) : idxA a id n = -1 := by unfold idxA; rw [fndA_no hl]
theorem ix1_any (i0 i1 i2 i3 : Int) (s4 s5 s6 : ByteArray) (id : Int) (bi : Nat) (w : World) (hb : bi < w.heap.size) (hc : w.cell? ⟨bi, 0, none⟩ = some (.int .i64 id)) :
  Calls Tryz.prog 121 #[.agg #[.int .i64 i0, .int .i64 i1, .int .i64 i2, .int .i64 i3, .string s4, .string s5, .string s6], .pointer (some ⟨bi, 0, none⟩)] w fun e w' => e = .returned (.bool (i0 == id)) ∧ Below w.heap.size w w' := by
 go_enter Tryz.func121, Tryz.ntmps121
 go_wp2_with fail
 go_ret
 exact ⟨rfl, by (repeat (first | (with_reducible first | exact Below.refl _ _ | assumption | refine Below.drew ?_) | ((with_reducible first | refine Below.alloc ?_ ?_ _ | refine Below.setCell ?_ ?_ _); rotate_left; (first | omega | (simp <;> omega)))))⟩
def IxInv (a : Nat → LAcc) (id : Int) (n : Nat) (w : World) (v : Value) (wr : World) : Prop := ∃ k : Nat, k ≤ n ∧ v = .int .i64 k ∧ (∀ j, j < k → (a j).id ≠ id) ∧ Below w.heap.size w wr
theorem ixf_any (A : Option Addr) (n c : Nat) (a : Nat → LAcc) (id : Int) (bi : Nat) (hn : n ≤ 1000000) (w : World) (hr : RowAcc w A n a) (hb : bi < w.heap.size) (hc : w.cell? ⟨bi, 0, none⟩ = some (.int .i64 id)) :
  Calls Tryz.prog 120 #[.slice A n c, .func (.func 121) #[] #[.pointer (some ⟨bi, 0, none⟩)]] w fun e w' => e = .returned (.int .i64 (idxA a id n)) ∧ Below w.heap.size w w' := by
 go_enter Tryz.func120, Tryz.ntmps120
 go_wp2_with fail
 go_loopw [8] (fun v wr => IxInv a id n w v wr) (fun v _ => n - (intOf v).toNat)
 case atStart => exact ⟨0, by omega, rfl, fun j hj => by omega, by (repeat (first | (with_reducible first | exact Below.refl _ _ | assumption | refine Below.drew ?_) | ((with_reducible first | refine Below.alloc ?_ ?_ _ | refine Below.setCell ?_ ?_ _); rotate_left; (first | omega | (simp <;> omega)))))⟩
 case round =>
  obtain ⟨k, hk, rfl, hl, hB⟩ := hrel
  by_cases hlt : k < n
  ·have hm : (k : Int) < n := by omega
   obtain ⟨b, off, rfl, hbl, c0, c1, c2, c3, c4, c5, c6⟩ := (hr.below hB).at hlt
   have HL := hide hl
   clear hl
   go_wp2_with fail
   refine (ix1_any _ _ _ _ _ _ _ id bi _ (by have := hB.size; omega) ((hB.cell (p := ⟨bi, 0, none⟩) hb).trans hc)).mono ?_
   rintro e w1 ⟨rfl, hb1⟩
   by_cases he : (a k).id = id
   ·have h1 : ((a k).id == id) = true := beq_iff_eq.2 he
    have HE := hide (idxA_yes hlt he HL.out)
    clear he
    go_wp2_with fail
    go_ret
    exact ⟨by rw [HE.out]; rfl, hB.trans (hb1.mono hB.size)⟩
   ·have h1 : ((a k).id == id) = false := beq_eq_false_iff_ne.2 he
    have HE := hide he
    clear he
    go_wp2_with fail
    go_roundw
    case rel => exact ⟨k + 1, by omega, by go_num, fun j hj => by rcases Nat.lt_succ_iff_lt_or_eq.1 hj with h | rfl; exact HL.out j h; exact HE.out, hB.trans (hb1.mono hB.size)⟩
    case measure => simp [intOf]; omega
  ·obtain rfl : k = n := by omega
   have HE := hide (idxA_no hl)
   clear hl
   go_wp2_with fail
   go_ret
   exact ⟨by rw [HE.out]; rfl, hB⟩
/-- Books as cells: the accounts and the journal. -/
structure Bks (C : Array Value) (aA : Option Addr) (an ac : Nat) (jA : Option Addr) (jn jc : Nat) : Prop where
 size : C.size = 22
 acc : C[18]? = some (.slice aA an ac)
 jou : C[19]? = some (.slice jA jn jc)
theorem index_any (C : Array Value) (aA : Option Addr) (an ac : Nat) (jA : Option Addr) (jn jc : Nat) (hC : Bks C aA an ac jA jn jc) (a : Nat → LAcc) (id : Int) (hn : an ≤ 1000000) (w : World) (hr : RowAcc w aA an a) :
  Calls Tryz.prog 77 #[.agg C, .int .i64 id] w fun e w' => e = .returned (.int .i64 (idxA a id an)) ∧ Below w.heap.size w w' := by
 have HR := hide hr
 have h18 := hC.acc
 clear hr
 go_enter Tryz.func77, Tryz.ntmps77
 go_wp2_with fail
 refine (ixf_any aA an ac a id (w.heap.size + 1) hn _ (HR.out.below belT) (by simp) (by simp [go_sem])).mono ?_
 rintro e w1 ⟨rfl, hb⟩
 go_wp2_with fail
 go_ret
 exact ⟨rfl, by refine Below.trans ?_ (hb.mono (by simp; omega)); (repeat (first | (with_reducible first | exact Below.refl _ _ | assumption | refine Below.drew ?_) | ((with_reducible first | refine Below.alloc ?_ ?_ _ | refine Below.setCell ?_ ?_ _); rotate_left; (first | omega | (simp <;> omega)))))⟩
def zAcc : LAcc := ⟨0, 0, 0, 0, ByteArray.empty, ByteArray.empty, ByteArray.empty⟩
/-- What Find answers. -/
def getA (a : Nat → LAcc) (id : Int) (n : Nat) : LAcc := match fndA a id n with | some k => a k | none => zAcc
def hasA (a : Nat → LAcc) (id : Int) (n : Nat) : Bool := (fndA a id n).isSome
theorem getA_yes {a : Nat → LAcc} {id : Int} {n k : Nat} (h : fndA a id n = some k) : getA a id n = a k ∧ hasA a id n = true ∧ idxA a id n = k := by unfold getA hasA idxA; rw [h]; exact ⟨rfl, rfl, rfl⟩
theorem getA_no {a : Nat → LAcc} {id : Int} {n : Nat} (h : fndA a id n = none) : getA a id n = zAcc ∧ hasA a id n = false ∧ idxA a id n = -1 := by unfold getA hasA idxA; rw [h]; exact ⟨rfl, rfl, rfl⟩
end Go.Proofs.YtdjlaiilngechaaGreatDoor
namespace Go.Proofs.YtdjlaiilngechaaGreatDoor
set_option maxRecDepth 4000
set_option linter.unusedSimpArgs false
set_option linter.unusedVariables false
open Go.RowKit
theorem two_boxes (w : World) (o o' : Obj) : ((w.alloc o).alloc o').heap[w.heap.size]? = some o := (Go.Deep.blk_alloc_lt _ _ _ (by simp)).trans (Go.Deep.blk_alloc_new _ _)
set_option maxHeartbeats 1000000 in
theorem find_any (C : Array Value) (aA : Option Addr) (an ac : Nat) (jA : Option Addr) (jn jc : Nat) (hC : Bks C aA an ac jA jn jc) (a : Nat → LAcc) (id : Int) (hn : an ≤ 1000000) (w : World) (hr : RowAcc w aA an a) :
  Calls Tryz.prog 42 #[.agg C, .int .i64 id] w fun e w' => e = .returned (.tuple #[.agg #[.int .i64 (getA a id an).id, .int .i64 (getA a id an).op, .int .i64 (getA a id an).cl, .int .i64 (getA a id an).ex, .string (getA a id an).ow, .string (getA a id an).pr, .string (getA a id an).nu], .bool (hasA a id an)]) ∧ Below w.heap.size w w' := by
 have HR := hide hr
 have h18 := hC.acc
 have hrow : (Tryz.prog.info? 33).map (·.size) = some C.size := by rw [hC.size]; kernel_rfl
 have HW := hide hrow
 clear hr hrow
 cases hf : fndA a id an with
 | none =>
  have HF := hide (getA_no hf)
  clear hf
  go_enter Tryz.func42, Tryz.ntmps42
  go_wp2_with (with_reducible refine wpList_load_row rfl 33 (.tmp 2) rfl w.heap.size rfl 33 C (0, 0) _ (two_boxes _ _ _) Tryz.underlying33 rfl HW.out ?_)
  refine (index_any C aA an ac jA jn jc hC a id hn _ (HR.out.below belT)).mono ?_
  rintro e w1 ⟨rfl, hb⟩
  rw [HF.out.2.2]
  have q1B : Below w.heap.size w w1 := qB hb
  have q1z := hb.size
  try simp at q1z
  have q1t : w.heap.size ≤ w1.heap.size := (by omega)
  obtain ⟨q1s0, q1n0_0, q1n0_1, q1n0_2⟩ := kB w1.heap.size w.heap.size
  have q1c0_18 := cel hb w.heap.size 18
  simp [go_sem, *] at q1c0_18
  have q1f0 := fun o => fro hb w.heap.size o
  simp [go_sem, *] at q1f0
  obtain ⟨q1s1, q1n1_0, q1n1_1, q1n1_2⟩ := kB w1.heap.size (w.heap.size + 1)
  obtain ⟨q1c1_0, q1c1_1, q1c1_2, q1c1_3, q1c1_4, q1c1_5, q1c1_6, q1f1⟩ := kC7 hb (w.heap.size + 1)
  simp [go_sem, *] at q1c1_0 q1c1_1 q1c1_2 q1c1_3 q1c1_4 q1c1_5 q1c1_6 q1f1
  have q1o := belO q1B
  clear hb
  go_wp2_with fail
  refine bodyPost_ret (by simp [results, Tryz.results42, go_sem, *] <;> rfl) rfl ⟨?_, ?_⟩
  ·rw [HF.out.1, HF.out.2.1]; rfl
  (repeat (first | (with_reducible first | exact Below.refl _ _ | assumption | refine Below.drew ?_) | ((with_reducible first | refine Below.alloc ?_ ?_ _ | refine Below.setCell ?_ ?_ _); rotate_left; (first | omega | (simp <;> omega)))))
 | some k =>
  have HF := hide (getA_yes hf)
  have hk := (fndA_some hf).1
  clear hf
  have hm : (k : Int) < an := by omega
  go_enter Tryz.func42, Tryz.ntmps42
  go_wp2_with (with_reducible refine wpList_load_row rfl 33 (.tmp 2) rfl w.heap.size rfl 33 C (0, 0) _ (two_boxes _ _ _) Tryz.underlying33 rfl HW.out ?_)
  refine (index_any C aA an ac jA jn jc hC a id hn _ (HR.out.below belT)).mono ?_
  rintro e w1 ⟨rfl, hb⟩
  rw [HF.out.2.2]
  have q1B : Below w.heap.size w w1 := qB hb
  have q1z := hb.size
  try simp at q1z
  have q1t : w.heap.size ≤ w1.heap.size := (by omega)
  obtain ⟨q1s0, q1n0_0, q1n0_1, q1n0_2⟩ := kB w1.heap.size w.heap.size
  have q1c0_18 := cel hb w.heap.size 18
  simp [go_sem, *] at q1c0_18
  have q1f0 := fun o => fro hb w.heap.size o
  simp [go_sem, *] at q1f0
  obtain ⟨q1s1, q1n1_0, q1n1_1, q1n1_2⟩ := kB w1.heap.size (w.heap.size + 1)
  obtain ⟨q1c1_0, q1c1_1, q1c1_2, q1c1_3, q1c1_4, q1c1_5, q1c1_6, q1f1⟩ := kC7 hb (w.heap.size + 1)
  simp [go_sem, *] at q1c1_0 q1c1_1 q1c1_2 q1c1_3 q1c1_4 q1c1_5 q1c1_6 q1f1
  have q1o := belO q1B
  clear hb
  obtain ⟨b, off, rfl, hbl, c0, c1, c2, c3, c4, c5, c6⟩ := (HR.out.below q1B).at hk
  have hk0 : (0 : Int) ≤ k := by omega
  clear hC HR h18 hk HW
  go_wp2_with fail
  refine bodyPost_ret (by simp [results, Tryz.results42, go_sem, *] <;> rfl) rfl ⟨?_, ?_⟩
  ·rw [HF.out.1, HF.out.2.1]
  (repeat (first | (with_reducible first | exact Below.refl _ _ | assumption | refine Below.drew ?_) | ((with_reducible first | refine Below.alloc ?_ ?_ _ | refine Below.setCell ?_ ?_ _); rotate_left; (first | omega | (simp <;> omega)))))
end Go.Proofs.YtdjlaiilngechaaGreatDoor
namespace Go.Proofs.YtdjlaiilngechaaGreatDoor
set_option maxRecDepth 4000
set_option linter.unusedSimpArgs false
set_option linter.unusedVariables false
open Go.RowKit
def RFdInv (a : Nat → LAcc) (id : Int) (n : Nat) (W : World) (v : Value) (wr : World) : Prop := ∃ k : Nat, k ≤ n ∧ v = .int .i64 k ∧ (∀ j, j < k → (a j).id ≠ id) ∧ Below W.heap.size W wr
set_option maxHeartbeats 1000000 in
theorem rfind_any (C : Array Value) (aA : Option Addr) (an ac : Nat) (jA : Option Addr) (jn jc : Nat) (hC : Bks C aA an ac jA jn jc) (a : Nat → LAcc) (id : Int) (hn : an ≤ 1000000) (w : World) (hr : RowAcc w aA an a) :
  Calls Tryz.prog 50 #[.agg C, .int .i64 id] w fun e w' => e = .returned (.tuple #[.agg #[.int .i64 (getA a id an).id, .int .i64 (getA a id an).op, .int .i64 (getA a id an).cl, .int .i64 (getA a id an).ex, .string (getA a id an).ow, .string (getA a id an).pr, .string (getA a id an).nu], .bool (hasA a id an)]) ∧ Below w.heap.size w w' := by
 have HR := hide hr
 have h18 := hC.acc
 clear hr hC
 go_enter Tryz.func50, Tryz.ntmps50
 go_wp2_with fail
 go_loopw [6] (fun v wr => RFdInv a id an ((w.alloc (.cells C 33)).alloc (.cells #[.int .i64 0, .int .i64 0, .int .i64 0, .int .i64 0, .string ⟨#[]⟩, .string ⟨#[]⟩, .string ⟨#[]⟩] 101)) v wr) (fun v _ => an - (intOf v).toNat)
 case atStart => exact ⟨0, by omega, rfl, fun j hj => by omega, Below.refl _ _⟩
 case round =>
  obtain ⟨k, hk, rfl, hl, hb⟩ := hrel
  have HL := hide hl
  clear hl
  have H0 := hide hb
  have q1B : Below w.heap.size w wr := qB hb
  have q1z := hb.size
  try simp at q1z
  have q1t : w.heap.size ≤ wr.heap.size := (by omega)
  obtain ⟨q1s0, q1n0_0, q1n0_1, q1n0_2⟩ := kB wr.heap.size w.heap.size
  have q1c0_18 := cel hb w.heap.size 18
  simp [go_sem, *] at q1c0_18
  have q1f0 := fun o => fro hb w.heap.size o
  simp [go_sem, *] at q1f0
  obtain ⟨q1s1, q1n1_0, q1n1_1, q1n1_2⟩ := kB wr.heap.size (w.heap.size + 1)
  obtain ⟨q1c1_0, q1c1_1, q1c1_2, q1c1_3, q1c1_4, q1c1_5, q1c1_6, q1f1⟩ := kC7 hb (w.heap.size + 1)
  simp [go_sem, *] at q1c1_0 q1c1_1 q1c1_2 q1c1_3 q1c1_4 q1c1_5 q1c1_6 q1f1
  have q1o := belO q1B
  clear hb
  clear h18
  by_cases hlt : k < an
  ·have hm : (k : Int) < an := by omega
   obtain ⟨b, off, rfl, hbl, c0, c1, c2, c3, c4, c5, c6⟩ := (HR.out.below q1B).at hlt
   by_cases he : (a k).id = id
   ·have h1 : ((a k).id == id) = true := beq_iff_eq.2 he
    have HE := hide (getA_yes (fndA_first hlt he HL.out))
    clear he
    have hk0 : (0 : Int) ≤ k := by omega
    clear hlt hk
    go_wp2_with fail
    refine bodyPost_ret (by simp [results, Tryz.results50, go_sem, *] <;> rfl) rfl ⟨?_, ?_⟩
    ·rw [HE.out.1, HE.out.2.1]
    (repeat (first | (with_reducible first | exact Below.refl _ _ | assumption | refine Below.drew ?_) | ((with_reducible first | refine Below.alloc ?_ ?_ _ | refine Below.setCell ?_ ?_ _); rotate_left; (first | omega | (simp <;> omega)))))
   ·have h1 : ((a k).id == id) = false := beq_eq_false_iff_ne.2 he
    have HE := hide he
    clear he
    have hk0 : (0 : Int) ≤ k := by omega
    have HK := hide hlt
    clear hlt hk
    go_wp2_with fail
    go_roundw
    case rel => exact ⟨k + 1, HK.out, by go_num, fun j hj => by rcases Nat.lt_succ_iff_lt_or_eq.1 hj with h | rfl; exact HL.out j h; exact HE.out, H0.out⟩
    case measure => have := HK.out; simp [intOf]; omega
  ·obtain rfl : k = an := by omega
   have HE := hide (getA_no (fndA_no HL.out))
   clear hlt hk
   go_wp2_with fail
   refine bodyPost_ret (by simp [results, Tryz.results50, go_sem, *] <;> rfl) rfl ⟨?_, ?_⟩
   ·rw [HE.out.1, HE.out.2.1]; rfl
   (repeat (first | (with_reducible first | exact Below.refl _ _ | assumption | refine Below.drew ?_) | ((with_reducible first | refine Below.alloc ?_ ?_ _ | refine Below.setCell ?_ ?_ _); rotate_left; (first | omega | (simp <;> omega)))))
def RmInv (legs : Nat → LLeg) (id : Int) (n : Nat) (W : World) (v5 v : Value) (wr : World) : Prop :=
 ∃ k : Nat, k ≤ n ∧ v = .int .i64 k ∧ v5 = .int .i64 (mvs legs id k) ∧ Below W.heap.size W wr
set_option maxHeartbeats 1000000 in
theorem rmoved_any (E : Array Value) (lA : Option Addr) (n c : Nat) (h8 : E[8]? = some (.slice lA n c)) (legs : Nat → LLeg) (id : Int) (hn : n ≤ 1000000) (w : World) (hr : RowLeg w lA n legs) :
  Calls Tryz.prog 131 #[.agg E, .int .i64 id] w fun e w' => e = .returned (.int .i64 (mvs legs id n)) ∧ Below w.heap.size w w' := by
 have HR := hide hr
 clear hr
 go_enter Tryz.func131, Tryz.ntmps131
 go_wp2_with fail
 go_loopw [5, 6] (fun v6 v wr => RmInv legs id n (w.alloc (.cells E 82)) v6 v wr) (fun _ v _ => n - (intOf v).toNat)
 case atStart => exact ⟨0, by omega, rfl, rfl, Below.refl _ _⟩
 case round =>
  obtain ⟨k, hk, rfl, rfl, hb⟩ := hrel
  have H0 := hide hb
  have H8 := hide h8
  have q1B : Below w.heap.size w wr := qB hb
  have q1z := hb.size
  try simp at q1z
  have q1t : w.heap.size ≤ wr.heap.size := (by omega)
  obtain ⟨q1s0, q1n0_0, q1n0_1, q1n0_2⟩ := kB wr.heap.size w.heap.size
  have q1c0_8 := cel hb w.heap.size 8
  simp [go_sem, *] at q1c0_8
  have q1f0 := fun o => fro hb w.heap.size o
  simp [go_sem, *] at q1f0
  have q1o := belO q1B
  clear hb
  clear h8
  by_cases hlt : k < n
  ·have hm : (k : Int) < n := by omega
   obtain ⟨b, off, rfl, hbl, c0, c1, c2⟩ := (HR.out.below q1B).at hlt
   have HK := hide hlt
   have hk0 : (0 : Int) ≤ k := by omega
   by_cases he : (legs k).ac = id
   ·have h1 : ((legs k).ac == id) = true := beq_iff_eq.2 he
    have HD := hide (show mvs legs id (k + 1) = wrap64 (mvs legs id k - (legs k).am) from if_pos he)
    clear he hlt hk
    go_wp2_with fail
    go_roundw
    case rel => exact ⟨k + 1, HK.out, by go_num, by rw [HD.out], H0.out⟩
    case measure => have := HK.out; simp [intOf]; omega
   ·have h1 : ((legs k).ac == id) = false := beq_eq_false_iff_ne.2 he
    have HD := hide (show mvs legs id (k + 1) = mvs legs id k from if_neg he)
    clear he hlt hk
    go_wp2_with fail
    go_roundw
    case rel => exact ⟨k + 1, HK.out, by go_num, by rw [HD.out], H0.out⟩
    case measure => have := HK.out; simp [intOf]; omega
  ·obtain rfl : k = n := by omega
   clear hlt hk
   go_wp2_with fail
   go_ret
   exact ⟨rfl, q1B⟩
/-- The journals that the walks take. -/
structure Jrn (w : World) (A : Option Addr) (n : Nat) (E : Nat → LEnt) : Prop where
 row : RowEnt w A n E
 legs : ∀ k, k < n → (E k).ln ≤ 1000000
theorem Jrn.below {w w' : World} {A : Option Addr} {n : Nat} {E : Nat → LEnt} (h : Jrn w A n E) (hb : Below w.heap.size w w') : Jrn w' A n E := ⟨h.row.below hb, h.legs⟩
end Go.Proofs.YtdjlaiilngechaaGreatDoor
