/- Texts laid together: TvI TvJ TvK. -/
import Derived.Test.YtpghciiifnjimaaGreatDoorXTvH
import Derived.Test.YtpghciiifnjimaaGreatDoorXK0
namespace Go.Proofs.YtpghciiifnjimaaGreatDoor
set_option maxRecDepth 4000
set_option linter.unusedSimpArgs false
set_option linter.unusedVariables false
open Go.RowKit
theorem own_cells {w : World} {base sz : Nat} {t : TypeId} {A : Option Addr} {n c : Nat} {xs : List Value} (h : w.ownsRow base t sz (.slice A n c) n xs) (hn : 0 < n) :
  ∃ g, A = some ⟨g, 0, none⟩ ∧ base ≤ g ∧ g < w.heap.size ∧ (∀ (j : Nat) (u : Value), xs[j]? = some u → w.cell? ⟨g, j, none⟩ = some u) ∧ ∀ o, w.frozen? ⟨g, o, none⟩ = false := by
 rcases h.2 with ⟨e, h0⟩ | ⟨g, cap, cur, e, hg, hh, h3, h4, h5, h6⟩
 ·omega
 ·injection e with e1 _ e3
  refine ⟨g, e1, hg, heap_lt hh, fun j u hj => ?_, free_at hh⟩
  rw [← h6, List.getElem?_take] at hj
  rw [cell_at hh j]
  by_cases hlt : j < n * sz
  ·rw [if_pos hlt] at hj; simpa using hj
  ·rw [if_neg hlt] at hj; cases hj
abbrev lvL1 : List Value := [.int .i64 101, .int .i64 100000, .string xEur]
abbrev lvL2 : List Value := [.int .i64 1000, .int .i64 (-100000), .string xEur]
theorem bsL_nil (x y : Int) (s : ByteArray) (w : World) : Calls Tryz.prog 177 #[.slice none 0 0, .agg #[.int .i64 x, .int .i64 y, .string s], .func (.func 178) #[] #[]] w fun e w' => e = .returned (.tuple #[.int .i64 0, .bool false]) ∧ Below w.heap.size w w' :=
 bsL_any none 0 0 (fun _ => 0) (fun _ => 0) (fun _ => s) x y s (by omega) w (fun h => by omega)
theorem bsL_one (A : Option Addr) (c base : Nat) (w : World) (h : w.ownsRow base 107 3 (.slice A 1 c) 1 lvL1) :
  Calls Tryz.prog 177 #[.slice A 1 c, .agg #[.int .i64 1000, .int .i64 (-100000), .string xEur], .func (.func 178) #[] #[]] w fun e w' => e = .returned (.tuple #[.int .i64 1, .bool false]) ∧ Below w.heap.size w w' := by
 obtain ⟨g, rfl, _, hg, hc, _⟩ := own_cells h (by decide)
 have h := bsL_any (some ⟨g, 0, none⟩) 1 c (fun _ => 101) (fun _ => 100000) (fun _ => xEur) 1000 (-100000) xEur (by omega) w (fun _ => ⟨g, 0, rfl, hg, fun k j hk hj => by
  obtain rfl : k = 0 := by omega
  match j, hj with
  | 0, _ => exact hc 0 _ rfl
  | 1, _ => exact hc 1 _ rfl
  | 2, _ => exact hc 2 _ rfl⟩)
 have e : cmpL 101 xEur 1000 xEur = -1 := by unfold cmpL; rw [eur_eq]; rfl
 rw [e] at h
 exact h
def ColRet (w : World) (e : Ending) (w' : World) : Prop :=
 ∃ g c, e = .returned (.slice (some ⟨g, 0, none⟩) 2 c) ∧ (∀ (j : Nat) (u : Value), (lvL1 ++ lvL2)[j]? = some u → w'.cell? ⟨g, j, none⟩ = some u) ∧ g < w'.heap.size ∧ Below w.heap.size w w'
set_option maxHeartbeats 4000000 in
theorem lv_collect (b : Nat) (w : World) (hl : w.heap[b]? = some (.cells lvLg 107 (0, 0))) : Calls Tryz.prog 128 #[.slice none 0 0, .slice (some ⟨b, 0, none⟩) 2 2] w (ColRet w) := by
 have hb0 := heap_lt hl
 have l0 := cell_of_cells hl 0
 have l1 := cell_of_cells hl 1
 have l2 := cell_of_cells hl 2
 have l3 := cell_of_cells hl 3
 have l4 := cell_of_cells hl 4
 have l5 := cell_of_cells hl 5
 simp at l0 l1 l2 l3 l4 l5
 clear hl
 go_enter Tryz.func128, Tryz.ntmps128
 go_wp2_with fail
 refine wp_loopN 3 ?_
 unfold LoopN
 go_wp2_with fail
 refine (bsL_nil 101 100000 xEur _).mono ?_
 rintro r w1 ⟨rfl, hb⟩
 have q1B : Below w.heap.size w w1 := qB hb
 have q1z := hb.size
 try simp at q1z
 have q1t : w.heap.size ≤ w1.heap.size := (by omega)
 obtain ⟨q1s0, q1n0_0, q1n0_1, q1n0_2⟩ := kB w1.heap.size w.heap.size
 obtain ⟨q1c0_0, q1c0_1, q1c0_2, q1f0⟩ := kC3 hb w.heap.size
 simp [go_sem, *] at q1c0_0 q1c0_1 q1c0_2 q1f0
 have q1o := belO q1B
 clear hb
 have B1 := hide q1B
 go_wp2_with fail
 refine (insL_end w.heap.size none 0 0 [] _ ⟨by simp, .inl ⟨rfl, rfl⟩⟩ (by omega) (by simp; omega) w1.heap.size 1 lvL1 rfl (news_new (cs := ⟨lvL1⟩) rfl) rfl).mono ?_
 rintro r w2 ⟨A, c, rfl, ho, hg, hv⟩
 have HO := hide ho
 have hb := below_grown hg (Nat.le_refl _) (fun k e => by cases e)
 clear ho hg hv
 have q2B : Below w1.heap.size w1 w2 := qB hb
 have q2z := hb.size
 try simp at q2z
 have q2t : w1.heap.size ≤ w2.heap.size := (by omega)
 obtain ⟨q2s0, q2n0_0, q2n0_1, q2n0_2⟩ := kB w2.heap.size w.heap.size
 obtain ⟨q2c0_0, q2c0_1, q2c0_2, q2f0⟩ := kC3 hb w.heap.size
 simp [go_sem, *] at q2c0_0 q2c0_1 q2c0_2 q2f0
 have q2o := belO q2B
 clear hb q1o q1f0 q1c0_2 q1c0_1 q1c0_0 q1s0 q1z q1B
 have B2 := hide (B1.out.trans (q2B.mono (by omega)))
 have r3 := (B2.out.cell (p := ⟨b, 3, none⟩) hb0).trans l3
 have r4 := (B2.out.cell (p := ⟨b, 4, none⟩) hb0).trans l4
 have r5 := (B2.out.cell (p := ⟨b, 5, none⟩) hb0).trans l5
 go_wp2_with fail
 unfold LoopN
 go_wp2_with fail
 refine (bsL_one A c w.heap.size _ (HO.out.alloc _)).mono ?_
 rintro r w3 ⟨rfl, hb⟩
 have HO3 := hide (owns_below (HO.out.alloc _) hb)
 have q3B : Below w2.heap.size w2 w3 := qB hb
 have q3z := hb.size
 try simp at q3z
 have q3t : w2.heap.size ≤ w3.heap.size := (by omega)
 obtain ⟨q3s0, q3n0_0, q3n0_1, q3n0_2⟩ := kB w3.heap.size w2.heap.size
 obtain ⟨q3c0_0, q3c0_1, q3c0_2, q3f0⟩ := kC3 hb w2.heap.size
 simp [go_sem, *] at q3c0_0 q3c0_1 q3c0_2 q3f0
 have q3o := belO q3B
 clear hb q2o q2f0 q2c0_2 q2c0_1 q2c0_0 q2s0 q2z q2B
 have B3 := hide (B2.out.trans (q3B.mono (by omega)))
 go_wp2_with fail
 refine (insL_end w.heap.size A 1 c lvL1 _ (HO3.out.alloc _) (by omega) (by simp; omega) w3.heap.size 1 lvL2 rfl (news_new (cs := ⟨lvL2⟩) rfl) rfl).mono ?_
 rintro r w4 ⟨A2, c2, rfl, ho, hg, hv⟩
 have hb := below_grown (B := w.heap.size) hg (by simp; omega) (own_ge HO3.out)
 obtain ⟨g, rfl, _, hgs, hc, _⟩ := own_cells ho (by decide)
 have HC := hide hc
 have B4 := hide (B3.out.trans ((show Below w.heap.size w3 _ from by (repeat (first | (with_reducible first | exact Below.refl _ _ | assumption | refine Below.drew ?_) | ((with_reducible first | refine Below.alloc ?_ ?_ _ | refine Below.setCell ?_ ?_ _); rotate_left; (first | omega | (simp <;> omega)))))).trans hb))
 clear ho hg hv hb hc
 go_wp2_with fail
 unfold LoopN
 go_wp2_with fail
 go_ret
 exact ⟨g, c2, rfl, HC.out, hgs, B4.out⟩
end Go.Proofs.YtpghciiifnjimaaGreatDoor
namespace Go.Proofs.YtpghciiifnjimaaGreatDoor
set_option maxRecDepth 4000
set_option linter.unusedSimpArgs false
set_option linter.unusedVariables false
open Go.RowKit
theorem net1_any (a m : Int) (s : ByteArray) (w : World) : Calls Tryz.prog 130 #[.agg #[.int .i64 a, .int .i64 m, .string s]] w fun e w' => e = .returned (.bool (m == 0)) ∧ Below w.heap.size w w' := by
 go_enter Tryz.func130, Tryz.ntmps130
 go_wp2_with fail
 go_ret
 exact ⟨rfl, by (repeat (first | (with_reducible first | exact Below.refl _ _ | assumption | refine Below.drew ?_) | ((with_reducible first | refine Below.alloc ?_ ?_ _ | refine Below.setCell ?_ ?_ _); rotate_left; (first | omega | (simp <;> omega)))))⟩
set_option maxHeartbeats 4000000 in
theorem lv_ixL (g c : Nat) (w : World) (hg : g < w.heap.size) (hc : ∀ (j : Nat) (u : Value), (lvL1 ++ lvL2)[j]? = some u → w.cell? ⟨g, j, none⟩ = some u) :
  Calls Tryz.prog 180 #[.slice (some ⟨g, 0, none⟩) 2 c, .func (.func 130) #[] #[]] w fun e w' => e = .returned (.int .i64 (-1)) ∧ Below w.heap.size w w' := by
 have c0 := hc 0 _ rfl
 have c1 := hc 1 _ rfl
 have c2 := hc 2 _ rfl
 have c3 := hc 3 _ rfl
 have c4 := hc 4 _ rfl
 have c5 := hc 5 _ rfl
 clear hc
 go_enter Tryz.func180, Tryz.ntmps180
 go_wp2_with fail
 refine wp_loopN 3 ?_
 unfold LoopN
 go_wp2_with fail
 refine (net1_any _ _ _ _).mono ?_
 rintro r w1 ⟨rfl, hb⟩
 have B1 := hide hb
 have k3 := (hb.cell (p := ⟨g, 3, none⟩) hg).trans c3
 have k4 := (hb.cell (p := ⟨g, 4, none⟩) hg).trans c4
 have k5 := (hb.cell (p := ⟨g, 5, none⟩) hg).trans c5
 clear hb c0 c1 c2 c3 c4 c5
 go_wp2_with fail
 unfold LoopN
 go_wp2_with fail
 refine (net1_any _ _ _ _).mono ?_
 rintro r w2 ⟨rfl, hb⟩
 have B2 := hide (B1.out.trans (hb.mono B1.out.size))
 clear hb
 go_wp2_with fail
 unfold LoopN
 go_wp2_with fail
 go_ret
 exact ⟨rfl, B2.out⟩
theorem lv_delL (g c : Nat) (w : World) (hg : g < w.heap.size) (hc : ∀ (j : Nat) (u : Value), (lvL1 ++ lvL2)[j]? = some u → w.cell? ⟨g, j, none⟩ = some u) :
  Calls Tryz.prog 129 #[.slice (some ⟨g, 0, none⟩) 2 c, .func (.func 130) #[] #[]] w fun e w' => e = .returned (.slice (some ⟨g, 0, none⟩) 2 c) ∧ Below w.heap.size w w' := by
 have HC := hide hc
 clear hc
 go_enter Tryz.func129, Tryz.ntmps129
 go_wp2_with fail
 refine (lv_ixL g c _ hg HC.out).mono ?_
 rintro r w1 ⟨rfl, hb⟩
 go_wp2_with fail
 go_ret
 exact ⟨rfl, hb⟩
theorem lv_net (b : Nat) (w : World) (hl : w.heap[b]? = some (.cells lvLg 107 (0, 0))) : Calls Tryz.prog 73 #[.slice (some ⟨b, 0, none⟩) 2 2] w (ColRet w) := by
 have HL := hide hl
 clear hl
 go_enter Tryz.func73, Tryz.ntmps73
 go_wp2_with fail
 refine (lv_collect b _ HL.out).mono ?_
 rintro r w1 ⟨g, c, rfl, hc, hg, hb⟩
 have HC := hide hc
 have B1 := hide hb
 clear hc hb
 go_wp2_with fail
 refine (lv_delL g c _ hg HC.out).mono ?_
 rintro r w2 ⟨rfl, hb⟩
 have HC2 := hide (show ∀ (j : Nat) (u : Value), (lvL1 ++ lvL2)[j]? = some u → w2.cell? ⟨g, j, none⟩ = some u from fun j u h => (hb.cell (p := ⟨g, j, none⟩) hg).trans (HC.out j u h))
 have B2 := hide (B1.out.trans (hb.mono B1.out.size))
 have hg2 := Nat.lt_of_lt_of_le hg hb.size
 clear hb
 go_wp2_with fail
 go_ret
 exact ⟨g, c, rfl, HC2.out, hg2, B2.out⟩
theorem lv_bact (x y : Int) (w : World) : Calls Tryz.prog 132 #[.slice none 0 0, .int .i64 x, .int .i64 y] w fun e w' => e = .returned (.slice none 0 0) ∧ w' = w := by
 go_enter Tryz.func132, Tryz.ntmps132
 go_wp2_with fail
 refine wp_loopN 1 ?_
 unfold LoopN
 go_wp2_with fail
 go_ret
 exact ⟨rfl, rfl⟩
theorem lv_ixB (f : Value) (w : World) : Calls Tryz.prog 181 #[.slice none 0 0, f] w fun e w' => e = .returned (.int .i64 (-1)) ∧ w' = w := by
 go_enter Tryz.func181, Tryz.ntmps181
 go_wp2_with fail
 refine wp_loopN 1 ?_
 unfold LoopN
 go_wp2_with fail
 go_ret
 exact ⟨rfl, rfl⟩
theorem lv_conB (f : Value) (w : World) : Calls Tryz.prog 131 #[.slice none 0 0, f] w fun e w' => e = .returned (.bool false) ∧ w' = w := by
 go_enter Tryz.func131, Tryz.ntmps131
 go_wp2_with fail
 refine (lv_ixB f _).mono ?_
 rintro r w1 ⟨rfl, rfl⟩
 go_wp2_with fail
 go_ret
 exact ⟨rfl, rfl⟩
theorem lv_denies (x y z : Int) (w : World) : Calls Tryz.prog 75 #[.slice none 0 0, .int .i64 x, .int .i64 y, .int .i64 z] w fun e w' => e = .returned (.bool false) ∧ Below w.heap.size w w' := by
 have hmf : ∀ (fn : Fn) (first cap : Array Value) (w : World), (Instr.makeFunc fn first cap).run Tryz.prog w = .ok (.func fn first cap) w := fun _ _ _ _ => rfl
 go_enter Tryz.func75, Tryz.ntmps75
 go_wp2_with fail
 refine (lv_bact x y _).mono ?_
 rintro r w1 ⟨rfl, rfl⟩
 go_wp2_with fail
 refine (lv_conB _ _).mono ?_
 rintro r w1 ⟨rfl, rfl⟩
 go_wp2_with fail
 go_ret
 exact ⟨rfl, by (repeat (first | (with_reducible first | exact Below.refl _ _ | assumption | refine Below.drew ?_) | ((with_reducible first | refine Below.alloc ?_ ?_ _ | refine Below.setCell ?_ ?_ _); rotate_left; (first | omega | (simp <;> omega)))))⟩
end Go.Proofs.YtpghciiifnjimaaGreatDoor
namespace Go.Proofs.YtpghciiifnjimaaGreatDoor
set_option maxRecDepth 4000
set_option linter.unusedSimpArgs false
set_option linter.unusedVariables false
open Go.RowKit
/-- An account of the general ledger; a currency. -/
structure LGl where
 id : Int
 par : Int
 kd : Int
 nm : ByteArray
structure LCur where
 code : ByteArray
 dg : Int
abbrev glR (G : Nat → LGl) (k j : Nat) : Value := if j = 0 then .int .i64 (G k).id else if j = 1 then .int .i64 (G k).par else if j = 2 then .int .i64 (G k).kd else .string (G k).nm
abbrev curR (U : Nat → LCur) (k j : Nat) : Value := if j = 0 then .string (U k).code else .int .i64 (U k).dg
def hasG (G : Nat → LGl) (id : Int) : Nat → Bool
 | 0 => false
 | n + 1 => hasG G id n || (G n).id == id
def parG (G : Nat → LGl) (id : Int) : Nat → Bool
 | 0 => false
 | n + 1 => parG G id n || (G n).par == id
def hasU (U : Nat → LCur) (s : ByteArray) : Nat → Bool
 | 0 => false
 | n + 1 => hasU U s n || (U n).code.toList == s.toList
theorem hasG_mono {G : Nat → LGl} {id : Int} : ∀ {n k : Nat}, k < n → ((G k).id == id) = true → hasG G id n = true
 | n + 1, k, h, he => by
  unfold hasG
  rcases Nat.lt_succ_iff_lt_or_eq.1 h with h | rfl
  ·rw [hasG_mono h he]; rfl
  ·rw [he]; simp
theorem parG_mono {G : Nat → LGl} {id : Int} : ∀ {n k : Nat}, k < n → ((G k).par == id) = true → parG G id n = true
 | n + 1, k, h, he => by
  unfold parG
  rcases Nat.lt_succ_iff_lt_or_eq.1 h with h | rfl
  ·rw [parG_mono h he]; rfl
  ·rw [he]; simp
theorem hasU_mono {U : Nat → LCur} {s : ByteArray} : ∀ {n k : Nat}, k < n → ((U k).code.toList == s.toList) = true → hasU U s n = true
 | n + 1, k, h, he => by
  unfold hasU
  rcases Nat.lt_succ_iff_lt_or_eq.1 h with h | rfl
  ·rw [hasU_mono h he]; rfl
  ·rw [he]; simp
/-- A loop that has found nothing so far. -/
def NoI (p : Nat → Bool) (n : Nat) (W : World) (v : Value) (wr : World) : Prop := ∃ k : Nat, k ≤ n ∧ v = .int .i64 k ∧ p k = false ∧ Below W.heap.size W wr
set_option maxRecDepth 8000 in
set_option maxHeartbeats 4000000 in
theorem cfind_any (A : Option Addr) (n cap : Nat) (X : Nat → LGl) (x : Int) (hn : n ≤ 1000000) (w : World) (hr : RowS w A n 4 (glR X)) :
  Calls Tryz.prog 123 #[.slice A n cap, .int .i64 x] w fun r w' => (∃ z0 z1 z2 z3, r = .returned (.tuple #[.agg #[.int .i64 z0, .int .i64 z1, .int .i64 z2, .string z3], .bool (hasG X x n)])) ∧ Below w.heap.size w w' := by
 have HR := hide hr
 clear hr
 go_enter Tryz.func123, Tryz.ntmps123
 go_wp2_with fail
 go_loopw [10] (fun v wr => NoI (hasG X x) n (w.alloc (.cells #[.int .i64 0, .int .i64 0, .int .i64 0, .string ⟨#[]⟩] 148)) v wr) (fun v _ => n - (intOf v).toNat)
 case atStart => exact ⟨0, by omega, rfl, rfl, Below.refl _ _⟩
 case round =>
  obtain ⟨k, hkn, rfl, hno, hb⟩ := hrel
  have HNO := hide hno
  have H0 := hide hb
  clear hno
  have q1B : Below w.heap.size w wr := qB hb
  have q1z := hb.size
  try simp at q1z
  have q1t : w.heap.size ≤ wr.heap.size := (by omega)
  obtain ⟨q1s0, q1n0_0, q1n0_1, q1n0_2⟩ := kB wr.heap.size w.heap.size
  obtain ⟨q1c0_0, q1c0_1, q1c0_2, q1c0_3, q1f0⟩ := kC4 hb w.heap.size
  simp [go_sem, *] at q1c0_0 q1c0_1 q1c0_2 q1c0_3 q1f0
  have q1o := belO q1B
  clear hb
  have BL := hide q1B
  by_cases hlt : k < n
  ·have hm : (k : Int) < n := by omega
   have hk0 : (0 : Int) ≤ k := by omega
   have HLT := hide hlt
   obtain ⟨b, off, rfl, hbl, hc⟩ := (HR.out.below q1B).at hlt
   have c0 : wr.cell? ⟨b, off + k * 4, none⟩ = some (.int .i64 (X k).id) := hc 0 (by decide)
   have c1 : wr.cell? ⟨b, off + k * 4 + 1, none⟩ = some (.int .i64 (X k).par) := hc 1 (by decide)
   have c2 : wr.cell? ⟨b, off + k * 4 + 2, none⟩ = some (.int .i64 (X k).kd) := hc 2 (by decide)
   have c3 : wr.cell? ⟨b, off + k * 4 + 3, none⟩ = some (.string (X k).nm) := hc 3 (by decide)
   clear hc hlt hkn
   cases he : ((X k).id == x) with
   | true =>
    have HE := hide (show hasG X x n = true from hasG_mono HLT.out he)
    go_wp2_with fail
    refine bodyPost_ret (by simp [results, Tryz.results123, go_sem, *] <;> rfl) rfl ?_
    exact ⟨⟨_, _, _, _, by rw [HE.out]⟩, by (repeat (first | (with_reducible first | exact Below.refl _ _ | assumption | refine Below.drew ?_) | ((with_reducible first | refine Below.alloc ?_ ?_ _ | refine Below.setCell ?_ ?_ _); rotate_left; (first | omega | (simp <;> omega)))))⟩
   | false =>
    have HE := hide (show hasG X x (k + 1) = false from by unfold hasG; rw [HNO.out, he]; rfl)
    go_wp2_with fail
    go_roundw
    case rel => exact ⟨k + 1, HLT.out, by go_num, HE.out, H0.out.trans belT⟩
    case measure => have := HLT.out; simp [intOf]; omega
  ·obtain rfl : k = n := by omega
   clear hlt hkn
   go_wp2_with fail
   refine bodyPost_ret (by simp [results, Tryz.results123, go_sem, *] <;> rfl) rfl ?_
   exact ⟨⟨_, _, _, _, by rw [HNO.out]⟩, by (repeat (first | (with_reducible first | exact Below.refl _ _ | assumption | refine Below.drew ?_) | ((with_reducible first | refine Below.alloc ?_ ?_ _ | refine Below.setCell ?_ ?_ _); rotate_left; (first | omega | (simp <;> omega)))))⟩
set_option maxRecDepth 8000 in
set_option maxHeartbeats 4000000 in
theorem mfind_any (A : Option Addr) (n cap : Nat) (X : Nat → LCur) (x : ByteArray) (hn : n ≤ 1000000) (w : World) (hr : RowS w A n 2 (curR X)) :
  Calls Tryz.prog 126 #[.slice A n cap, .string x] w fun r w' => (∃ z0 z1, r = .returned (.tuple #[.agg #[.string z0, .int .i64 z1], .bool (hasU X x n)])) ∧ Below w.heap.size w w' := by
 have HR := hide hr
 clear hr
 go_enter Tryz.func126, Tryz.ntmps126
 go_wp2_with fail
 go_loopw [10] (fun v wr => NoI (hasU X x) n (w.alloc (.cells #[.string ⟨#[]⟩, .int .i64 0] 145)) v wr) (fun v _ => n - (intOf v).toNat)
 case atStart => exact ⟨0, by omega, rfl, rfl, Below.refl _ _⟩
 case round =>
  obtain ⟨k, hkn, rfl, hno, hb⟩ := hrel
  have HNO := hide hno
  have H0 := hide hb
  clear hno
  have q1B : Below w.heap.size w wr := qB hb
  have q1z := hb.size
  try simp at q1z
  have q1t : w.heap.size ≤ wr.heap.size := (by omega)
  obtain ⟨q1s0, q1n0_0, q1n0_1, q1n0_2⟩ := kB wr.heap.size w.heap.size
  obtain ⟨q1c0_0, q1c0_1, q1f0⟩ := kC2 hb w.heap.size
  simp [go_sem, *] at q1c0_0 q1c0_1 q1f0
  have q1o := belO q1B
  clear hb
  have BL := hide q1B
  by_cases hlt : k < n
  ·have hm : (k : Int) < n := by omega
   have hk0 : (0 : Int) ≤ k := by omega
   have HLT := hide hlt
   obtain ⟨b, off, rfl, hbl, hc⟩ := (HR.out.below q1B).at hlt
   have c0 : wr.cell? ⟨b, off + k * 2, none⟩ = some (.string (X k).code) := hc 0 (by decide)
   have c1 : wr.cell? ⟨b, off + k * 2 + 1, none⟩ = some (.int .i64 (X k).dg) := hc 1 (by decide)
   clear hc hlt hkn
   cases he : ((X k).code.toList == x.toList) with
   | true =>
    have HE := hide (show hasU X x n = true from hasU_mono HLT.out he)
    go_wp2_with fail
    refine bodyPost_ret (by simp [results, Tryz.results126, go_sem, *] <;> rfl) rfl ?_
    exact ⟨⟨_, _, by rw [HE.out]⟩, by (repeat (first | (with_reducible first | exact Below.refl _ _ | assumption | refine Below.drew ?_) | ((with_reducible first | refine Below.alloc ?_ ?_ _ | refine Below.setCell ?_ ?_ _); rotate_left; (first | omega | (simp <;> omega)))))⟩
   | false =>
    have HE := hide (show hasU X x (k + 1) = false from by unfold hasU; rw [HNO.out, he]; rfl)
    go_wp2_with fail
    go_roundw
    case rel => exact ⟨k + 1, HLT.out, by go_num, HE.out, H0.out.trans belT⟩
    case measure => have := HLT.out; simp [intOf]; omega
  ·obtain rfl : k = n := by omega
   clear hlt hkn
   go_wp2_with fail
   refine bodyPost_ret (by simp [results, Tryz.results126, go_sem, *] <;> rfl) rfl ?_
   exact ⟨⟨_, _, by rw [HNO.out]⟩, by (repeat (first | (with_reducible first | exact Below.refl _ _ | assumption | refine Below.drew ?_) | ((with_reducible first | refine Below.alloc ?_ ?_ _ | refine Below.setCell ?_ ?_ _); rotate_left; (first | omega | (simp <;> omega)))))⟩
theorem ledger1_any (g : LGl) (id : Int) (b : Nat) (w : World) (hb : b < w.heap.size) (h0 : w.cell? ⟨b, 0, none⟩ = some (.int .i64 id)) :
  Calls Tryz.prog 125 #[.agg #[.int .i64 g.id, .int .i64 g.par, .int .i64 g.kd, .string g.nm], .pointer (some ⟨b, 0, none⟩)] w fun e w' => e = .returned (.bool (g.par == id)) ∧ Below w.heap.size w w' := by
 have hn : ¬ w.heap.size = b := by omega
 go_enter Tryz.func125, Tryz.ntmps125
 go_wp2_with fail
 go_ret
 exact ⟨rfl, by (repeat (first | (with_reducible first | exact Below.refl _ _ | assumption | refine Below.drew ?_) | ((with_reducible first | refine Below.alloc ?_ ?_ _ | refine Below.setCell ?_ ?_ _); rotate_left; (first | omega | (simp <;> omega)))))⟩
set_option maxHeartbeats 4000000 in
theorem ixG_any (A : Option Addr) (n cap : Nat) (X : Nat → LGl) (id : Int) (p : Nat) (hn : n ≤ 1000000) (w : World) (hr : RowS w A n 4 (glR X)) (hp : p < w.heap.size) (h0 : w.cell? ⟨p, 0, none⟩ = some (.int .i64 id)) :
  Calls Tryz.prog 176 #[.slice A n cap, .func (.func 125) #[] #[.pointer (some ⟨p, 0, none⟩)]] w fun e w' => (∃ i, e = .returned (.int .i64 i) ∧ decide (0 ≤ i) = parG X id n) ∧ Below w.heap.size w w' := by
 have HR := hide hr
 have HP := hide h0
 clear hr h0
 go_enter Tryz.func176, Tryz.ntmps176
 go_wp2_with fail
 go_loopw [8] (fun v wr => NoI (parG X id) n w v wr) (fun v _ => n - (intOf v).toNat)
 case atStart => exact ⟨0, by omega, rfl, rfl, Below.refl _ _⟩
 case round =>
  obtain ⟨k, hkn, rfl, hno, hb⟩ := hrel
  have HNO := hide hno
  have H0 := hide hb
  have hz := hb.size
  clear hno
  by_cases hlt : k < n
  ·have hm : (k : Int) < n := by omega
   have hk0 : (0 : Int) ≤ k := by omega
   have HLT := hide hlt
   obtain ⟨b, off, rfl, hbl, hc⟩ := (HR.out.below hb).at hlt
   have c0 : wr.cell? ⟨b, off + k * 4, none⟩ = some (.int .i64 (X k).id) := hc 0 (by decide)
   have c1 : wr.cell? ⟨b, off + k * 4 + 1, none⟩ = some (.int .i64 (X k).par) := hc 1 (by decide)
   have c2 : wr.cell? ⟨b, off + k * 4 + 2, none⟩ = some (.int .i64 (X k).kd) := hc 2 (by decide)
   have c3 : wr.cell? ⟨b, off + k * 4 + 3, none⟩ = some (.string (X k).nm) := hc 3 (by decide)
   clear hc hlt hkn
   go_wp2_with fail
   refine (ledger1_any (X k) id p _ (by omega) ((hb.cell (p := ⟨p, 0, none⟩) hp).trans HP.out)).mono ?_
   rintro r w1 ⟨rfl, hb1⟩
   have B1 := hide (H0.out.trans (hb1.mono hz))
   clear hb1 hb
   cases he : ((X k).par == id) with
   | true =>
    have HE := hide (show parG X id n = true from parG_mono HLT.out he)
    go_wp2_with fail
    go_ret
    exact ⟨⟨_, rfl, by rw [HE.out]; exact decide_eq_true (by simp)⟩, B1.out⟩
   | false =>
    have HE := hide (show parG X id (k + 1) = false from by unfold parG; rw [HNO.out, he]; rfl)
    go_wp2_with fail
    go_roundw
    case rel => exact ⟨k + 1, HLT.out, by go_num, HE.out, B1.out⟩
    case measure => have := HLT.out; simp [intOf]; omega
  ·obtain rfl : k = n := by omega
   clear hlt hkn
   go_wp2_with fail
   go_ret
   exact ⟨⟨_, rfl, by rw [HNO.out]; rfl⟩, H0.out⟩
theorem conG_any (A : Option Addr) (n cap : Nat) (X : Nat → LGl) (id : Int) (p : Nat) (hn : n ≤ 1000000) (w : World) (hr : RowS w A n 4 (glR X)) (hp : p < w.heap.size) (h0 : w.cell? ⟨p, 0, none⟩ = some (.int .i64 id)) :
  Calls Tryz.prog 124 #[.slice A n cap, .func (.func 125) #[] #[.pointer (some ⟨p, 0, none⟩)]] w fun e w' => e = .returned (.bool (parG X id n)) ∧ Below w.heap.size w w' := by
 have H := hide (ixG_any A n cap X id p hn w hr hp h0)
 clear hr h0
 go_enter Tryz.func124, Tryz.ntmps124
 go_wp2_with fail
 refine H.out.mono ?_
 rintro e w1 ⟨⟨i, rfl, hi⟩, hb⟩
 by_cases h : 0 ≤ i
 ·have h2 : decide (0 ≤ i) = true := decide_eq_true h
  have HI := hide (show parG X id n = true from by rw [← hi, h2])
  clear hi
  go_wp2_with fail
  go_ret
  exact ⟨by rw [HI.out]; first | rfl | simp [*], hb⟩
 ·have h2 : decide (0 ≤ i) = false := decide_eq_false h
  have h3 : i < 0 := by omega
  have HI := hide (show parG X id n = false from by rw [← hi, h2])
  clear h hi
  go_wp2_with fail
  go_ret
  exact ⟨by rw [HI.out]; first | rfl | simp [*], hb⟩
end Go.Proofs.YtpghciiifnjimaaGreatDoor
