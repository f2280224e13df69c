/- Texts laid together: TvT TvU. -/
import Derived.Test.YtpghciiifnjimaaGreatDoorXTvS
import Derived.Test.YtpghciiifnjimaaGreatDoorXTrM
import Derived.Deep.MidRow
import Derived.Test.YtpghciiifnjimaaGreatDoorXK0
namespace Go.Proofs.YtpghciiifnjimaaGreatDoor
set_option maxRecDepth 4000
set_option linter.unusedSimpArgs false
set_option linter.unusedVariables false
open Go.RowKit
def lgL (p : LLeg) : List Value := [.int .i64 p.ac, .int .i64 p.am, .string p.cu]
def lgs (l : List LLeg) : List Value := l.flatMap lgL
theorem lgs_len (l : List LLeg) : (lgs l).length = l.length * 3 := flatC_len (f := lgL) (sz := 3) (fun _ => rfl) l
theorem lgs_ones (l : List LLeg) : ∀ u ∈ lgs l, u.oneCell' = true := fun u hu => by
 simp only [lgs, List.mem_flatMap, lgL] at hu
 obtain ⟨p, _, hp⟩ := hu
 simp at hp
 rcases hp with rfl | rfl | rfl <;> rfl
theorem lgs_rng (M : Nat → LLeg) (m : Nat) : ∀ k j, k < m → j < 3 → (lgs ((List.range m).map M))[k * 3 + j]? = some (legC (M k) j) := fun k j hk hj => by
 have h := flatC_at (sz := 3) (f := lgL) (fun _ => rfl) ((List.range m).map M) k j (by simpa using hk) hj
 show (((List.range m).map M).flatMap lgL)[k * 3 + j]? = _
 rw [h]
 have e : ((List.range m).map M)[k]'(by simpa using hk) = M k := by simp
 rw [e]
 match j, hj with
 | 0, _ => rfl
 | 1, _ => rfl
 | 2, _ => rfl
theorem own_legs {w : World} {base : Nat} {t : TypeId} {A : Option Addr} {n c : Nat} {l : Nat → LLeg} (h : w.ownsRow base t 3 (.slice A n c) n (lgs ((List.range n).map l))) : RowLeg w A n l := fun hn => by
 obtain ⟨g, rfl, _, hg, hc, _⟩ := own_cells h hn
 exact ⟨g, 0, rfl, hg, fun k j hk hj => by rw [Nat.zero_add]; exact hc _ _ (lgs_rng l n k j hk hj)⟩
theorem own_emptyT {w : World} {base g size : Nat} {e : TypeId} (hg : g = w.heap.size) (hb : base ≤ w.heap.size) : (w.alloc (.cells #[] e)).ownsRow base e size (.slice (some ⟨g, 0, none⟩) 0 0) 0 [] := by
 subst hg
 exact ⟨by simp, .inr ⟨w.heap.size, 0, #[], rfl, hb, blk_new rfl, Nat.le_refl _, by simp [maxLen], by simp, by simp⟩⟩
/-- A copy of legs. -/
def CloL (l : Nat → LLeg) (n : Nat) (w : World) (r : Ending) (w' : World) : Prop := ∃ A cap, r = .returned (.slice A n cap) ∧ RowLeg w' A n l ∧ (∀ b o q, A = some ⟨b, o, q⟩ → w.heap.size ≤ b) ∧ Below w.heap.size w w'
theorem RowLeg.set {w : World} {A : Option Addr} {n g j : Nat} {l : Nat → LLeg} {v : Value} (h : RowLeg w A n l) (hA : ∀ b o q, A = some ⟨b, o, q⟩ → b ≠ g) : RowLeg (w.setCell ⟨g, j, none⟩ v) A n l := fun hn => by
 obtain ⟨b, off, e, hb, hc⟩ := h hn
 have hne := hA _ _ _ e
 exact ⟨b, off, e, by simpa using hb, fun k i hk hi => by rw [World.cell?_setCell_other _ _ _ _ (by simp [hne])]; exact hc k i hk hi⟩
theorem RowLeg.sets {A : Option Addr} {n g : Nat} {l : Nat → LLeg} (hA : ∀ b o q, A = some ⟨b, o, q⟩ → b ≠ g) : ∀ (vs : List Value) (o : Nat) (w : World), RowLeg w A n l → RowLeg (w.setCells g o vs) A n l
 | [], _, _, h => h
 | _ :: r, o, _, h => RowLeg.sets hA r (o + 1) _ (h.set hA)
set_option maxHeartbeats 2000000 in
theorem clo_legs (A : Option Addr) (n c : Nat) (l : Nat → LLeg) (hn : n ≤ 1000000) (w : World) (hr : RowLeg w A n l) :
  Calls Tryz.prog 137 #[.slice A n c] w (CloL l n w) := by
 cases A with
 | none =>
  have h0 : n = 0 := by
   rcases Nat.eq_zero_or_pos n with h | h
   ·exact h
   ·obtain ⟨_, _, e, _⟩ := hr h; cases e
  subst h0
  have he : ∀ w : World, (binOp .eql 50 (.slice none 0 c) (.slice none 0 0)).run Tryz.prog w = .ok (.bool true) w := fun _ => rfl
  go_enter Tryz.func137, Tryz.ntmps137
  go_wp2_with fail
  go_ret
  exact ⟨none, 0, rfl, fun h => absurd h (by decide), fun _ _ _ e => (by cases e), Below.refl _ _⟩
 | some ad =>
  obtain ⟨i0, hi0, hz00, hz1, hz2⟩ := info_parts infL
  have HS := hide hr
  clear hr
  have he : ∀ w : World, (binOp .eql 50 (.slice (some ad) n c) (.slice none 0 0)).run Tryz.prog w = .ok (.bool false) w := fun _ => rfl
  go_enter Tryz.func137, Tryz.ntmps137
  go_wp2_with (at_builtin; go_loud (refine wpList_append_rowS _ rfl (.tmp 5) (.tmp 6) 50 rfl w.heap.size 107 i0 (.agg #[.int .i64 0, .int .i64 0, .string ⟨#[]⟩]) 3 32 Tryz.underlying50 hi0 hz00 hz1 hz2 rfl (by decide) _ 0 [] rfl (own_emptyT rfl (Nat.le_refl _)) (some ad) n c rfl (fun k => legC (l k)) (RowS.below HS.out belT) (lgs ((List.range n).map l)) (by rw [lgs_len]; simp) (lgs_rng l n) (lgs_ones _) (by simp only [maxLen]; omega) (by omega) (by simp) ?_); intro A1 c1 w3 ho hg hv)
  have hb := below_grown (B := w.heap.size) hg (by simp) (fun k hk => Nat.le_of_eq (Option.some.inj hk))
  simp only [List.nil_append, Nat.zero_add] at ho
  go_ret
  exact ⟨A1, c1, by simp, own_legs ho, fun b o q e => by subst e; exact own_ge ho b rfl, Below.trans belT hb⟩
def SealRet (e : LEnt) (n : Nat) (w : World) (r : Ending) (w' : World) : Prop :=
 ∃ A c z, r = .returned (entA { e with id := (n : Int) + 1, lA := A, lc := c, ch := z }) ∧ RowLeg w' A e.ln e.legs ∧ (∀ b o q, A = some ⟨b, o, q⟩ → w.heap.size ≤ b) ∧ 0 ≤ z ∧ z < 18446744073709551616 ∧ Below w.heap.size w w'
set_option maxRecDepth 8000 in
set_option maxHeartbeats 8000000 in
theorem sealed_any (e : LEnt) (hS : EntS e) (n : Nat) (hn : n ≤ 1000000) (p : Int) (p0 : 0 ≤ p) (p1 : p < 18446744073709551616) (w : World) (hl : RowLeg w e.lA e.ln e.legs) (ht : Tab w) :
  Calls Tryz.prog 78 #[entA e, .int .i64 n, .int .u64 p] w (SealRet e n w) := by
 have HS := hide hS
 obtain ⟨id, bk, va, ki, au, pe, key, tx, lA, ln, lc, ch, l⟩ := e
 have HP := hide (And.intro p0 p1)
 have HL := hide hl
 have HT := hide ht
 have hln : ln ≤ 12 := hS.ln
 have hnw : IntKind.i64.wrap ((n : Int) + 1) = (n : Int) + 1 := by rw [i64w]; unfold wrap64; omega
 clear hS hl ht p0 p1
 dsimp only [entA]
 go_enter Tryz.func78, Tryz.ntmps78
 go_wp2_with fail
 refine (clo_legs lA ln lc l (by omega) _ (RowLeg.below HL.out belT)).mono ?_
 rintro r w1 ⟨A, c, rfl, ho, hA, hb⟩
 have HR := hide ho
 have HA := hide (show ∀ b o q, A = some ⟨b, o, q⟩ → w.heap.size + 2 ≤ b from fun b o q e => by have := hA b o q e; simpa using this)
 clear ho hA
 have q1B : Below w.heap.size w w1 := qB hb
 have q1z := hb.size
 try simp at q1z
 have q1t : w.heap.size ≤ w1.heap.size := (by omega)
 obtain ⟨q1s0, q1n0_0, q1n0_1, q1n0_2⟩ := kB w1.heap.size w.heap.size
 obtain ⟨q1c0_0, q1c0_1, q1c0_2, q1c0_3, q1c0_4, q1c0_5, q1c0_6, q1c0_7, q1c0_8, q1c0_9, q1f0⟩ := kC10 hb w.heap.size
 simp [go_sem, *] at q1c0_0 q1c0_1 q1c0_2 q1c0_3 q1c0_4 q1c0_5 q1c0_6 q1c0_7 q1c0_8 q1c0_9 q1f0
 obtain ⟨q1s1, q1n1_0, q1n1_1, q1n1_2⟩ := kB w1.heap.size (w.heap.size + 1)
 obtain ⟨q1c1_0, q1c1_1, q1c1_2, q1c1_3, q1c1_4, q1c1_5, q1c1_6, q1c1_7, q1c1_8, q1c1_9, q1f1⟩ := kC10 hb (w.heap.size + 1)
 simp [go_sem, *] at q1c1_0 q1c1_1 q1c1_2 q1c1_3 q1c1_4 q1c1_5 q1c1_6 q1c1_7 q1c1_8 q1c1_9 q1f1
 have q1o := belO q1B
 clear hb
 have B1 := hide q1B
 have HR2 := hide (show RowLeg (w1.setCell ⟨w.heap.size, 8, none⟩ (.slice A ln c)) A ln l from HR.out.set fun b o q e => by have := HA.out b o q e; omega)
 go_wp2_with fail
 refine (enc_any ⟨(n : Int) + 1, bk, va, ki, au, pe, key, tx, A, ln, c, ch, l⟩ ?_ _ HR2.out (HT.out.below (B1.out.trans belT))).mono ?_
 ·have h := HS.out
  exact ⟨h.ln, h.key, h.tx, h.cu, h.am, by unfold IIn; dsimp only; omega, h.bk, h.va, h.ki, h.au, h.pe⟩
 rintro r w2 ⟨s, hs, rfl, hb⟩
 have HR3 := hide (HR2.out.below hb)
 have q2B : Below w.heap.size w w2 := qB hb
 have q2z := hb.size
 try simp at q2z
 have q2t : w.heap.size ≤ w2.heap.size := (by omega)
 obtain ⟨q2s0, q2n0_0, q2n0_1, q2n0_2⟩ := kB w2.heap.size w.heap.size
 obtain ⟨q2c0_0, q2c0_1, q2c0_2, q2c0_3, q2c0_4, q2c0_5, q2c0_6, q2c0_7, q2c0_8, q2c0_9, q2f0⟩ := kC10 hb w.heap.size
 simp [go_sem, *] at q2c0_0 q2c0_1 q2c0_2 q2c0_3 q2c0_4 q2c0_5 q2c0_6 q2c0_7 q2c0_8 q2c0_9 q2f0
 obtain ⟨q2s1, q2n1_0, q2n1_1, q2n1_2⟩ := kB w2.heap.size (w.heap.size + 1)
 obtain ⟨q2c1_0, q2c1_1, q2c1_2, q2c1_3, q2c1_4, q2c1_5, q2c1_6, q2c1_7, q2c1_8, q2c1_9, q2f1⟩ := kC10 hb (w.heap.size + 1)
 simp [go_sem, *] at q2c1_0 q2c1_1 q2c1_2 q2c1_3 q2c1_4 q2c1_5 q2c1_6 q2c1_7 q2c1_8 q2c1_9 q2f1
 have q2o := belO q2B
 clear hb q1o q1f1 q1c1_9 q1c1_8 q1c1_7 q1c1_6 q1c1_5 q1c1_4 q1c1_3 q1c1_2 q1c1_1 q1c1_0 q1s1 q1f0 q1c0_9 q1c0_8 q1c0_7 q1c0_6 q1c0_5 q1c0_4 q1c0_3 q1c0_2 q1c0_1 q1c0_0 q1s0 q1z q1B
 have B2 := hide q2B
 go_wp2_with fail
 refine (chain_any p HP.out.1 HP.out.2 s (by omega) _).mono ?_
 rintro r w3 ⟨⟨z, rfl, z0, z1⟩, hb⟩
 have HZ := hide (And.intro z0 z1)
 have HR4 := hide (HR3.out.below hb)
 clear z0 z1
 have q3B : Below w2.heap.size w2 w3 := qB hb
 have q3z := hb.size
 try simp at q3z
 have q3t : w2.heap.size ≤ w3.heap.size := (by omega)
 obtain ⟨q3s0, q3n0_0, q3n0_1, q3n0_2⟩ := kB w3.heap.size w.heap.size
 obtain ⟨q3c0_0, q3c0_1, q3c0_2, q3c0_3, q3c0_4, q3c0_5, q3c0_6, q3c0_7, q3c0_8, q3c0_9, q3f0⟩ := kC10 hb w.heap.size
 simp [go_sem, *] at q3c0_0 q3c0_1 q3c0_2 q3c0_3 q3c0_4 q3c0_5 q3c0_6 q3c0_7 q3c0_8 q3c0_9 q3f0
 obtain ⟨q3s1, q3n1_0, q3n1_1, q3n1_2⟩ := kB w3.heap.size (w.heap.size + 1)
 obtain ⟨q3c1_0, q3c1_1, q3c1_2, q3c1_3, q3c1_4, q3c1_5, q3c1_6, q3c1_7, q3c1_8, q3c1_9, q3f1⟩ := kC10 hb (w.heap.size + 1)
 simp [go_sem, *] at q3c1_0 q3c1_1 q3c1_2 q3c1_3 q3c1_4 q3c1_5 q3c1_6 q3c1_7 q3c1_8 q3c1_9 q3f1
 have q3o := belO q3B
 clear hb q2o q2f1 q2c1_9 q2c1_8 q2c1_7 q2c1_6 q2c1_5 q2c1_4 q2c1_3 q2c1_2 q2c1_1 q2c1_0 q2s1 q2f0 q2c0_9 q2c0_8 q2c0_7 q2c0_6 q2c0_5 q2c0_4 q2c0_3 q2c0_2 q2c0_1 q2c0_0 q2s0 q2z q2B
 have B3 := hide (B2.out.trans (q3B.mono (by omega)))
 go_wp2_with fail
 refine bodyPost_ret (by simp [results, Tryz.results78, go_sem, *] <;> rfl) rfl ?_
 refine ⟨A, c, z, rfl, ?_, fun b o q e => by have := HA.out b o q e; omega, HZ.out.1, HZ.out.2, B3.out.trans belT⟩
 have n0 : ∀ b o q, A = some ⟨b, o, q⟩ → b ≠ w.heap.size := fun b o q e => by have := HA.out b o q e; omega
 have n1 : ∀ b o q, A = some ⟨b, o, q⟩ → b ≠ w.heap.size + 1 := fun b o q e => by have := HA.out b o q e; omega
 iterate 10 (refine RowLeg.set ?_ n1)
 exact RowLeg.set HR4.out n0
end Go.Proofs.YtpghciiifnjimaaGreatDoor
namespace Go.Proofs.YtpghciiifnjimaaGreatDoor
set_option maxRecDepth 4000
set_option linter.unusedSimpArgs false
set_option linter.unusedVariables false
open Go.RowKit
theorem own_setT {w : World} {base : Nat} {e : TypeId} {s g n c : Nat} {xs : List Value} (h : w.ownsRow base e s (.slice (some ⟨g, 0, none⟩) n c) n xs) (j : Nat) (u : Value) : (w.setCell ⟨g, j, none⟩ u).ownsRow base e s (.slice (some ⟨g, 0, none⟩) n c) n (xs.set j u) := by
 refine ⟨by rw [List.length_set]; exact h.1, ?_⟩
 rcases h.2 with ⟨e2, h0⟩ | ⟨g', cap, cur, hv, hb, hh, h3, h4, h5, h6⟩
 ·cases e2
 ·injection hv with e1 _ e3
  injection e1 with e1
  injection e1 with e1
  subst e1 e3
  refine .inr ⟨g, c, cur.setIfInBounds j u, rfl, hb, blk_setCell hh, h3, h4, by simp [h5], ?_⟩
  rw [Array.toList_setIfInBounds, List.take_set, h6]
theorem own_thereT {w : World} {base : Nat} {e : TypeId} {s g n c : Nat} {xs : List Value} (h : w.ownsRow base e s (.slice (some ⟨g, 0, none⟩) n c) n xs) {o k : Nat} (hk : o + k ≤ n * s) : w.there g o k := by
 rcases h.2 with ⟨e2, h0⟩ | ⟨g', cap, cur, hv, hb, hh, h3, h4, h5, h6⟩
 ·cases e2
 ·injection hv with e1 _ e3
  injection e1 with e1
  injection e1 with e1
  subst e1 e3
  intro j hj
  have hc : n * s ≤ c * s := Nat.mul_le_mul_right s h3
  refine ⟨?_, free_of_cells hh _⟩
  rw [cell_of_cells hh, Array.getElem?_eq_getElem (by omega)]
  rfl
theorem own_setsT {base : Nat} {e : TypeId} {s g n c : Nat} : ∀ {vs old p : List Value} {o : Nat} {w : World}, w.ownsRow base e s (.slice (some ⟨g, 0, none⟩) n c) n (p ++ old) → o = p.length → vs.length = old.length → (w.setCells g o vs).ownsRow base e s (.slice (some ⟨g, 0, none⟩) n c) n (p ++ vs)
 | [], [], _, _, _, h, _, _ => h
 | [], _ :: _, _, _, _, _, _, hl => by cases hl
 | _ :: _, [], _, _, _, _, _, hl => by cases hl
 | v :: r, u :: old, p, o, w, h, ho, hl => by
  have h1 := own_setT h o v
  have e1 : (p ++ u :: old).set o v = (p ++ [v]) ++ old := by
   rw [ho]
   simp [List.set_append]
  rw [e1] at h1
  have h2 := own_setsT (vs := r) (old := old) (p := p ++ [v]) (o := o + 1) h1 (by rw [List.length_append, ho]; rfl) (by simpa using hl)
  rw [List.append_assoc] at h2
  exact h2
theorem below_setsT {B g : Nat} {a : World} (hg : B ≤ g) : ∀ {vs : List Value} {o : Nat} {w : World}, Below B a w → Below B a (w.setCells g o vs)
 | [], _, _, h => h
 | v :: r, o, w, h => below_setsT hg (vs := r) (o := o + 1) (Below.setCell h (p := ⟨g, o, none⟩) hg v)

def lstC (E : Nat → LEnt) : Nat → Int
 | 0 => 0
 | m + 1 => (E m).ch
def lstD (E : Nat → LEnt) : Nat → Int
 | 0 => -1
 | m + 1 => (E m).bk
set_option maxHeartbeats 4000000 in
theorem last_any (A : Option Addr) (n cap : Nat) (E : Nat → LEnt) (hn : n ≤ 1000000) (w : World) (hr : Jrn w A n E) :
  Calls Tryz.prog 77 #[.slice A n cap] w fun r w' => r = .returned (.tuple #[.int .u64 (lstC E n), .int .i64 (lstD E n)]) ∧ Below w.heap.size w w' := by
 cases n with
 | zero =>
  go_enter Tryz.func77, Tryz.ntmps77
  go_wp2_with fail
  go_ret2
  exact ⟨rfl, Below.refl _ _⟩
 | succ m =>
  obtain ⟨b, off, rfl, hbl, c0, c1, c2, c3, c4, c5, c6, c7, c8, c9⟩ := hr.row.at (show m < m + 1 by omega)
  obtain ⟨x, hx⟩ : ∃ x, x = E m := ⟨_, rfl⟩
  rw [← hx] at c0 c1 c2 c3 c4 c5 c6 c7 c8 c9
  have HX := hide (show lstC E (m + 1) = x.ch ∧ lstD E (m + 1) = x.bk from by rw [hx]; exact ⟨rfl, rfl⟩)
  have m1 : (m : Int) + 1 ≠ 0 := by omega
  have m2 : ((m : Int) + 1 == 0) = false := by simpa using m1
  have m3 : IntKind.i64.wrap (m : Int) = m := by rw [i64w]; unfold wrap64; omega
  have m4 : (0 : Int) ≤ m := by omega
  have m5 : (m : Int) < (m : Int) + 1 := by omega
  clear hr hx m1
  go_enter Tryz.func77, Tryz.ntmps77
  go_wp2_with fail
  refine ord_start (SB (w.heap.size) [] _) 16 (preB 0 16) (by kernel_rfl) (by kernel_rfl) (by kernel_rfl) SB.refl.drew (fun hHeld => ?_)
  refine oS (i := 0) (preB 1 15) rfl hHeld ?_
  (try simp only [Act.put, putS])
  refine oS (i := 1) (preB 2 14) rfl hHeld ?_
  (try simp only [Act.put, putS])
  refine oS (i := 2) (preB 3 13) rfl hHeld ?_
  (try simp only [Act.put, putS])
  refine oS (i := 3) (preB 4 12) rfl hHeld ?_
  (try simp only [Act.put, putS])
  refine oS (i := 4) (preB 5 11) rfl hHeld ?_
  (try simp only [Act.put, putS])
  refine oS (i := 5) (preB 6 10) rfl hHeld ?_
  (try simp only [Act.put, putS])
  refine oS (i := 6) (preB 7 9) rfl hHeld ?_
  (try simp only [Act.put, putS])
  refine oS (i := 7) (preB 8 8) rfl hHeld ?_
  (try simp only [Act.put, putS])
  refine oS (i := 8) (preB 9 7) rfl hHeld ?_
  (try simp only [Act.put, putS])
  refine oS (i := 9) (preB 10 6) rfl hHeld ?_
  (try simp only [Act.put, putS])
  refine oS (i := 10) (preB 11 5) rfl hHeld ?_
  (try simp only [Act.put, putS])
  refine oS (i := 11) (preB 12 4) rfl hHeld ?_
  (try simp only [Act.put, putS])
  refine oS (i := 12) (preB 13 3) rfl hHeld ?_
  (try simp only [Act.put, putS])
  refine oS (i := 13) (preB 14 2) rfl hHeld ?_
  (try simp only [Act.put, putS])
  refine oS (i := 14) (preB 15 1) rfl hHeld ?_
  (try simp only [Act.put, putS])
  refine oS (i := 15) (preB 16 0) rfl hHeld ?_
  (try simp only [Act.put, putS])
  refine wpAnyH_done (by kernel_rfl) ?_ _
  go_wp2_with fail
  go_ret2
  exact ⟨by rw [HX.out.1, HX.out.2]; rfl, by (repeat (first | (with_reducible first | exact Below.refl _ _ | assumption | refine Below.drew ?_) | ((with_reducible first | refine Below.alloc ?_ ?_ _ | refine Below.setCell ?_ ?_ _); rotate_left; (first | omega | (simp <;> omega)))))⟩
end Go.Proofs.YtpghciiifnjimaaGreatDoor
