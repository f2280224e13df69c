/- Texts laid together: AcH AcI. -/
import Derived.Test.YtdjlaiilngechaaGreatDoorXAcF
import Derived.Test.YtdjlaiilngechaaGreatDoorXTrM
import Derived.Test.YtdjlaiilngechaaGreatDoorXAcB
import Derived.Test.YtdjlaiilngechaaGreatDoorXGa
import Derived.Test.YtdjlaiilngechaaGreatDoorXKeep
import Derived.Test.YtdjlaiilngechaaGreatDoorXK0
namespace Go.Proofs.YtdjlaiilngechaaGreatDoor
set_option maxRecDepth 4000
set_option linter.unusedSimpArgs false
set_option linter.unusedVariables false
open Go.RowKit
theorem owns_else {w : World} {base : Nat} {e : TypeId} {size n : Nat} {v : Value} {xs : List Value} (h : w.ownsRow base e size v n xs) {p : Addr} (hp : p.block < base) (u : Value) : (w.setCell p u).ownsRow base e size v n xs := by
 refine ⟨h.1, ?_⟩
 rcases h.2 with h2 | ⟨g, cap, cur, hv, hb, hh, r⟩
 ·exact .inl h2
 ·exact .inr ⟨g, cap, cur, hv, hb, by rw [Below.heap_setCell _ _ _ _ (by omega)]; exact hh, r⟩
theorem own_empty {w : World} {base g size : Nat} {e : TypeId} (hg : g = w.heap.size) (hb : base ≤ w.heap.size) : (w.alloc (.cells #[] e)).ownsRow base e size (.slice (some ⟨g, 0, none⟩) 0 0) 0 [] := by
 subst hg
 exact ⟨by simp, .inr ⟨w.heap.size, 0, #[], rfl, hb, heap_new w _ _ rfl, Nat.le_refl _, by simp [maxLen], by simp, by simp⟩⟩
theorem tier_info : (Tryz.prog.info? 133).map (fun i => (i.zero, i.size, i.bytes)) = some (some (.agg #[.int .i64 0, .int .i64 0]), 2, 16) := by kernel_rfl
def prC (f g : Nat → Int) (k j : Nat) : Value := if j = 0 then .int .i64 (f k) else .int .i64 (g k)
theorem row2_S {w : World} {A : Option Addr} {n : Nat} {f g : Nat → Int} (h : Row2 w A n f g) : RowS w A n 2 (prC f g) := fun hn => by
 obtain ⟨b, off, e, hlt, hc⟩ := h hn
 refine ⟨b, off, e, hlt, fun k j hk hj => ?_⟩
 obtain ⟨h0, h1⟩ := hc k hk
 match j, hj with
 | 0, _ => exact h0
 | 1, _ => rw [← Nat.add_assoc]; exact h1
def prs (f g : Nat → Int) (n : Nat) : List (Int × Int) := (List.range n).map fun k => (f k, g k)
theorem prs_len (f g : Nat → Int) (n : Nat) : (prs f g n).length = n := by simp [prs]
theorem prs_at {f g : Nat → Int} {n k : Nat} (h : k < n) : fsts (prs f g n) k = f k ∧ snds (prs f g n) k = g k := by
 simp [fsts, snds, prs, List.getD_eq_getElem?_getD, h]
theorem flat_prs (f g : Nat → Int) (n k j : Nat) (hk : k < n) (hj : j < 2) : (flat (prs f g n))[k * 2 + j]? = some (prC f g k j) := by
 obtain ⟨h1, h2⟩ := flat_at (prs f g n) k (by rw [prs_len]; exact hk)
 obtain ⟨e1, e2⟩ := prs_at (f := f) (g := g) hk
 unfold fsts at e1
 unfold snds at e2
 match j, hj with
 | 0, _ => rw [e1] at h1; exact h1
 | 1, _ => rw [e2] at h2; exact h2
/-- A copy of tiers. -/
def ClRet (n : Nat) (f g : Nat → Int) (w : World) (e : Ending) (w' : World) : Prop :=
 ∃ A c, e = .returned (.slice A n c) ∧ w'.ownsRow w.heap.size 133 2 (.slice A n c) n (flat (prs f g n)) ∧ Below w.heap.size w w'
theorem own_prs {w : World} {base : Nat} {e : TypeId} {A : Option Addr} {c n : Nat} {f g : Nat → Int} (h : w.ownsRow base e 2 (.slice A n c) n (flat (prs f g n))) : Row2 w A n f g := by
 obtain ⟨A', c', hv, hr⟩ := own_row2 (l := prs f g n) (by rw [prs_len]; exact h)
 rw [prs_len] at hv hr
 injection hv with e1 e2 e3
 subst e1
 exact hr.congr fun k hk => prs_at hk
set_option maxHeartbeats 2000000 in
theorem clone_any (A : Option Addr) (n c : Nat) (f g : Nat → Int) (hn : n ≤ 1000000) (w : World) (hr : Row2 w A n f g) :
  Calls Tryz.prog 125 #[.slice A n c] w (ClRet n f g w) := by
 cases A with
 | none =>
  have h0 : n = 0 := by
   rcases Nat.eq_zero_or_pos n with h | h
   ·exact h
   ·obtain ⟨_, _, e, _⟩ := hr h; cases e
  subst h0
  have he : ∀ w : World, (binOp .eql 72 (.slice none 0 c) (.slice none 0 0)).run Tryz.prog w = .ok (.bool true) w := fun _ => rfl
  go_enter Tryz.func125, Tryz.ntmps125
  go_wp2_with fail
  go_ret
  exact ⟨none, 0, rfl, ⟨by simp [prs, flat], .inl ⟨rfl, rfl⟩⟩, Below.refl _ _⟩
 | some ad =>
  obtain ⟨i0, hi0, hz00, hz1, hz2⟩ := info_parts tier_info
  have HS := hide (row2_S hr)
  clear hr
  have he : ∀ w : World, (binOp .eql 72 (.slice (some ad) n c) (.slice none 0 0)).run Tryz.prog w = .ok (.bool false) w := fun _ => rfl
  go_enter Tryz.func125, Tryz.ntmps125
  go_wp2_with (at_builtin; go_loud (refine wpList_append_rowS _ rfl (.tmp 5) (.tmp 6) 72 rfl w.heap.size 133 i0 (.agg #[.int .i64 0, .int .i64 0]) 2 16 Tryz.underlying72 hi0 hz00 hz1 hz2 rfl (by decide) _ 0 [] rfl (own_empty rfl (Nat.le_refl _)) (some ad) n c rfl (prC f g) (HS.out.below belT) (flat (prs f g n)) (by rw [flat_len, prs_len]) (flat_prs f g n) (flat_one_cell _) (by simp only [maxLen]; omega) (by omega) (by simp) ?_); intro A1 c1 w1 ho hg hv)
  have hb := below_grown (B := w.heap.size) hg (by simp) (fun k hk => Nat.le_of_eq (Option.some.inj hk))
  simp only [List.nil_append, Nat.zero_add] at ho
  go_ret
  exact ⟨A1, c1, rfl, ho, Below.trans belT hb⟩
/-- One side of a product, as a call hands it back. -/
def SideRet (x : LInt) (w : World) (e : Ending) (w' : World) : Prop :=
 ∃ A c, e = .returned (.agg #[.slice A x.tn c, .bool x.mg, .int .i64 x.ba, .int .i64 x.mo, .bool x.ke]) ∧ Row2 w' A x.tn x.f x.g ∧ Below w.heap.size w w'
def sideP (p : LPro) (b : Int) : LInt := if b < 0 then p.db else p.cr
set_option maxHeartbeats 4000000 in
theorem side_any (C : Array Value) (p : LPro) (hC : PrC C p) (hcr : p.cr.tn ≤ 1000000) (hdb : p.db.tn ≤ 1000000) (b : Int) (w : World) (h1 : Row2 w p.cr.tA p.cr.tn p.cr.f p.cr.g) (h2 : Row2 w p.db.tA p.db.tn p.db.f p.db.g) :
  Calls Tryz.prog 84 #[.agg C, .int .i64 b] w (SideRet (sideP p b) w) := by
 have H1 := hide h1
 have H2 := hide h2
 clear h1 h2
 have HN := hide (And.intro hcr hdb)
 obtain ⟨hs0, _, _, _, c0, c1, c2, c3, c4, d0, d1, d2, d3, d4⟩ := id hC
 clear hC hcr hdb hs0
 by_cases hb0 : b < 0
 ·have HS := hide (show sideP p b = p.db from if_pos hb0)
  go_enter Tryz.func84, Tryz.ntmps84
  go_wp2_with fail
  refine (clone_any p.db.tA p.db.tn p.db.tc p.db.f p.db.g HN.out.2 _ (H2.out.below belT)).mono ?_
  rintro e w1 ⟨A, c, rfl, hown, hb⟩
  have HO := hide (show ∃ B0, w.heap.size + 2 < B0 ∧ w1.ownsRow B0 133 2 (.slice A (sideP p b).tn c) (sideP p b).tn (flat (prs (sideP p b).f (sideP p b).g (sideP p b).tn)) from by rw [HS.out]; exact ⟨_, by simp, hown⟩)
  clear hown
  have q1B : Below w.heap.size w w1 := qB hb
  have q1z := hb.size
  try simp at q1z
  have q1t : w.heap.size ≤ w1.heap.size := (by omega)
  obtain ⟨q1s0, q1n0_0, q1n0_1, q1n0_2⟩ := kB w1.heap.size (w.heap.size + 1)
  obtain ⟨q1c0_0, q1c0_1, q1c0_2, q1c0_3, q1c0_4, q1f0⟩ := kC5 hb (w.heap.size + 1)
  simp [go_sem, *] at q1c0_0 q1c0_1 q1c0_2 q1c0_3 q1c0_4 q1f0
  obtain ⟨q1s1, q1n1_0, q1n1_1, q1n1_2⟩ := kB w1.heap.size (w.heap.size + 1 + 1)
  obtain ⟨q1c1_0, q1c1_1, q1c1_2, q1c1_3, q1c1_4, q1f1⟩ := kC5 hb (w.heap.size + 1 + 1)
  simp [go_sem, *] at q1c1_0 q1c1_1 q1c1_2 q1c1_3 q1c1_4 q1f1
  have q1o := belO q1B
  clear hb
  go_wp2_with fail
  refine bodyPost_ret (by simp [results, Tryz.results84, go_sem, *] <;> rfl) rfl ?_
  obtain ⟨B0, hB0, ho⟩ := HO.out
  rw [HS.out] at ho ⊢
  refine ⟨A, c, rfl, own_prs (e := 133) (base := B0) (c := c) ?_, ?_⟩
  ·repeat (first | (with_reducible exact ho) | (with_reducible refine owns_else ?_ (by simp; omega) _))
  ·refine Below.trans q1B ?_
   (repeat (first | (with_reducible first | exact Below.refl _ _ | assumption | refine Below.drew ?_) | ((with_reducible first | refine Below.alloc ?_ ?_ _ | refine Below.setCell ?_ ?_ _); rotate_left; (first | omega | (simp <;> omega)))))
 ·have nb := Int.not_lt.1 hb0
  have HS := hide (show sideP p b = p.cr from if_neg hb0)
  clear hb0
  go_enter Tryz.func84, Tryz.ntmps84
  go_wp2_with fail
  refine (clone_any p.cr.tA p.cr.tn p.cr.tc p.cr.f p.cr.g HN.out.1 _ (H1.out.below belT)).mono ?_
  rintro e w1 ⟨A, c, rfl, hown, hb⟩
  have HO := hide (show ∃ B0, w.heap.size + 2 < B0 ∧ w1.ownsRow B0 133 2 (.slice A (sideP p b).tn c) (sideP p b).tn (flat (prs (sideP p b).f (sideP p b).g (sideP p b).tn)) from by rw [HS.out]; exact ⟨_, by simp, hown⟩)
  clear hown
  have q1B : Below w.heap.size w w1 := qB hb
  have q1z := hb.size
  try simp at q1z
  have q1t : w.heap.size ≤ w1.heap.size := (by omega)
  obtain ⟨q1s0, q1n0_0, q1n0_1, q1n0_2⟩ := kB w1.heap.size (w.heap.size + 1)
  obtain ⟨q1c0_0, q1c0_1, q1c0_2, q1c0_3, q1c0_4, q1f0⟩ := kC5 hb (w.heap.size + 1)
  simp [go_sem, *] at q1c0_0 q1c0_1 q1c0_2 q1c0_3 q1c0_4 q1f0
  obtain ⟨q1s1, q1n1_0, q1n1_1, q1n1_2⟩ := kB w1.heap.size (w.heap.size + 1 + 1)
  obtain ⟨q1c1_0, q1c1_1, q1c1_2, q1c1_3, q1c1_4, q1f1⟩ := kC5 hb (w.heap.size + 1 + 1)
  simp [go_sem, *] at q1c1_0 q1c1_1 q1c1_2 q1c1_3 q1c1_4 q1f1
  have q1o := belO q1B
  clear hb
  go_wp2_with fail
  refine bodyPost_ret (by simp [results, Tryz.results84, go_sem, *] <;> rfl) rfl ?_
  obtain ⟨B0, hB0, ho⟩ := HO.out
  rw [HS.out] at ho ⊢
  refine ⟨A, c, rfl, own_prs (e := 133) (base := B0) (c := c) ?_, ?_⟩
  ·repeat (first | (with_reducible exact ho) | (with_reducible refine owns_else ?_ (by simp; omega) _))
  ·refine Below.trans q1B ?_
   (repeat (first | (with_reducible first | exact Below.refl _ _ | assumption | refine Below.drew ?_) | ((with_reducible first | refine Below.alloc ?_ ?_ _ | refine Below.setCell ?_ ?_ _); rotate_left; (first | omega | (simp <;> omega)))))
theorem rside_any (C : Array Value) (p : LPro) (hC : PrC C p) (b : Int) (w : World) (h1 : Row2 w p.cr.tA p.cr.tn p.cr.f p.cr.g) (h2 : Row2 w p.db.tA p.db.tn p.db.f p.db.g) :
  Calls Tryz.prog 56 #[.agg C, .int .i64 b] w (SideRet (sideP p b) w) := by
 have H1 := hide h1
 have H2 := hide h2
 clear h1 h2
 obtain ⟨hs0, _, _, _, c0, c1, c2, c3, c4, d0, d1, d2, d3, d4⟩ := id hC
 clear hC hs0
 by_cases hb0 : b < 0
 ·have HS := hide (show sideP p b = p.db from if_pos hb0)
  go_enter Tryz.func56, Tryz.ntmps56
  go_wp2_with fail
  refine bodyPost_ret (by simp [results, Tryz.results56, go_sem, *] <;> rfl) rfl ?_
  rw [HS.out]
  exact ⟨_, _, rfl, H2.out.below belT, by (repeat (first | (with_reducible first | exact Below.refl _ _ | assumption | refine Below.drew ?_) | ((with_reducible first | refine Below.alloc ?_ ?_ _ | refine Below.setCell ?_ ?_ _); rotate_left; (first | omega | (simp <;> omega)))))⟩
 ·have HS := hide (show sideP p b = p.cr from if_neg hb0)
  have nb := Int.not_lt.1 hb0
  clear hb0
  go_enter Tryz.func56, Tryz.ntmps56
  go_wp2_with fail
  refine bodyPost_ret (by simp [results, Tryz.results56, go_sem, *] <;> rfl) rfl ?_
  rw [HS.out]
  exact ⟨_, _, rfl, H1.out.below belT, by (repeat (first | (with_reducible first | exact Below.refl _ _ | assumption | refine Below.drew ?_) | ((with_reducible first | refine Below.alloc ?_ ?_ _ | refine Below.setCell ?_ ?_ _); rotate_left; (first | omega | (simp <;> omega)))))⟩
end Go.Proofs.YtdjlaiilngechaaGreatDoor
namespace Go.Proofs.YtdjlaiilngechaaGreatDoor
set_option maxRecDepth 4000
set_option linter.unusedSimpArgs false
set_option linter.unusedVariables false
open Go.RowKit
theorem slices_sl {x : LInt} {b : Int} (hb : IIn b) : goodSl (slices x.tn x.f x.g x.mg b (rate x.tn x.f x.g b)) := by
 by_cases hc : chk x.tn x.f x.g = 0
 ·exact slices_ok hc hb.1 hb.2
 ·rw [slices_nil (.inr (.inl hc))]
  exact ⟨by simp, good_nil, fun k hk => by simp at hk⟩
theorem grn_err {n : Nat} {f g : Nat → Int} {t : Int} (h : grE n f g t ≠ 0) : grR n f g t = 0 := by
 unfold grE at h
 unfold grR
 split at h
 ·rw [if_neg (by omega)]
 ·split at h
  ·exact absurd rfl h
  ·rename_i h2
   rw [if_neg (fun hh => h2 hh.2)]
/-- What the interest of a product's side is. -/
structure PrIn (w : World) (p : LPro) : Prop where
 cr : Row2 w p.cr.tA p.cr.tn p.cr.f p.cr.g
 db : Row2 w p.db.tA p.db.tn p.db.f p.db.g
theorem PrIn.below {w w' : World} {p : LPro} (h : PrIn w p) (hb : Below w.heap.size w w') : PrIn w' p := ⟨h.cr.below hb, h.db.below hb⟩
theorem gr_cases (n : Nat) (f g : Nat → Int) (t : Int) : (grE n f g t = 0 ∧ (grE n f g t != 0) = false) ∨ ((grE n f g t != 0) = true ∧ grR n f g t = 0) := by
 by_cases h : grE n f g t = 0
 ·exact .inl ⟨h, by rw [h]; rfl⟩
 ·exact .inr ⟨by simpa using h, grn_err h⟩
set_option maxRecDepth 8000 in
set_option maxHeartbeats 4000000 in
theorem grains_any (C : Array Value) (p : LPro) (hC : PrC C p) (hcr : p.cr.tn ≤ 1000000) (hdb : p.db.tn ≤ 1000000) (b day : Int) (hb : IIn b) (w : World) (hp : PrIn w p) :
  Calls Tryz.prog 82 #[.agg C, .int .i64 b, .int .i64 day] w fun e w' => e = .returned (.agg #[.int .i64 (hiW (grn (sideP p b) b day)), .int .u64 (loW (grn (sideP p b) b day))]) ∧ Below w.heap.size w w' := by
 have HS := hide (pz_size hC.size)
 have HC := hide hC
 have HN := hide (And.intro hcr hdb)
 have HP := hide hp
 have HB := hide hb
 obtain ⟨x, hx⟩ : ∃ x, x = sideP p b := ⟨_, rfl⟩
 have HT := hide (show x.tn ≤ 1000000 from by rw [hx]; unfold sideP; split <;> assumption)
 obtain ⟨L, hL⟩ : ∃ L, L = slices x.tn x.f x.g x.mg b (rate x.tn x.f x.g b) := ⟨_, rfl⟩
 have HG := hide (slices_sl (x := x) hb)
 rw [← hL] at HG
 have HSL := hide (fun A c W hr => by have t := tslices_any A x.tn c x.f x.g x.mg b hb.1 hb.2 (by have := HT.out; omega) W hr; rw [← hL] at t; exact t)
 have HD := hide (fun W h1 h2 => by have t := side_any C p HC.out HN.out.1 HN.out.2 b W h1 h2; rw [← hx] at t; exact t)
 obtain ⟨t, ht⟩ : ∃ t, t = wgt x.ba day := ⟨_, rfl⟩
 have HW := hide (fun W => by have h := weight_any x.ba day W; rw [← ht] at h; exact h)
 have HV := hide (show grn (sideP p b) b day = grR L.length (fsts L) (snds L) t from by unfold grn; rw [← hx, ← hL, ← ht])
 clear hx hL ht hC hcr hdb hb hp
 go_enter Tryz.func82, Tryz.ntmps82
 go_wp2_with (with_reducible refine wpList_load_row rfl 78 (.tmp 3) rfl w.heap.size rfl 78 C (0, 0) _ (two_boxes _ _ _) Tryz.underlying78 rfl HS.out ?_)
 refine (HD.out _ (HP.out.cr.below belT) (HP.out.db.below belT)).mono ?_
 rintro e w1 ⟨A, c, rfl, hrow, hb⟩
 have HR := hide hrow
 clear hrow
 have q1B : Below w.heap.size w w1 := qB hb
 have q1z := hb.size
 try simp at q1z
 have q1t : w.heap.size ≤ w1.heap.size := (by omega)
 obtain ⟨q1s0, q1n0_0, q1n0_1, q1n0_2⟩ := kB w1.heap.size (w.heap.size + 1)
 obtain ⟨q1c0_0, q1c0_1, q1f0⟩ := kC2 hb (w.heap.size + 1)
 simp [go_sem, *] at q1c0_0 q1c0_1 q1f0
 have q1o := belO q1B
 clear hb
 go_wp2_with fail
 refine (HSL.out A c _ (HR.out.below belT)).mono ?_
 rintro e w2 ⟨A2, c2, rfl, hrow, hb⟩
 have HR2 := hide hrow
 have B1 := hide q1B
 clear hrow
 have q2B : Below w1.heap.size w1 w2 := qB hb
 have q2z := hb.size
 try simp at q2z
 have q2t : w1.heap.size ≤ w2.heap.size := (by omega)
 obtain ⟨q2s0, q2n0_0, q2n0_1, q2n0_2⟩ := kB w2.heap.size (w.heap.size + 1)
 obtain ⟨q2c0_0, q2c0_1, q2f0⟩ := kC2 hb (w.heap.size + 1)
 simp [go_sem, *] at q2c0_0 q2c0_1 q2f0
 obtain ⟨q2s1, q2n1_0, q2n1_1, q2n1_2⟩ := kB w2.heap.size w1.heap.size
 obtain ⟨q2c1_0, q2c1_1, q2c1_2, q2c1_3, q2c1_4, q2f1⟩ := kC5 hb w1.heap.size
 simp [go_sem, *] at q2c1_0 q2c1_1 q2c1_2 q2c1_3 q2c1_4 q2f1
 have q2o := belO q2B
 clear hb q1o q1f0 q1c0_1 q1c0_0 q1s0 q1z q1B
 go_wp2_with fail
 refine (HW.out _).mono ?_
 rintro e w3 ⟨rfl, hb⟩
 have B2 := hide (B1.out.trans (q2B.mono (by omega)))
 have q3B : Below w2.heap.size w2 w3 := qB hb
 have q3z := hb.size
 try simp at q3z
 have q3t : w2.heap.size ≤ w3.heap.size := (by omega)
 obtain ⟨q3s0, q3n0_0, q3n0_1, q3n0_2⟩ := kB w3.heap.size (w.heap.size + 1)
 obtain ⟨q3c0_0, q3c0_1, q3f0⟩ := kC2 hb (w.heap.size + 1)
 simp [go_sem, *] at q3c0_0 q3c0_1 q3f0
 obtain ⟨q3s1, q3n1_0, q3n1_1, q3n1_2⟩ := kB w3.heap.size w1.heap.size
 obtain ⟨q3c1_0, q3c1_1, q3c1_2, q3c1_3, q3c1_4, q3f1⟩ := kC5 hb w1.heap.size
 simp [go_sem, *] at q3c1_0 q3c1_1 q3c1_2 q3c1_3 q3c1_4 q3f1
 have q3o := belO q3B
 clear hb q2o q2f1 q2c1_4 q2c1_3 q2c1_2 q2c1_1 q2c1_0 q2s1 q2f0 q2c0_1 q2c0_0 q2s0 q2z q2B
 have B3 := hide (B2.out.trans (q3B.mono (by omega)))
 go_wp2_with fail
 refine (tgrains_any A2 L.length c2 (fsts L) (snds L) t (by have := HG.out.1; omega) _ (HR2.out.below q3B) HG.out.2.2).mono ?_
 rintro e w4 ⟨rfl, hb⟩
 have q4B : Below w3.heap.size w3 w4 := qB hb
 have q4z := hb.size
 try simp at q4z
 have q4t : w3.heap.size ≤ w4.heap.size := (by omega)
 obtain ⟨q4s0, q4n0_0, q4n0_1, q4n0_2⟩ := kB w4.heap.size (w.heap.size + 1)
 obtain ⟨q4c0_0, q4c0_1, q4f0⟩ := kC2 hb (w.heap.size + 1)
 simp [go_sem, *] at q4c0_0 q4c0_1 q4f0
 obtain ⟨q4s1, q4n1_0, q4n1_1, q4n1_2⟩ := kB w4.heap.size w1.heap.size
 obtain ⟨q4c1_0, q4c1_1, q4c1_2, q4c1_3, q4c1_4, q4f1⟩ := kC5 hb w1.heap.size
 simp [go_sem, *] at q4c1_0 q4c1_1 q4c1_2 q4c1_3 q4c1_4 q4f1
 have q4o := belO q4B
 clear hb q3o q3f1 q3c1_4 q3c1_3 q3c1_2 q3c1_1 q3c1_0 q3s1 q3f0 q3c0_1 q3c0_0 q3s0 q3z q3B
 have B4 := hide (B3.out.trans (q4B.mono (by omega)))
 rcases gr_cases L.length (fsts L) (snds L) t with ⟨g0, g1⟩ | ⟨g1, g0⟩
 ·go_wp2_with fail
  refine bodyPost_ret (by simp [results, Tryz.results82, go_sem, *] <;> rfl) rfl ⟨?_, ?_⟩
  ·rw [HV.out]
  ·refine B4.out.trans ?_
   (repeat (first | (with_reducible first | exact Below.refl _ _ | assumption | refine Below.drew ?_) | ((with_reducible first | refine Below.alloc ?_ ?_ _ | refine Below.setCell ?_ ?_ _); rotate_left; (first | omega | (simp <;> omega)))))
 ·have HV2 := hide (HV.out.trans g0)
  go_wp2_with fail
  refine bodyPost_ret (by simp [results, Tryz.results82, go_sem, *] <;> rfl) rfl ⟨?_, ?_⟩
  ·rw [HV2.out]; rfl
  ·refine B4.out.trans ?_
   (repeat (first | (with_reducible first | exact Below.refl _ _ | assumption | refine Below.drew ?_) | ((with_reducible first | refine Below.alloc ?_ ?_ _ | refine Below.setCell ?_ ?_ _); rotate_left; (first | omega | (simp <;> omega)))))
end Go.Proofs.YtdjlaiilngechaaGreatDoor
