/- Texts laid together: TpN TpS. -/
import Derived.Test.YtpghciiifnjimaaGreatDoorXShA
import Derived.Test.YtpghciiifnjimaaGreatDoorXNuA
import Derived.Test.YtpghciiifnjimaaGreatDoorXEza
import Derived.Test.YtpghciiifnjimaaGreatDoorXDaM
import Derived.Test.YtpghciiifnjimaaGreatDoorXK0
namespace Go.Proofs.YtpghciiifnjimaaGreatDoor
set_option maxRecDepth 4000
set_option linter.unusedSimpArgs false
set_option linter.unusedVariables false
open Go.RowKit
/-- Some number; where it is 0, p holds. -/
def OkE (p : Prop) (w : World) (e : Ending) (w' : World) : Prop := ∃ z : Int, e = .returned (.int .i64 z) ∧ (z = 0 → p) ∧ Below w.heap.size w w'
theorem el_expr {S : Nat → Prop} {w : World} {e o : Nat} {ck : Nat → Tr} {X : Array Value} (h : ElT S w e ck X) (hk : KnOK e ck) (hs : ∀ j, j < 4 → o + j < (tbl e).length ∧ (tbl e).getD (o + j) .i = (tbl 5).getD j .i) :
  ElT S w 5 (fun j => ck (o + j)) #[X.getD (o + 0) undef, X.getD (o + 1) undef, X.getD (o + 2) undef, X.getD (o + 3) undef] ∧ KnOK 5 (fun j => ck (o + j)) := by
 have kn : KnOK 5 (fun j => ck (o + j)) := fun j hj => by have t := hk (o + j) (hs j hj).1; rw [(hs j hj).2] at t; exact t
 have r := fun j (hj : j < 4) => h.rd (o + j) (hs j hj).1
 refine ⟨⟨rfl, ?_, fun j hj => ?_⟩, kn⟩
 ·have o0 := rd_one (r 0 (by decide)) (kn 0 (by decide))
  have o1 := rd_one (r 1 (by decide)) (kn 1 (by decide))
  have o2 := rd_one (r 2 (by decide)) (kn 2 (by decide))
  have o3 := rd_one (r 3 (by decide)) (kn 3 (by decide))
  have key : ∀ a b c d : Value, a.oneCell' = true → b.oneCell' = true → c.oneCell' = true → d.oneCell' = true → (#[a, b, c, d] : Array Value).all (·.oneCell') = true := fun a b c d h1 h2 h3 h4 => by simp [h1, h2, h3, h4]
  exact key _ _ _ _ o0 o1 o2 o3
 ·match j, hj with
  | 0, _ => exact r 0 (by decide)
  | 1, _ => exact r 1 (by decide)
  | 2, _ => exact r 2 (by decide)
  | 3, _ => exact r 3 (by decide)
theorem arr10 {α : Type} {cs : Array α} (h : cs.size = 10) : ∃ x0 x1 x2 x3 x4 x5 x6 x7 x8 x9, cs = #[x0, x1, x2, x3, x4, x5, x6, x7, x8, x9] := by
 obtain ⟨l⟩ := cs
 match l, h with
 | [x0, x1, x2, x3, x4, x5, x6, x7, x8, x9], _ => exact ⟨x0, x1, x2, x3, x4, x5, x6, x7, x8, x9, rfl⟩
theorem arr6 {α : Type} {cs : Array α} (h : cs.size = 6) : ∃ x0 x1 x2 x3 x4 x5, cs = #[x0, x1, x2, x3, x4, x5] := by
 obtain ⟨l⟩ := cs
 match l, h with
 | [x0, x1, x2, x3, x4, x5], _ => exact ⟨x0, x1, x2, x3, x4, x5, rfl⟩
set_option maxRecDepth 8000 in
set_option maxHeartbeats 4000000 in
theorem wrule15_any (hR : RtAll) {ck : Nat → Tr} (kn : KnOK 7 ck) (w : World) (X : Array Value) (hX : ElT (Old w) w 7 ck X) : Calls Tryz.prog 150 #[.agg X] w (SomE w) := by
 obtain ⟨x0, x1, x2, x3, x4, x5, rfl⟩ := arr6 (show X.size = 6 from hX.size)
 obtain ⟨s0, _, e0, _⟩ := rd_str (hX.rd 0 (by decide)) (kn 0 (by decide))
 have e0 : x0 = .string s0 := e0
 obtain ⟨z1, _, e1, _⟩ := rd_int (hX.rd 1 (by decide)) (kn 1 (by decide))
 have e1 : x1 = .int .i64 z1 := e1
 subst e0 e1
 obtain ⟨h2, k2⟩ := el_expr (o := 2) hX kn (by decide)
 have H2 := hide (show ElT (Old w) w 5 (fun j => ck (2 + j)) #[x2, x3, x4, x5] from h2)
 have K2 := hide k2
 have HR := hide hR
 clear hX kn hR h2 k2
 go_enter Tryz.func150, Tryz.ntmps150
 go_wp2_with fail
 refine (wname15_any s0 _).mono ?_
 rintro r w1 ⟨⟨b1, rfl⟩, hb⟩
 have q1B : Below w.heap.size w w1 := qB hb
 have q1z := hb.size
 try simp at q1z
 have q1t : w.heap.size ≤ w1.heap.size := (by omega)
 obtain ⟨q1s0, q1n0_0, q1n0_1, q1n0_2⟩ := kB w1.heap.size w.heap.size
 obtain ⟨q1c0_0, q1c0_1, q1c0_2, q1c0_3, q1c0_4, q1c0_5, q1f0⟩ := kC6 hb w.heap.size
 simp [go_sem, *] at q1c0_0 q1c0_1 q1c0_2 q1c0_3 q1c0_4 q1c0_5 q1f0
 have q1o := belO q1B
 clear hb
 have B1 := hide q1B
 cases b1 with
 | false =>
  go_wp2_with fail
  go_ret
  exact ⟨⟨_, rfl⟩, B1.out⟩
 | true =>
  go_wp2_with fail
  all_goals try (go_ret; exact ⟨⟨_, rfl⟩, B1.out⟩)
  refine ord_start (SB (w1.heap.size) [] _) 5 #[false, false, false, false, false] (by kernel_rfl) (by kernel_rfl) (by kernel_rfl) SB.refl.drew (fun hHeld => ?_)
  refine oS (i := 0) #[true, false, false, false, false] rfl hHeld ?_
  (try simp only [Act.put, putS])
  refine oS (i := 1) #[true, true, false, false, false] rfl hHeld ?_
  (try simp only [Act.put, putS])
  refine wpAnyH_ready (rs := [2]) (by kernel_rfl) (by simp) ?_
  refine ord_run (i := 2) #[true, true, true, false, false] rfl (by kernel_rfl) (by rfl) (fun K hK => ?_) AllReadyH.nil
  go_simp
  go_wp2_with (go_at_call 197; refine (wvars15_any _).mono ?_; rintro r w2 ⟨V, nv, pv, rfl, hnv, hV, hb⟩; have hbS := hb; have hbV := hb; have zV := hb.size; (try simp at zV); have HV := hide hV; clear hV)
  refine hK.out _ _ ?_ (fun hHeld => ?_)
  ·exact sbT
  clear hK K
  (try simp only [Act.put, putS])
  refine wpAnyH_ready (rs := [3]) (by kernel_rfl) (by simp) ?_
  refine ord_run (i := 3) #[true, true, true, true, false] rfl (by kernel_rfl) (by rfl) (fun K hK => ?_) AllReadyH.nil
  go_simp
  go_wp2_with (go_at_call 196; refine (wcheck11_any HR.out K2.out _ _ V nv pv _ (H2.out.below (B1.out.trans ((Below.trans (by (repeat (first | (with_reducible first | exact Below.refl _ _ | assumption | refine Below.drew ?_) | ((with_reducible first | refine Below.alloc ?_ ?_ _ | refine Below.setCell ?_ ?_ _); rotate_left; (first | omega | (simp <;> omega))))) : Below w1.heap.size w1 _) hbV).mono B1.out.size))) hnv HV.out).mono ?_; rintro r w3 ⟨⟨z3, rfl⟩, hb⟩; have hbS2 := hb; have hbC := hb)
  refine hK.out _ _ ?_ (fun hHeld => ?_)
  ·exact sbT
  clear hK K
  (try simp only [Act.put, putS])
  refine oS (i := 4) #[true, true, true, true, true] rfl hHeld ?_
  (try simp only [Act.put, putS])
  refine wpAnyH_done (by kernel_rfl) ?_ _
  have BF := hide (B1.out.trans ((Below.trans (by (repeat (first | (with_reducible first | exact Below.refl _ _ | assumption | refine Below.drew ?_) | ((with_reducible first | refine Below.alloc ?_ ?_ _ | refine Below.setCell ?_ ?_ _); rotate_left; (first | omega | (simp <;> omega))))) : Below w1.heap.size w1 _) ((hbV.mono (by simp)).trans (hbC.mono (by omega)))).mono B1.out.size))
  go_wp2_with fail
  go_ret
  exact ⟨⟨_, rfl⟩, BF.out⟩
set_option maxRecDepth 8000 in
set_option maxHeartbeats 4000000 in
theorem wfee15_any (hR : RtAll) {ck : Nat → Tr} (kn : KnOK 6 ck) (w : World) (X : Array Value) (hX : ElT (Old w) w 6 ck X) : Calls Tryz.prog 149 #[.agg X] w (SomE w) := by
 obtain ⟨x0, x1, x2, x3, x4, x5, x6, x7, x8, x9, rfl⟩ := arr10 (show X.size = 10 from hX.size)
 obtain ⟨s0, _, e0, _⟩ := rd_str (hX.rd 0 (by decide)) (kn 0 (by decide))
 have e0 : x0 = .string s0 := e0
 obtain ⟨z1, _, e1, _⟩ := rd_int (hX.rd 1 (by decide)) (kn 1 (by decide))
 have e1 : x1 = .int .i64 z1 := e1
 subst e0 e1
 obtain ⟨h2, k2⟩ := el_expr (o := 2) hX kn (by decide)
 have H2 := hide (show ElT (Old w) w 5 (fun j => ck (2 + j)) #[x2, x3, x4, x5] from h2)
 have K2 := hide k2
 obtain ⟨h6, k6⟩ := el_expr (o := 6) hX kn (by decide)
 have H6 := hide (show ElT (Old w) w 5 (fun j => ck (6 + j)) #[x6, x7, x8, x9] from h6)
 have K6 := hide k6
 have HR := hide hR
 clear hX kn hR h2 k2 h6 k6
 go_enter Tryz.func149, Tryz.ntmps149
 go_wp2_with fail
 refine (wname15_any s0 _).mono ?_
 rintro r w1 ⟨⟨b1, rfl⟩, hb⟩
 have q1B : Below w.heap.size w w1 := qB hb
 have q1z := hb.size
 try simp at q1z
 have q1t : w.heap.size ≤ w1.heap.size := (by omega)
 obtain ⟨q1s0, q1n0_0, q1n0_1, q1n0_2⟩ := kB w1.heap.size w.heap.size
 obtain ⟨q1c0_0, q1c0_1, q1c0_2, q1c0_3, q1c0_4, q1c0_5, q1c0_6, q1c0_7, q1c0_8, q1c0_9, q1f0⟩ := kC10 hb w.heap.size
 simp [go_sem, *] at q1c0_0 q1c0_1 q1c0_2 q1c0_3 q1c0_4 q1c0_5 q1c0_6 q1c0_7 q1c0_8 q1c0_9 q1f0
 have q1o := belO q1B
 clear hb
 have B1 := hide q1B
 cases b1 with
 | false =>
  go_wp2_with fail
  go_ret
  exact ⟨⟨_, rfl⟩, B1.out⟩
 | true =>
  go_wp2_with fail
  all_goals try (go_ret; exact ⟨⟨_, rfl⟩, B1.out⟩)
  refine ord_start (SB (w1.heap.size) [] _) 5 #[false, false, false, false, false] (by kernel_rfl) (by kernel_rfl) (by kernel_rfl) SB.refl.drew (fun hHeld => ?_)
  refine oS (i := 0) #[true, false, false, false, false] rfl hHeld ?_
  (try simp only [Act.put, putS])
  refine oS (i := 1) #[true, true, false, false, false] rfl hHeld ?_
  (try simp only [Act.put, putS])
  refine wpAnyH_ready (rs := [2]) (by kernel_rfl) (by simp) ?_
  refine ord_run (i := 2) #[true, true, true, false, false] rfl (by kernel_rfl) (by rfl) (fun K hK => ?_) AllReadyH.nil
  go_simp
  go_wp2_with (go_at_call 197; refine (wvars15_any _).mono ?_; rintro r w2 ⟨V, nv, pv, rfl, hnv, hV, hb⟩; have hbS := hb; have hbV := hb; have zV := hb.size; (try simp at zV); have HV := hide hV; clear hV)
  refine hK.out _ _ ?_ (fun hHeld => ?_)
  ·exact sbT
  clear hK K
  (try simp only [Act.put, putS])
  refine wpAnyH_ready (rs := [3]) (by kernel_rfl) (by simp) ?_
  refine ord_run (i := 3) #[true, true, true, true, false] rfl (by kernel_rfl) (by rfl) (fun K hK => ?_) AllReadyH.nil
  go_simp
  go_wp2_with (go_at_call 196; refine (wcheck11_any HR.out K2.out _ _ V nv pv _ (H2.out.below (B1.out.trans ((Below.trans (by (repeat (first | (with_reducible first | exact Below.refl _ _ | assumption | refine Below.drew ?_) | ((with_reducible first | refine Below.alloc ?_ ?_ _ | refine Below.setCell ?_ ?_ _); rotate_left; (first | omega | (simp <;> omega))))) : Below w1.heap.size w1 _) hbV).mono B1.out.size))) hnv HV.out).mono ?_; rintro r w3 ⟨⟨z3, rfl⟩, hb⟩; have hbS2 := hb; have hbC := hb)
  refine hK.out _ _ ?_ (fun hHeld => ?_)
  ·exact sbT
  clear hK K
  (try simp only [Act.put, putS])
  refine oS (i := 4) #[true, true, true, true, true] rfl hHeld ?_
  (try simp only [Act.put, putS])
  refine wpAnyH_done (by kernel_rfl) ?_ _
  have hb := (Below.trans (by (repeat (first | (with_reducible first | exact Below.refl _ _ | assumption | refine Below.drew ?_) | ((with_reducible first | refine Below.alloc ?_ ?_ _ | refine Below.setCell ?_ ?_ _); rotate_left; (first | omega | (simp <;> omega))))) : Below w1.heap.size w1 _) ((hbV.mono (by simp)).trans (hbC.mono (by omega))))
  clear hbV hbC hbS hbS2
  have q2B : Below w1.heap.size w1 w3 := qB hb
  have q2z := hb.size
  try simp at q2z
  have q2t : w1.heap.size ≤ w3.heap.size := (by omega)
  obtain ⟨q2s0, q2n0_0, q2n0_1, q2n0_2⟩ := kB w3.heap.size w.heap.size
  obtain ⟨q2c0_0, q2c0_1, q2c0_2, q2c0_3, q2c0_4, q2c0_5, q2c0_6, q2c0_7, q2c0_8, q2c0_9, q2f0⟩ := kC10 hb w.heap.size
  simp [go_sem, *] at q2c0_0 q2c0_1 q2c0_2 q2c0_3 q2c0_4 q2c0_5 q2c0_6 q2c0_7 q2c0_8 q2c0_9 q2f0
  have q2o := belO q2B
  clear hb q1o q1f0 q1c0_9 q1c0_8 q1c0_7 q1c0_6 q1c0_5 q1c0_4 q1c0_3 q1c0_2 q1c0_1 q1c0_0 q1s0 q1z q1B
  have B3 := hide (B1.out.trans (q2B.mono B1.out.size))
  go_wp2_with fail
  all_goals try (go_ret; exact ⟨⟨_, rfl⟩, B3.out⟩)
  refine ord_start (SB (w3.heap.size) [] _) 5 #[false, false, false, false, false] (by kernel_rfl) (by kernel_rfl) (by kernel_rfl) SB.refl.drew (fun hHeld => ?_)
  refine oS (i := 0) #[true, false, false, false, false] rfl hHeld ?_
  (try simp only [Act.put, putS])
  refine oS (i := 1) #[true, true, false, false, false] rfl hHeld ?_
  (try simp only [Act.put, putS])
  refine wpAnyH_ready (rs := [2]) (by kernel_rfl) (by simp) ?_
  refine ord_run (i := 2) #[true, true, true, false, false] rfl (by kernel_rfl) (by rfl) (fun K hK => ?_) AllReadyH.nil
  go_simp
  go_wp2_with (go_at_call 197; refine (wvars15_any _).mono ?_; rintro r w4 ⟨V4, n4, p4, rfl, hn4, hV, hb⟩; have hbS := hb; have hbV := hb; have zV4 := hb.size; (try simp at zV4); have HV4 := hide hV; clear hV)
  refine hK.out _ _ ?_ (fun hHeld => ?_)
  ·exact sbT
  clear hK K
  (try simp only [Act.put, putS])
  refine wpAnyH_ready (rs := [3]) (by kernel_rfl) (by simp) ?_
  refine ord_run (i := 3) #[true, true, true, true, false] rfl (by kernel_rfl) (by rfl) (fun K hK => ?_) AllReadyH.nil
  go_simp
  go_wp2_with (go_at_call 196; refine (wcheck11_any HR.out K6.out _ _ V4 n4 p4 _ (H6.out.below (B3.out.trans ((Below.trans (by (repeat (first | (with_reducible first | exact Below.refl _ _ | assumption | refine Below.drew ?_) | ((with_reducible first | refine Below.alloc ?_ ?_ _ | refine Below.setCell ?_ ?_ _); rotate_left; (first | omega | (simp <;> omega))))) : Below w3.heap.size w3 _) hbV).mono B3.out.size))) hn4 HV4.out).mono ?_; rintro r w5 ⟨⟨z5, rfl⟩, hb⟩; have hbS2 := hb; have hbC := hb)
  refine hK.out _ _ ?_ (fun hHeld => ?_)
  ·exact sbT
  clear hK K
  (try simp only [Act.put, putS])
  refine oS (i := 4) #[true, true, true, true, true] rfl hHeld ?_
  (try simp only [Act.put, putS])
  refine wpAnyH_done (by kernel_rfl) ?_ _
  have BF := hide (B3.out.trans ((Below.trans (by (repeat (first | (with_reducible first | exact Below.refl _ _ | assumption | refine Below.drew ?_) | ((with_reducible first | refine Below.alloc ?_ ?_ _ | refine Below.setCell ?_ ?_ _); rotate_left; (first | omega | (simp <;> omega))))) : Below w3.heap.size w3 _) ((hbV.mono (by simp)).trans (hbC.mono (by omega)))).mono B3.out.size))
  go_wp2_with fail
  go_ret
  exact ⟨⟨_, rfl⟩, BF.out⟩
theorem chk_6 {n : Nat} {f g : Nat → Int} (h : chk n f g = 0) : n ≤ 6 := by
 rcases Nat.lt_or_ge 6 n with h6 | h6
 ·rw [chk_5 h6] at h; cases h
 ·exact h6
set_option maxRecDepth 8000 in
set_option maxHeartbeats 4000000 in
theorem wint15_any (A : Option Addr) (n cap : Nat) (c : Nat → Nat → Tr) (C : Nat → Nat → Value) (hk : RowK 4 n c) (b : Bool) (z m : Int) (k : Bool) (w : World) (hA : RowT (Old w) w 4 A n c C) : Calls Tryz.prog 148 #[.agg #[.slice A n cap, .bool b, .int .i64 z, .int .i64 m, .bool k]] w (OkE (n ≤ 6) w) := by
 obtain ⟨h2, _⟩ := tier_of hA hk
 have HN := hide (show n ≤ 140737488355328 by have := hk.room; simp only [tby] at this; omega)
 obtain ⟨f, hf⟩ : ∃ f, f = (fun i => intOf (lfv (c i 0))) := ⟨_, rfl⟩
 obtain ⟨g, hg⟩ : ∃ g, g = (fun i => intOf (lfv (c i 1))) := ⟨_, rfl⟩
 rw [← hf, ← hg] at h2
 have H2 := hide h2
 have HE := hide (fun (W : World) (h : Row2 W A n f g) => rcheck_any A n cap f g HN.out W h)
 have HC := hide (fun h => chk_6 (n := n) (f := f) (g := g) h)
 obtain ⟨E, hE⟩ : ∃ E, E = chk n f g := ⟨_, rfl⟩
 rw [← hE] at HE HC
 clear h2 hA hk hf hg hE
 go_enter Tryz.func148, Tryz.ntmps148
 go_wp2_with fail
 refine (HE.out _ (Row2.below H2.out belT)).mono ?_
 rintro r w1 ⟨rfl, hb⟩
 have q1B : Below w.heap.size w w1 := qB hb
 have q1z := hb.size
 try simp at q1z
 have q1t : w.heap.size ≤ w1.heap.size := (by omega)
 obtain ⟨q1s0, q1n0_0, q1n0_1, q1n0_2⟩ := kB w1.heap.size w.heap.size
 obtain ⟨q1c0_0, q1c0_1, q1c0_2, q1c0_3, q1c0_4, q1f0⟩ := kC5 hb w.heap.size
 simp [go_sem, *] at q1c0_0 q1c0_1 q1c0_2 q1c0_3 q1c0_4 q1f0
 have q1o := belO q1B
 clear hb
 by_cases h0 : E = 0
 ·have HN6 := hide (HC.out h0)
  have d0 : (E != 0) = false := by simp [h0]
  clear h0
  go_wp2_with fail
  all_goals (go_ret; exact ⟨_, rfl, fun _ => HN6.out, q1B⟩)
 ·have d0 : (E != 0) = true := by simpa using h0
  have HN0 := hide h0
  clear h0
  go_wp2_with fail
  go_ret
  exact ⟨_, rfl, fun h => absurd h HN0.out, q1B⟩
end Go.Proofs.YtpghciiifnjimaaGreatDoor
namespace Go.Proofs.YtpghciiifnjimaaGreatDoor
set_option maxRecDepth 4000
set_option linter.unusedSimpArgs false
set_option linter.unusedVariables false
open Go.RowKit
/-- Some word. -/
def SomU (w : World) (e : Ending) (w' : World) : Prop := (∃ z : Int, e = .returned (.int .u64 z) ∧ 0 ≤ z ∧ z < 18446744073709551616) ∧ Below w.heap.size w w'
theorem hext_in (h : Int) (h0 : 0 ≤ h) (h1 : h < 18446744073709551616) (l : List UInt8) : 0 ≤ hext h l ∧ hext h l < 18446744073709551616 := by
 induction l generalizing h with
 | nil => exact ⟨h0, h1⟩
 | cons b l ih =>
  refine ih (hx h b) ?_ ?_
  ·unfold hx; rw [IntKind.wrap_u64]; omega
  ·unfold hx; rw [IntKind.wrap_u64]; omega
theorem whash8_any (s : ByteArray) (hl : s.size ≤ 140737488355328) (w : World) : Calls Tryz.prog 245 #[.string s] w (SomU w) := by
 go_enter Tryz.func245, Tryz.ntmps245
 go_wp2_with fail
 refine (rext_any _ s hl _).mono ?_
 rintro r w1 ⟨rfl, hb⟩
 obtain ⟨z, hz⟩ : ∃ z, z = hext 14695981039346656037 s.data.toList := ⟨_, rfl⟩
 have HZ := hide (by rw [hz]; exact hext_in _ (by decide) (by decide) _ : 0 ≤ z ∧ z < 18446744073709551616)
 rw [← hz]
 clear hz
 go_wp2_with fail
 go_ret
 exact ⟨⟨_, rfl, HZ.out⟩, hb⟩
theorem wchain8_any (p : Int) (h0 : 0 ≤ p) (h1 : p < 18446744073709551616) (s : ByteArray) (hl : s.size ≤ 140737488355328) (w : World) : Calls Tryz.prog 200 #[.int .u64 p, .string s] w (SomU w) := by
 go_enter Tryz.func200, Tryz.ntmps200
 go_wp2_with fail
 refine (weight_any8 p h0 h1 _).mono ?_
 rintro r w1 ⟨t, ht, rfl, hb⟩
 have B1 := hide hb
 have z1 := hb.size
 clear hb
 go_wp2_with fail
 refine (whash8_any t (by omega) _).mono ?_
 rintro r w2 ⟨⟨z, rfl, g0, g1⟩, hb⟩
 have B2 := hide (B1.out.trans (hb.mono z1))
 have z2 := B2.out.size
 have HG := hide (And.intro g0 g1)
 clear hb g0 g1
 go_wp2_with fail
 refine (rext_any z s hl _).mono ?_
 rintro r w3 ⟨rfl, hb⟩
 obtain ⟨y, hy⟩ : ∃ y, y = hext z s.data.toList := ⟨_, rfl⟩
 have HY := hide (by rw [hy]; exact hext_in _ HG.out.1 HG.out.2 _ : 0 ≤ y ∧ y < 18446744073709551616)
 rw [← hy]
 clear hy
 go_wp2_with fail
 go_ret
 exact ⟨⟨_, rfl, HY.out⟩, B2.out.trans (hb.mono z2)⟩
/-- Some bool; where it is true, p holds. -/
def OkB (p : Prop) (w : World) (e : Ending) (w' : World) : Prop := ∃ b : Bool, e = .returned (.bool b) ∧ (b = true → p) ∧ Below w.heap.size w w'
theorem wcodeS_any (s : ByteArray) (w : World) : Calls Tryz.prog 277 #[.string s] w (OkB (s.size = 3) w) := by
 by_cases h3 : s.size = 3
 ·exact (wcode19_any s w).mono fun _ _ h => by
   obtain ⟨⟨b, h1⟩, h2⟩ := h
   exact ⟨b, h1, fun _ => h3, h2⟩
 ·have e3 : ((s.size : Int) != 3) = true := by simp; omega
  go_enter Tryz.func277, Tryz.ntmps277
  go_wp2_with fail
  go_ret
  exact ⟨_, rfl, nofun, by (repeat (first | (with_reducible first | exact Below.refl _ _ | assumption | refine Below.drew ?_) | ((with_reducible first | refine Below.alloc ?_ ?_ _ | refine Below.setCell ?_ ?_ _); rotate_left; (first | omega | (simp <;> omega)))))⟩
theorem wprintS_any (s : ByteArray) (m l : Int) (hm1 : m ≤ 1000) (w : World) : Calls Tryz.prog 204 #[.string s, .int .i64 m, .int .u8 l] w (OkB ((s.size : Int) ≤ m) w) := by
 by_cases h2 : m < s.size
 ·go_enter Tryz.func204, Tryz.ntmps204
  go_wp2_with fail
  go_ret
  exact ⟨_, rfl, nofun, by (repeat (first | (with_reducible first | exact Below.refl _ _ | assumption | refine Below.drew ?_) | ((with_reducible first | refine Below.alloc ?_ ?_ _ | refine Below.setCell ?_ ?_ _); rotate_left; (first | omega | (simp <;> omega)))))⟩
 ·exact (wprint_any s m l hm1 w).mono fun _ _ h => by
   obtain ⟨⟨b, h1⟩, h2⟩ := h
   exact ⟨b, h1, fun _ => by omega, h2⟩
theorem wkeyS_any (s : ByteArray) (w : World) : Calls Tryz.prog 156 #[.string s] w (OkB (s.size ≤ 48) w) := by
 by_cases h2 : 1 ≤ (s.size : Int)
 ·go_enter Tryz.func156, Tryz.ntmps156
  go_wp2_with fail
  refine (wprintS_any s 48 33 (by decide) _).mono ?_
  rintro e w1 ⟨b, rfl, hp, hb⟩
  have HP := hide hp
  clear hp
  go_wp2_with fail
  go_ret
  exact ⟨_, rfl, fun h => by have := HP.out h; omega, hb⟩
 ·go_enter Tryz.func156, Tryz.ntmps156
  go_wp2_with fail
  go_ret
  exact ⟨_, rfl, nofun, by (repeat (first | (with_reducible first | exact Below.refl _ _ | assumption | refine Below.drew ?_) | ((with_reducible first | refine Below.alloc ?_ ?_ _ | refine Below.setCell ?_ ?_ _); rotate_left; (first | omega | (simp <;> omega)))))⟩
set_option maxHeartbeats 2000000 in
theorem wleg19_any (z0 z1 : Int) (s2 : ByteArray) (w : World) : Calls Tryz.prog 242 #[.agg #[.int .i64 z0, .int .i64 z1, .string s2]] w (OkE (s2.size = 3) w) := by
 go_enter Tryz.func242, Tryz.ntmps242
 go_wp2_with (go_at_call 277; refine (wcodeS_any _ _).mono ?_; rintro r w1 ⟨b, rfl, hp, hb⟩; have HP := hide hp; clear hp; have hB := hb)
 all_goals first
  | (go_ret; exact ⟨_, rfl, fun h => absurd h (by decide), by first | (refine Below.trans ?_ (hB.mono (by simp)); (repeat (first | (with_reducible first | exact Below.refl _ _ | assumption | refine Below.drew ?_) | ((with_reducible first | refine Below.alloc ?_ ?_ _ | refine Below.setCell ?_ ?_ _); rotate_left; (first | omega | (simp <;> omega)))))) | (repeat (first | (with_reducible first | exact Below.refl _ _ | assumption | refine Below.drew ?_) | ((with_reducible first | refine Below.alloc ?_ ?_ _ | refine Below.setCell ?_ ?_ _); rotate_left; (first | omega | (simp <;> omega)))))⟩)
  | (go_ret; exact ⟨_, rfl, fun _ => HP.out (by simp_all), by first | (refine Below.trans ?_ (hB.mono (by simp)); (repeat (first | (with_reducible first | exact Below.refl _ _ | assumption | refine Below.drew ?_) | ((with_reducible first | refine Below.alloc ?_ ?_ _ | refine Below.setCell ?_ ?_ _); rotate_left; (first | omega | (simp <;> omega)))))) | (repeat (first | (with_reducible first | exact Below.refl _ _ | assumption | refine Below.drew ?_) | ((with_reducible first | refine Below.alloc ?_ ?_ _ | refine Below.setCell ?_ ?_ _); rotate_left; (first | omega | (simp <;> omega)))))⟩)
end Go.Proofs.YtpghciiifnjimaaGreatDoor
