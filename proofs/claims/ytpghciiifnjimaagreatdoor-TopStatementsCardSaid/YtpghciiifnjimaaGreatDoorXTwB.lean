/- Texts laid together: TwB TwC. -/
import Derived.Test.YtpghciiifnjimaaGreatDoorXTvG
import Derived.Test.YtpghciiifnjimaaGreatDoorXStP
import Derived.Test.YtpghciiifnjimaaGreatDoorXTqE
import Derived.Laws.IdiomArrays
import Derived.Test.YtpghciiifnjimaaGreatDoorXK0
namespace Go.Proofs.YtpghciiifnjimaaGreatDoor
set_option maxRecDepth 4000
set_option linter.unusedSimpArgs false
set_option linter.unusedVariables false
open Go.RowKit
theorem fnd_id {a : Nat → LAcc} {id : Int} : ∀ {n k : Nat}, fndA a id n = some k → k < n ∧ (a k).id = id
 | 0, k, h => by cases h
 | n + 1, k, h => by
  unfold fndA at h
  split at h
  ·injection h with h; subst h; rename_i c; obtain ⟨c1, c2⟩ := fnd_id c; exact ⟨by omega, c2⟩
  ·split at h
   ·injection h with h; subst h; rename_i c; exact ⟨by omega, by simpa using c⟩
   ·cases h
theorem has_id {a : Nat → LAcc} {id : Int} {n : Nat} (h : hasA a id n = true) : ∃ k, k < n ∧ (a k).id = id := by
 unfold hasA at h
 obtain ⟨k, hk⟩ := Option.isSome_iff_exists.1 h
 exact ⟨k, fnd_id hk⟩
/-- Right books, in the walks' terms. -/
structure Rgt (B : LBk) : Prop where
 ok : BkOK B
 id : ∀ k, k < B.an → 1000 ≤ (B.a k).id
 num : ∀ k, k < B.jn → numA B.E k = B.E k
 bk : ∀ k, k + 1 < B.jn → (B.E k).bk ≤ (B.E (k + 1)).bk
theorem rgt_of {ck : Nat → Tr} (kn : KnOK 15 ck) {X : Array Value} {w : World} (hX : ElT (Old w) w 15 ck X) (hF : FewT ck) (hS : SndT ck) : ∃ B : LBk, B.C = X ∧ Rgt B ∧ BkIn w B := by
 obtain ⟨B, rfl, hB, hw⟩ := bk_of kn (sml_of hF hS.ti) hX
 have ha := acc_id hB hw kn hX
 have he := ent_id hB hw kn hX
 refine ⟨B, rfl, ⟨hB, fun k hk => ?_, fun k hk => ?_, fun k hk => ?_⟩, hw⟩
 ·rw [← ha.2 k hk]; exact hS.id k (by rw [ha.1]; exact hk)
 ·have h1 := (hS.ve k (by rw [he.1]; exact hk)).1
  rw [(he.2 k hk).1] at h1
  show ({ B.E k with id := (k : Int) + 1 } : LEnt) = B.E k
  rw [← h1]
 ·have h1 := (hS.ve (k + 1) (by rw [he.1]; exact hk)).2 k rfl
  rw [(he.2 k (by omega)).2, (he.2 (k + 1) hk).2] at h1
  exact h1
theorem Rgt.jrn {B : LBk} (h : Rgt B) {w : World} (hw : BkIn w B) : Jrn w B.jA B.jn (numA B.E) :=
 ⟨hw.jrn.row.congr fun k hk => (h.num k hk).symm, fun k hk => hw.jrn.legs k hk⟩
set_option maxRecDepth 8000 in
theorem states_any (w : World) (ht : Tab w) : Calls Tryz.prog 6 #[] w fun e w' => e = .returned (.bool true) ∧ Below w.heap.size w w' := by
 have HT := hide ht
 clear ht
 go_enter Tryz.func6, Tryz.ntmps6
 go_wp2_with fail
 refine (alive_any _ HT.out).mono ?_
 rintro e w1 ⟨rfl, hb⟩
 have B1 := hide hb
 clear hb
 go_wp2_with fail
 refine (lives_any _ (HT.out.below B1.out)).mono ?_
 rintro e w2 ⟨rfl, hb⟩
 go_wp2_with fail
 go_ret
 exact ⟨rfl, B1.out.trans (hb.mono B1.out.size)⟩
set_option maxRecDepth 20000 in
set_option maxHeartbeats 40000000 in
theorem walk_statements (X : Array Value) (ck : Nat → Tr) (id d0 d1 d2 : Int) (i0 : IIn d0) (i1 : IIn d1) (i2 : IIn d2) (w : World) (kn : KnOK 15 ck) (hX : ElT (Old w) w 15 ck X) (ht : Tab w) :
  Calls Tryz.prog 3 #[.agg X, .int .i64 id, .agg #[.int .i64 d0, .int .i64 d1, .int .i64 d2]] w fun e w' => e = .returned (.bool true) ∧ Below w.heap.size w w' := by
 have HSB := hide (show (Tryz.prog.info? 33).map (·.size) = some X.size by rw [hX.size]; kernel_rfl)
 have HX := hide hX
 have KN := hide kn
 have HT := hide ht
 have HI := hide (And.intro i0 (And.intro i1 i2))
 clear kn hX ht i0 i1 i2
 go_enter Tryz.func3, Tryz.ntmps3
 go_wp2_with (with_reducible refine wpList_load_row rfl 33 (.tmp 3) rfl w.heap.size rfl 33 X (0, 0) _ (two_boxes _ _ _) Tryz.underlying33 rfl HSB.out ?_)
 refine (wsound_any KN.out X _ (HX.out.below belT)).mono ?_
 rintro e w1 ⟨b, rfl, hf, hb⟩
 have HF := hide hf
 have X1 := hide ((hb.block w.heap.size (by simp; omega)).trans (two_boxes _ _ _))
 clear hf
 have HZ1 := hide (show w.heap.size + 1 < w1.heap.size by have := hb.size; simp at this; omega)
 have q1B : Below w.heap.size w w1 := qB hb
 have q1z := hb.size
 try simp at q1z
 have q1t : w.heap.size ≤ w1.heap.size := (by omega)
 obtain ⟨q1s0, q1n0_0, q1n0_1, q1n0_2⟩ := kB w1.heap.size (w.heap.size + 1)
 obtain ⟨q1c0_0, q1c0_1, q1c0_2, q1f0⟩ := kC3 hb (w.heap.size + 1)
 simp [go_sem, *] at q1c0_0 q1c0_1 q1c0_2 q1f0
 have q1o := belO q1B
 clear hb
 have B1 := hide q1B
 have z1 : w.heap.size + 1 < w1.heap.size := HZ1.out
 cases b with
 | false =>
  go_wp2_with fail
  refine (states_any _ (HT.out.below B1.out)).mono ?_
  rintro e wz ⟨rfl, hb⟩
  have BZ := hide (B1.out.trans (hb.mono B1.out.size))
  clear hb
  go_wp2_with fail
  go_ret
  exact ⟨rfl, BZ.out⟩
 | true =>
  obtain ⟨B, rfl, hR, hw⟩ := rgt_of KN.out HX.out (HF.out rfl).1 (HF.out rfl).2
  have HR := hide hR
  have HW := hide hw
  clear hR hw
  by_cases c0 : d1 < d0
  ·go_wp2_with fail
   refine (states_any _ (HT.out.below B1.out)).mono ?_
   rintro e wz ⟨rfl, hb⟩
   have BZ := hide (B1.out.trans (hb.mono B1.out.size))
   clear hb
   go_wp2_with fail
   go_ret
   exact ⟨rfl, BZ.out⟩
  ·have g0 : d0 ≤ d1 := by omega
   clear c0
   by_cases c1 : d2 ≤ d1
   ·go_wp2_with fail
    refine (states_any _ (HT.out.below B1.out)).mono ?_
    rintro e wz ⟨rfl, hb⟩
    have BZ := hide (B1.out.trans (hb.mono B1.out.size))
    clear hb
    go_wp2_with fail
    go_ret
    exact ⟨rfl, BZ.out⟩
   ·have g1 : d1 < d2 := by omega
    clear c1
    have u3 : d1 + 1 ≤ 9223372036854775807 := by have := HI.out.2.2.2; omega
    have u4 : -9223372036854775808 ≤ d1 + 1 := by have := HI.out.2.1.1; omega
    obtain ⟨R1, hR1⟩ : ∃ R, R = mkE (hasA B.a id B.an) 1 d0 d1 := ⟨_, rfl⟩
    by_cases hne : R1 = 0
    ·have e1 : mkE (hasA B.a id B.an) 1 d0 d1 = 0 := hR1 ▸ hne
     have hlast := (mk_to e1).2
     by_cases c2 : d2 ≤ 73048
     ·have hh : hasA B.a id B.an = true := mk_has e1
      have hd0 := mk_from e1
      have e2 : mkE (hasA B.a id B.an) (1 + 1) (d1 + 1) d2 = 0 := mkE_5 hh (by decide) (vday_iff.2 ⟨by omega, by omega⟩) (vday_iff.2 ⟨by omega, c2⟩) (by omega)
      have e3 : mkE (hasA B.a id B.an) 1 d0 d2 = 0 := mkE_5 hh (by decide) (vday_iff.2 hd0) (vday_iff.2 ⟨by omega, c2⟩) (by omega)
      have h1000 : 1000 ≤ id := by obtain ⟨k, hk, he⟩ := has_id hh; rw [← he]; exact HR.out.id k hk
      obtain ⟨O1, K1, K2, n1, n2, P1, P2, h3⟩ := fol3 HR.out.ok.bks B.a B.E HR.out.ok.an HR.out.ok.jn HR.out.bk (x0 := id) (x1 := 1) (x2 := d0) (m := d1) (x3 := d2) h1000 g0 g1 e1 e2 e3
      have M1 := hide h3.m1
      have M2 := hide (show ∀ W, RowAcc W B.aA B.an B.a → Jrn W B.jA B.jn (numA B.E) → Calls Tryz.prog 7 #[.agg B.C, .int .i64 id, .int .i64 2, .int .i64 (d1 + 1), .int .i64 d2] W (StR id 2 (d1 + 1) d2 K1 K2 n2 P2 W) from h3.m2)
      have M3 := hide h3.m3
      have HK3 := hide h3.k3
      have hle : n1 + n2 ≤ 1000000 := by have := h3.le; have := HR.out.ok.jn; omega
      have HFO := hide (fol_yes (ac := id) (no := 1) (t := d1) (cl := K1) (bac := id) (bno := 2) (bf := d1 + 1) (bop := K1) rfl rfl rfl rfl)
      have HJ := hide (fun W (h : BkIn W B) => HR.out.jrn h)
      clear h3 hh hd0 e1 e2 e3 h1000 hR1 hne
      go_wp2_with (with_reducible refine wpList_load_row rfl 33 (.tmp 3) rfl w.heap.size rfl 33 B.C (0, 0) _ X1.out Tryz.underlying33 rfl HSB.out ?_)
      refine (M1.out _ (HW.out.acc.below (B1.out.trans belT)) (HJ.out _ (HW.out.below (B1.out.trans belT)))).mono ?_
      rintro e w2 ⟨A1, k1, rfl, hrow, hb⟩
      have HA1 := hide hrow
      have X2 := hide (blk_below hb (by first | omega | (simp <;> omega)) X1.out)
      clear hrow
      have q2B : Below w1.heap.size w1 w2 := qB hb
      have q2z := hb.size
      try simp at q2z
      have q2t : w1.heap.size ≤ w2.heap.size := (by omega)
      obtain ⟨q2s0, q2n0_0, q2n0_1, q2n0_2⟩ := kB w2.heap.size (w.heap.size + 1)
      obtain ⟨q2c0_0, q2c0_1, q2c0_2, q2f0⟩ := kC3 hb (w.heap.size + 1)
      simp [go_sem, *] at q2c0_0 q2c0_1 q2c0_2 q2f0
      have q2o := belO q2B
      clear hb q1o q1f0 q1c0_2 q1c0_1 q1c0_0 q1s0 q1z q1B
      have B2 := hide (B1.out.trans (q2B.mono (by omega)))
      go_wp2_with (with_reducible refine wpList_load_row rfl 33 (.tmp 3) rfl w.heap.size rfl 33 B.C (0, 0) _ (blk_under X2.out) Tryz.underlying33 rfl HSB.out ?_)
      refine (M2.out _ (HW.out.acc.below (B2.out.trans belT)) (HJ.out _ (HW.out.below (B2.out.trans belT)))).mono ?_
      rintro e w3 ⟨A2, k2, rfl, hrow, hb⟩
      have HA2 := hide hrow
      have X3 := hide (blk_below hb (by first | omega | (simp <;> omega)) (blk_under X2.out))
      clear hrow
      have q3B : Below w2.heap.size w2 w3 := qB hb
      have q3z := hb.size
      try simp at q3z
      have q3t : w2.heap.size ≤ w3.heap.size := (by omega)
      obtain ⟨q3s0, q3n0_0, q3n0_1, q3n0_2⟩ := kB w3.heap.size (w.heap.size + 1)
      obtain ⟨q3c0_0, q3c0_1, q3c0_2, q3f0⟩ := kC3 hb (w.heap.size + 1)
      simp [go_sem, *] at q3c0_0 q3c0_1 q3c0_2 q3f0
      obtain ⟨q3s1, q3n1_0, q3n1_1, q3n1_2⟩ := kB w3.heap.size w2.heap.size
      obtain ⟨q3c1_0, q3c1_1, q3c1_2, q3c1_3, q3c1_4, q3c1_5, q3c1_6, q3f1⟩ := kC7 hb w2.heap.size
      simp [go_sem, *] at q3c1_0 q3c1_1 q3c1_2 q3c1_3 q3c1_4 q3c1_5 q3c1_6 q3f1
      have q3o := belO q3B
      clear hb q2o q2f0 q2c0_2 q2c0_1 q2c0_0 q2s0 q2z q2B
      have B3 := hide (B2.out.trans (q3B.mono (by omega)))
      go_wp2_with (with_reducible refine wpList_load_row rfl 33 (.tmp 3) rfl w.heap.size rfl 33 B.C (0, 0) _ (blk_under X3.out) Tryz.underlying33 rfl HSB.out ?_)
      refine (M3.out _ (HW.out.acc.below (B3.out.trans belT)) (HJ.out _ (HW.out.below (B3.out.trans belT)))).mono ?_
      rintro e w4 ⟨A3, k3, rfl, hrow, hb⟩
      have HA3 := hide hrow
      clear hrow
      have q4B : Below w3.heap.size w3 w4 := qB hb
      have q4z := hb.size
      try simp at q4z
      have q4t : w3.heap.size ≤ w4.heap.size := (by omega)
      obtain ⟨q4s0, q4n0_0, q4n0_1, q4n0_2⟩ := kB w4.heap.size (w.heap.size + 1)
      obtain ⟨q4c0_0, q4c0_1, q4c0_2, q4f0⟩ := kC3 hb (w.heap.size + 1)
      simp [go_sem, *] at q4c0_0 q4c0_1 q4c0_2 q4f0
      obtain ⟨q4s1, q4n1_0, q4n1_1, q4n1_2⟩ := kB w4.heap.size w2.heap.size
      obtain ⟨q4c1_0, q4c1_1, q4c1_2, q4c1_3, q4c1_4, q4c1_5, q4c1_6, q4f1⟩ := kC7 hb w2.heap.size
      simp [go_sem, *] at q4c1_0 q4c1_1 q4c1_2 q4c1_3 q4c1_4 q4c1_5 q4c1_6 q4f1
      obtain ⟨q4s2, q4n2_0, q4n2_1, q4n2_2⟩ := kB w4.heap.size w3.heap.size
      obtain ⟨q4c2_0, q4c2_1, q4c2_2, q4c2_3, q4c2_4, q4c2_5, q4c2_6, q4f2⟩ := kC7 hb w3.heap.size
      simp [go_sem, *] at q4c2_0 q4c2_1 q4c2_2 q4c2_3 q4c2_4 q4c2_5 q4c2_6 q4f2
      have q4o := belO q4B
      clear hb q3o q3f1 q3c1_6 q3c1_5 q3c1_4 q3c1_3 q3c1_2 q3c1_1 q3c1_0 q3s1 q3f0 q3c0_2 q3c0_1 q3c0_0 q3s0 q3z q3B
      have B4 := hide (B3.out.trans (q4B.mono (by omega)))
      go_wp2_with fail
      refine (follows_any id 1 d0 d1 O1 K1 id 2 (d1 + 1) d2 K1 K2 A1 A2 n1 k1 n2 k2 ⟨by decide, by decide⟩ HI.out.2.1 ⟨by decide, by decide⟩ ⟨u4, u3⟩ _).mono ?_
      rintro e w5 ⟨rfl, hb⟩
      rw [HFO.out]
      have q5B : Below w4.heap.size w4 w5 := qB hb
      have q5z := hb.size
      try simp at q5z
      have q5t : w4.heap.size ≤ w5.heap.size := (by omega)
      obtain ⟨q5s0, q5n0_0, q5n0_1, q5n0_2⟩ := kB w5.heap.size w2.heap.size
      obtain ⟨q5c0_0, q5c0_1, q5c0_2, q5c0_3, q5c0_4, q5c0_5, q5c0_6, q5f0⟩ := kC7 hb w2.heap.size
      simp [go_sem, *] at q5c0_0 q5c0_1 q5c0_2 q5c0_3 q5c0_4 q5c0_5 q5c0_6 q5f0
      obtain ⟨q5s1, q5n1_0, q5n1_1, q5n1_2⟩ := kB w5.heap.size w3.heap.size
      obtain ⟨q5c1_0, q5c1_1, q5c1_2, q5c1_3, q5c1_4, q5c1_5, q5c1_6, q5f1⟩ := kC7 hb w3.heap.size
      simp [go_sem, *] at q5c1_0 q5c1_1 q5c1_2 q5c1_3 q5c1_4 q5c1_5 q5c1_6 q5f1
      obtain ⟨q5s2, q5n2_0, q5n2_1, q5n2_2⟩ := kB w5.heap.size w4.heap.size
      obtain ⟨q5c2_0, q5c2_1, q5c2_2, q5c2_3, q5c2_4, q5c2_5, q5c2_6, q5f2⟩ := kC7 hb w4.heap.size
      simp [go_sem, *] at q5c2_0 q5c2_1 q5c2_2 q5c2_3 q5c2_4 q5c2_5 q5c2_6 q5f2
      have q5o := belO q5B
      clear hb q4o q4f2 q4c2_6 q4c2_5 q4c2_4 q4c2_3 q4c2_2 q4c2_1 q4c2_0 q4s2 q4f1 q4c1_6 q4c1_5 q4c1_4 q4c1_3 q4c1_2 q4c1_1 q4c1_0 q4s1 q4f0 q4c0_2 q4c0_1 q4c0_0 q4s0 q4z q4B
      have B5 := hide q5B
      go_wp2_with fail
      refine (check_any id 1 d0 d2 O1 K2 A3 (n1 + n2) k3 (catP P1 n1 P2) hle _ (HA3.out.below (B5.out.trans belT))).mono ?_
      rintro e w6 ⟨rfl, hb⟩
      rw [HK3.out]
      have B6 := hide (B4.out.trans ((B5.out.trans ((Below.trans (by (repeat (first | (with_reducible first | exact Below.refl _ _ | assumption | refine Below.drew ?_) | ((with_reducible first | refine Below.alloc ?_ ?_ _ | refine Below.setCell ?_ ?_ _); rotate_left; (first | omega | (simp <;> omega))))) : Below w5.heap.size w5 _) (hb.mono (by simp))).mono B5.out.size)).mono B4.out.size))
      clear hb
      go_wp2_with fail
      refine (states_any _ (HT.out.below B6.out)).mono ?_
      rintro e wz ⟨rfl, hb⟩
      have BZ := hide (B6.out.trans (hb.mono B6.out.size))
      clear hb
      go_wp2_with fail
      go_ret
      exact ⟨rfl, BZ.out⟩
     ·have hh : hasA B.a id B.an = true := mk_has e1
      have hd0 := mk_from e1
      obtain ⟨R2, hR2⟩ : ∃ R, R = mkE (hasA B.a id B.an) 2 (d1 + 1) d2 := ⟨_, rfl⟩
      have r2 : (R2 != 0) = true := bne_iff_ne.2 fun h => by rw [hR2] at h; have := (mk_to h).2; omega
      obtain ⟨R3, hR3⟩ : ∃ R, R = mkE (hasA B.a id B.an) 1 d0 d2 := ⟨_, rfl⟩
      have M1 := hide (show ∀ W, BkIn W B → Calls Tryz.prog 7 #[.agg B.C, .int .i64 id, .int .i64 1, .int .i64 d0, .int .i64 d1] W (StE R1 W) from fun W h => (by have h := make_any B.C B.aA B.an B.ac B.jA B.jn B.jc HR.out.ok.bks B.a B.E id 1 d0 d1 HR.out.ok.an HR.out.ok.jn W h.acc h.jrn; rw [← hR1] at h; exact h.mono fun _ _ hh => stE_of hh))
      have M2 := hide (show ∀ W, BkIn W B → Calls Tryz.prog 7 #[.agg B.C, .int .i64 id, .int .i64 2, .int .i64 (d1 + 1), .int .i64 d2] W (StE R2 W) from fun W h => (by have h := make_any B.C B.aA B.an B.ac B.jA B.jn B.jc HR.out.ok.bks B.a B.E id 2 (d1 + 1) d2 HR.out.ok.an HR.out.ok.jn W h.acc h.jrn; rw [← hR2] at h; exact h.mono fun _ _ hh => stE_of hh))
      have M3 := hide (show ∀ W, BkIn W B → Calls Tryz.prog 7 #[.agg B.C, .int .i64 id, .int .i64 1, .int .i64 d0, .int .i64 d2] W (StE R3 W) from fun W h => (by have h := make_any B.C B.aA B.an B.ac B.jA B.jn B.jc HR.out.ok.bks B.a B.E id 1 d0 d2 HR.out.ok.an HR.out.ok.jn W h.acc h.jrn; rw [← hR3] at h; exact h.mono fun _ _ hh => stE_of hh))
      have FD := hide (fun W h => (by have t := rfind_any B.C B.aA B.an B.ac B.jA B.jn B.jc HR.out.ok.bks B.a id HR.out.ok.an W h; rw [hh] at t; exact t))
      clear hR1 hR2 hR3 e1 hh hd0
      subst hne
      go_wp2_with (with_reducible refine wpList_load_row rfl 33 (.tmp 3) rfl w.heap.size rfl 33 B.C (0, 0) _ X1.out Tryz.underlying33 rfl HSB.out ?_)
      refine (M1.out _ (HW.out.below (B1.out.trans belT))).mono ?_
      rintro e w2 ⟨a0, a1, a2, a3, a4, a5, A1, n1, k1, rfl, hb⟩
      have X2 := hide (blk_below hb (by first | omega | (simp <;> omega)) X1.out)
      have q2B : Below w1.heap.size w1 w2 := qB hb
      have q2z := hb.size
      try simp at q2z
      have q2t : w1.heap.size ≤ w2.heap.size := (by omega)
      obtain ⟨q2s0, q2n0_0, q2n0_1, q2n0_2⟩ := kB w2.heap.size (w.heap.size + 1)
      obtain ⟨q2c0_0, q2c0_1, q2c0_2, q2f0⟩ := kC3 hb (w.heap.size + 1)
      simp [go_sem, *] at q2c0_0 q2c0_1 q2c0_2 q2f0
      have q2o := belO q2B
      clear hb
      have B2 := hide (B1.out.trans (q2B.mono (by omega)))
      go_wp2_with (with_reducible refine wpList_load_row rfl 33 (.tmp 3) rfl w.heap.size rfl 33 B.C (0, 0) _ (blk_under X2.out) Tryz.underlying33 rfl HSB.out ?_)
      refine (M2.out _ (HW.out.below (B2.out.trans belT))).mono ?_
      rintro e w3 ⟨b0, b1, b2, b3, b4, b5, A2, n2, k2, rfl, hb⟩
      have X3 := hide (blk_below hb (by first | omega | (simp <;> omega)) (blk_under X2.out))
      have q3B : Below w2.heap.size w2 w3 := qB hb
      have q3z := hb.size
      try simp at q3z
      have q3t : w2.heap.size ≤ w3.heap.size := (by omega)
      obtain ⟨q3s0, q3n0_0, q3n0_1, q3n0_2⟩ := kB w3.heap.size (w.heap.size + 1)
      obtain ⟨q3c0_0, q3c0_1, q3c0_2, q3f0⟩ := kC3 hb (w.heap.size + 1)
      simp [go_sem, *] at q3c0_0 q3c0_1 q3c0_2 q3f0
      have q3o := belO q3B
      clear hb q2o q2f0 q2c0_2 q2c0_1 q2c0_0 q2s0 q2z q2B
      have B3 := hide (B2.out.trans (q3B.mono (by omega)))
      go_wp2_with (with_reducible refine wpList_load_row rfl 33 (.tmp 3) rfl w.heap.size rfl 33 B.C (0, 0) _ (blk_under X3.out) Tryz.underlying33 rfl HSB.out ?_)
      refine (M3.out _ (HW.out.below (B3.out.trans belT))).mono ?_
      rintro e w4 ⟨c0, c1, c2, c3, c4, c5, A3, n3, k3, rfl, hb⟩
      have X4 := hide (blk_below hb (by first | omega | (simp <;> omega)) (blk_under X3.out))
      have q4B : Below w3.heap.size w3 w4 := qB hb
      have q4z := hb.size
      try simp at q4z
      have q4t : w3.heap.size ≤ w4.heap.size := (by omega)
      obtain ⟨q4s0, q4n0_0, q4n0_1, q4n0_2⟩ := kB w4.heap.size (w.heap.size + 1)
      obtain ⟨q4c0_0, q4c0_1, q4c0_2, q4f0⟩ := kC3 hb (w.heap.size + 1)
      simp [go_sem, *] at q4c0_0 q4c0_1 q4c0_2 q4f0
      have q4o := belO q4B
      clear hb q3o q3f0 q3c0_2 q3c0_1 q3c0_0 q3s0 q3z q3B
      have B4 := hide (B3.out.trans (q4B.mono (by omega)))
      go_wp2_with (with_reducible refine wpList_load_row rfl 33 (.tmp 3) rfl w.heap.size rfl 33 B.C (0, 0) _ (blk_under X4.out) Tryz.underlying33 rfl HSB.out ?_)
      refine (FD.out _ (HW.out.acc.below (B4.out.trans belT))).mono ?_
      rintro e w5 ⟨rfl, hb⟩
      have q5B : Below w4.heap.size w4 w5 := qB hb
      have q5z := hb.size
      try simp at q5z
      have q5t : w4.heap.size ≤ w5.heap.size := (by omega)
      obtain ⟨q5s0, q5n0_0, q5n0_1, q5n0_2⟩ := kB w5.heap.size (w.heap.size + 1)
      obtain ⟨q5c0_0, q5c0_1, q5c0_2, q5f0⟩ := kC3 hb (w.heap.size + 1)
      simp [go_sem, *] at q5c0_0 q5c0_1 q5c0_2 q5f0
      have q5o := belO q5B
      clear hb q4o q4f0 q4c0_2 q4c0_1 q4c0_0 q4s0 q4z q4B
      have B5 := hide (B4.out.trans (q5B.mono (by omega)))
      go_wp2_with fail
      refine (states_any _ (HT.out.below (B5.out.trans belT))).mono ?_
      rintro e wz ⟨rfl, hb⟩
      have BZ := hide (B5.out.trans ((Below.trans (by (repeat (first | (with_reducible first | exact Below.refl _ _ | assumption | refine Below.drew ?_) | ((with_reducible first | refine Below.alloc ?_ ?_ _ | refine Below.setCell ?_ ?_ _); rotate_left; (first | omega | (simp <;> omega))))) : Below w5.heap.size w5 _) (hb.mono (by simp))).mono B5.out.size))
      clear hb
      go_wp2_with fail
      go_ret
      exact ⟨rfl, BZ.out⟩
    ·have M1 := hide (show ∀ W, BkIn W B → Calls Tryz.prog 7 #[.agg B.C, .int .i64 id, .int .i64 1, .int .i64 d0, .int .i64 d1] W (StE R1 W) from fun W h => (by have h := make_any B.C B.aA B.an B.ac B.jA B.jn B.jc HR.out.ok.bks B.a B.E id 1 d0 d1 HR.out.ok.an HR.out.ok.jn W h.acc h.jrn; rw [← hR1] at h; exact h.mono fun _ _ hh => stE_of hh))
     have r1 : (R1 != 0) = true := bne_iff_ne.2 hne
     clear hR1 hne
     go_wp2_with (with_reducible refine wpList_load_row rfl 33 (.tmp 3) rfl w.heap.size rfl 33 B.C (0, 0) _ X1.out Tryz.underlying33 rfl HSB.out ?_)
     refine (M1.out _ (HW.out.below (B1.out.trans belT))).mono ?_
     rintro e w2 ⟨a0, a1, a2, a3, a4, a5, A1, n1, k1, rfl, hb⟩
     have q2B : Below w1.heap.size w1 w2 := qB hb
     have q2z := hb.size
     try simp at q2z
     have q2t : w1.heap.size ≤ w2.heap.size := (by omega)
     have q2o := belO q2B
     clear hb
     have B2 := hide (B1.out.trans (q2B.mono (by omega)))
     go_wp2_with fail
     refine (states_any _ (HT.out.below (B2.out.trans belT))).mono ?_
     rintro e wz ⟨rfl, hb⟩
     have BZ := hide (B2.out.trans ((Below.trans (by (repeat (first | (with_reducible first | exact Below.refl _ _ | assumption | refine Below.drew ?_) | ((with_reducible first | refine Below.alloc ?_ ?_ _ | refine Below.setCell ?_ ?_ _); rotate_left; (first | omega | (simp <;> omega))))) : Below w2.heap.size w2 _) (hb.mono (by simp))).mono B2.out.size))
     clear hb
     go_wp2_with fail
     go_ret
     exact ⟨rfl, BZ.out⟩
end Go.Proofs.YtpghciiifnjimaaGreatDoor
namespace Go.Proofs.YtpghciiifnjimaaGreatDoor
set_option maxRecDepth 4000
set_option linter.unusedSimpArgs false
set_option linter.unusedVariables false
theorem arr3_open {H : Type} {enc : TypeId × Value → H} {P : Program} {w : World} {base : Nat} {spare : Nat → Bool} {held : Bool} {r : Reach} {b0 : Nat} {t e : TypeId} {v : Value} {d : DataW H} {p : List MemPlace}
  (ht : P.underlying t = some (.array 3 e)) (he : P.underlying e = some (.int .i64)) (hc : P.cellsOf t = 3) (hce : P.cellsOf e = 1) (hv : Value.okWide P w r b0 t v) (h : DataW.Trod enc P w base spare held t v d p) :
  ∃ a b c : Int, v = .agg #[.int .i64 a, .int .i64 b, .int .i64 c] ∧ IIn a ∧ IIn b ∧ IIn c := by
 simp only [Value.okWide, ht] at hv
 obtain ⟨cs, rfl, hs, _⟩ := hv
 rw [hc] at hs
 obtain ⟨l⟩ := cs
 match l, hs with
 | [c0, c1, c2], _ =>
  obtain ⟨fuel, hf⟩ := h
  obtain ⟨xs, m, _, _, _, hxl, hi⟩ := DataW.trod_array ht hf
  have g0 := hi 0 (by decide)
  have g1 := hi 1 (by decide)
  have g2 := hi 2 (by decide)
  rw [hce, List.getElem?_eq_getElem (by omega)] at g0 g1 g2
  have r0 : ((Value.agg #[c0, c1, c2]).cells.toList.drop (0 * 1)).take 1 = [c0] := rfl
  have r1 : ((Value.agg #[c0, c1, c2]).cells.toList.drop (1 * 1)).take 1 = [c1] := rfl
  have r2 : ((Value.agg #[c0, c1, c2]).cells.toList.drop (2 * 1)).take 1 = [c2] := rfl
  rw [r0] at g0
  rw [r1] at g1
  rw [r2] at g2
  obtain ⟨a, ha, _, wa⟩ := DataW.trod_int he g0
  obtain ⟨b, hb, _, wb⟩ := DataW.trod_int he g1
  obtain ⟨c, hcc, _, wc⟩ := DataW.trod_int he g2
  simp only [List.cons.injEq, and_true] at ha hb hcc
  subst ha hb hcc
  simp [Lit.wf] at wa wb wc
  exact ⟨a, b, c, rfl, wa, wb, wc⟩
end Go.Proofs.YtpghciiifnjimaaGreatDoor
