/- Texts laid together: Eys Euf. -/
import Derived.Test.YtdjlaiilngechaaGreatDoorUEyr
import Derived.Test.YtdjlaiilngechaaGreatDoorUEya
import Derived.Test.YtdjlaiilngechaaGreatDoorUEue
import Derived.Test.YtdjlaiilngechaaGreatDoorUEuo
import Derived.Test.YtdjlaiilngechaaGreatDoorUK0
namespace Go.Proofs.YtdjlaiilngechaaGreatDoor
set_option maxRecDepth 4000
set_option linter.unusedSimpArgs false
set_option linter.unusedVariables false
open Go.RowKit
theorem at_on {w : World} {A : Option Addr} {A1 : Option Addr} {c1 : Nat} (h : RowLn w A 1 (onX A1 c1)) : ∃ b o, A = some ⟨b, o, none⟩ ∧ b < w.heap.size ∧ w.cell? ⟨b, o + 3, none⟩ = some (.int .i64 43920) ∧ w.cell? ⟨b, o + 5, none⟩ = some (.int .i64 0) ∧ w.cell? ⟨b, o + 6, none⟩ = some (.int .u64 65880000000000) := by
 obtain ⟨b, o, e, hlt, -, -, -, h3, -, h5, h6⟩ := h.at (show 0 < 1 by decide)
 refine ⟨b, o, e, hlt, ?_, ?_, ?_⟩
 ·exact (by simpa using h3 : w.cell? ⟨b, o + 3, none⟩ = some (.int .i64 (onX A1 c1 0).1.we))
 ·have : hiW exL1.gr = 0 := by decide +kernel
  simpa [onX, this] using h5
 ·have : loW exL1.gr = 65880000000000 := by decide +kernel
  simpa [onX, this] using h6
theorem at_tw {w : World} {A : Option Addr} {A1 : Option Addr} {c1 : Nat} {A2 : Option Addr} {c2 : Nat} (h : RowLn w A 2 (twX A1 c1 A2 c2)) : ∃ b o, A = some ⟨b, o, none⟩ ∧ b < w.heap.size ∧ w.cell? ⟨b, o + 1, none⟩ = some (.int .i64 4) ∧ w.cell? ⟨b, o + 7, none⟩ = some (.int .i64 5) ∧ w.cell? ⟨b, o + 9, none⟩ = some (.int .i64 150000) := by
 obtain ⟨b, o, e, hlt, -, h1, -⟩ := h.at (show 0 < 2 by decide)
 obtain ⟨b', o', e', -, g0, -, g2, -⟩ := h.at (show 1 < 2 by decide)
 rw [e] at e'
 injection e' with e'
 injection e' with e1 e2 _
 subst e1 e2
 refine ⟨b, o, e, hlt, ?_, ?_, ?_⟩
 ·exact (by simpa using h1 : w.cell? ⟨b, o + 1, none⟩ = some (.int .i64 (twX A1 c1 A2 c2 0).1.tt))
 ·exact (by simpa using g0 : w.cell? ⟨b, o + 7, none⟩ = some (.int .i64 (twX A1 c1 A2 c2 1).1.fr))
 ·exact (by simpa using g2 : w.cell? ⟨b, o + 7 + 2, none⟩ = some (.int .i64 (twX A1 c1 A2 c2 1).1.bl))
theorem at_tx {w : World} {A : Option Addr} {t : ByteArray} (h : RowTx w A 1 (fun _ => t)) : ∃ b o, A = some ⟨b, o, none⟩ ∧ b < w.heap.size ∧ w.cell? ⟨b, o, none⟩ = some (.string t) := by
 obtain ⟨b, o, e, hlt, hc⟩ := h (by decide)
 exact ⟨b, o, e, hlt, hc 0 (by decide)⟩
set_option maxRecDepth 8000 in
set_option maxHeartbeats 8000000 in
theorem live_any (w : World) (ht : Tab w) : Calls Tryz.prog 11 #[] w fun e w' => e = .returned (.bool true) ∧ Below w.heap.size w w' := by
 have HT := hide ht
 clear ht
 go_enter Tryz.func11, Tryz.ntmps11
 go_wp2_with fail
 refine (books_any 20 _).mono ?_
 rintro e w1 ⟨C1, tb1, pb1, ab1, jb1, b11, b21, rfl, hB1, hI1, hb⟩
 have HA1 := hide (And.intro hB1 hI1)
 have B1 := hide hb
 clear hB1 hI1 hb
 go_wp2_with fail
 refine (lv_lines1 HA1.out.1 _ HA1.out.2).mono ?_
 rintro e w2 ⟨Al, cl, Al1, cl1, rfl, hr, hb⟩
 obtain ⟨bl, ol, rfl, hbl, -⟩ := at_on hr
 have HL := hide hr
 have B2 := hide (B1.out.trans (hb.mono B1.out.size))
 clear hr hb
 go_wp2_with fail
 refine (books_any 5 _).mono ?_
 rintro e w3 ⟨C2, tb2, pb2, ab2, jb2, b12, b22, rfl, hB2, hI2, hb⟩
 have HA2 := hide (And.intro hB2 hI2)
 have D3 := hide hb
 have B3 := hide (B2.out.trans (hb.mono B2.out.size))
 clear hB2 hI2 hb
 go_wp2_with fail
 refine (lv_lines2 HA2.out.1 _ HA2.out.2).mono ?_
 rintro e w4 ⟨Am, cm, Am1, cm1, Am2, cm2, rfl, hr, hb⟩
 obtain ⟨bm, om, rfl, hbm, -⟩ := at_tw hr
 have HM := hide hr
 have HL4 := hide (HL.out.below (D3.out.trans (hb.mono D3.out.size)))
 have B4 := hide (B3.out.trans (hb.mono B3.out.size))
 clear hr hb
 go_wp2_with fail
 refine (lv_text _ cl Al1 cl1 _ HL4.out (HT.out.below B4.out)).mono ?_
 rintro e w5 ⟨At, ct, rfl, hr, hb⟩
 obtain ⟨bt, ot, rfl, hbt, -⟩ := at_tx hr
 have HTx := hide hr
 have HL5 := hide (HL4.out.below hb)
 have HM5 := hide (HM.out.below hb)
 have B5 := hide (B4.out.trans (hb.mono B4.out.size))
 clear hr hb
 go_wp2_with fail
 refine (books_any 5 _).mono ?_
 rintro e w6 ⟨C3, tb3, pb3, ab3, jb3, b13, b23, rfl, hB3, hI3, hb⟩
 have HA3 := hide (And.intro hB3 hI3)
 have D6 := hide hb
 have B6 := hide (B5.out.trans (hb.mono B5.out.size))
 clear hB3 hI3 hb
 go_wp2_with fail
 refine (lv_lines0 HA3.out.1 _ HA3.out.2).mono ?_
 rintro e w7 ⟨An, cn, rfl, hb⟩
 have D7 := hide (D6.out.trans (hb.mono D6.out.size))
 have HL7 := hide (HL5.out.below D7.out)
 have HM7 := hide (HM5.out.below D7.out)
 have HT7 := hide (RowTx.below HTx.out D7.out)
 have B7 := hide (B5.out.trans (D7.out.mono B5.out.size))
 clear hb
 go_wp2_with fail
 refine (lv_sum _ cl Al1 cl1 _ HL7.out).mono ?_
 rintro e w8 ⟨rfl, hb⟩
 have HL8 := hide (HL7.out.below hb)
 have HM8 := hide (HM7.out.below hb)
 have HT8 := hide (RowTx.below HT7.out hb)
 have B8 := hide (B7.out.trans (hb.mono B7.out.size))
 clear hb
 go_wp2_with fail
 refine (lv_diff _ _ cm cl Al1 cl1 Am1 cm1 Am2 cm2 _ (HL8.out.below belT) (HM8.out.below belT)).mono ?_
 rintro e w9 ⟨Ad, cd, Ad1, cd1, Ad2, cd2, rfl, hr, hb⟩
 have HDf := hide hr
 have hb2 : Below w8.heap.size w8 w9 := Below.trans belT (hb.mono (by simp))
 have HL9 := hide (HL8.out.below hb2)
 have HM9 := hide (HM8.out.below hb2)
 have HT9 := hide (RowTx.below HT8.out hb2)
 have B9 := hide (B8.out.trans (hb2.mono B8.out.size))
 clear hr hb2
 have q9B : Below w8.heap.size w8 w9 := qB hb
 have q9z := hb.size
 try simp at q9z
 have q9t : w8.heap.size ≤ w9.heap.size := (by omega)
 obtain ⟨q9s0, q9n0_0, q9n0_1, q9n0_2⟩ := kB w9.heap.size w8.heap.size
 obtain ⟨q9c0_0, q9c0_1, q9f0⟩ := kC2 hb w8.heap.size
 simp [go_sem, *] at q9c0_0 q9c0_1 q9f0
 have q9o := belO q9B
 clear hb
 obtain ⟨b', o', e1, k1, l3, l5, l6⟩ := at_on HL9.out
 injection e1 with e1
 injection e1 with e1 e2 _
 subst e1 e2
 obtain ⟨b', o', e1, k2, m1, m7, m9⟩ := at_tw HM9.out
 injection e1 with e1
 injection e1 with e1 e2 _
 subst e1 e2
 obtain ⟨b', o', e1, k3, t0⟩ := at_tx HT9.out
 injection e1 with e1
 injection e1 with e1 e2 _
 subst e1 e2
 go_wp2_with fail
 refine ord_start (SB (w9.heap.size) [] _) 54 (preB 0 54) (by kernel_rfl) (by kernel_rfl) (by kernel_rfl) SB.refl.drew (fun hHeld => ?_)
 refine oS (i := 0) (preB 1 53) rfl hHeld ?_
 (try simp only [Act.put, putS])
 refine oS (i := 1) (preB 2 52) rfl hHeld ?_
 (try simp only [Act.put, putS])
 refine oS (i := 2) (preB 3 51) rfl hHeld ?_
 (try simp only [Act.put, putS])
 refine oS (i := 3) (preB 4 50) rfl hHeld ?_
 (try simp only [Act.put, putS])
 refine oS (i := 4) (preB 5 49) rfl hHeld ?_
 (try simp only [Act.put, putS])
 refine oS (i := 5) (preB 6 48) rfl hHeld ?_
 (try simp only [Act.put, putS])
 refine oS (i := 6) (preB 7 47) rfl hHeld ?_
 (try simp only [Act.put, putS])
 refine oS (i := 7) (preB 8 46) rfl hHeld ?_
 (try simp only [Act.put, putS])
 refine oS (i := 8) (preB 9 45) rfl hHeld ?_
 (try simp only [Act.put, putS])
 refine oS (i := 9) (preB 10 44) rfl hHeld ?_
 (try simp only [Act.put, putS])
 refine wpAnyH_ready (rs := [10]) (by kernel_rfl) (by simp) ?_
 refine ord_run (i := 10) (preB 11 43) rfl (by kernel_rfl) (by rfl) (fun K hK => ?_) AllReadyH.nil
 go_simp
 go_wp2_with (go_at_call 34; refine (lv_mul _).mono ?_; rintro e w10 ⟨rfl, hb⟩; have q10B : Below w9.heap.size w9 w10 := qB hb; have q10z := hb.size; (try simp at q10z); have q10t : w9.heap.size ≤ w10.heap.size := (by omega); have q10s0 : w8.heap.size < w10.heap.size := (by omega); obtain ⟨q10n0_0, q10n0_1, q10n0_2⟩ := kN q10s0; obtain ⟨q10c0_0, q10c0_1, q10f0⟩ := kC2 hb w8.heap.size; simp [go_sem, *] at q10c0_0 q10c0_1 q10f0; have q10o := belO q10B; have hbS := hb; have hbS10 := hb; clear hb)
 refine hK.out _ _ ?_ (fun hHeld => ?_)
 ·exact sbT
 clear hK K
 (try simp only [Act.put, putS])
 refine oS (i := 11) (preB 12 42) rfl hHeld ?_
 (try simp only [Act.put, putS])
 refine oS (i := 12) (preB 13 41) rfl hHeld ?_
 (try simp only [Act.put, putS])
 refine oS (i := 13) (preB 14 40) rfl hHeld ?_
 (try simp only [Act.put, putS])
 refine oS (i := 14) (preB 15 39) rfl hHeld ?_
 (try simp only [Act.put, putS])
 refine oS (i := 15) (preB 16 38) rfl hHeld ?_
 (try simp only [Act.put, putS])
 refine oS (i := 16) (preB 17 37) rfl hHeld ?_
 (try simp only [Act.put, putS])
 refine oS (i := 17) (preB 18 36) rfl hHeld ?_
 (try simp only [Act.put, putS])
 refine oS (i := 18) (preB 19 35) rfl hHeld ?_
 (try simp only [Act.put, putS])
 refine oS (i := 19) (preB 20 34) rfl hHeld ?_
 (try simp only [Act.put, putS])
 refine oS (i := 20) (preB 21 33) rfl hHeld ?_
 (try simp only [Act.put, putS])
 refine oS (i := 21) (preB 22 32) rfl hHeld ?_
 (try simp only [Act.put, putS])
 refine oS (i := 22) (preB 23 31) rfl hHeld ?_
 (try simp only [Act.put, putS])
 refine oS (i := 23) (preB 24 30) rfl hHeld ?_
 (try simp only [Act.put, putS])
 refine oS (i := 24) (preB 25 29) rfl hHeld ?_
 (try simp only [Act.put, putS])
 refine oS (i := 25) (preB 26 28) rfl hHeld ?_
 (try simp only [Act.put, putS])
 refine oS (i := 26) (preB 27 27) rfl hHeld ?_
 (try simp only [Act.put, putS])
 refine oS (i := 27) (preB 28 26) rfl hHeld ?_
 (try simp only [Act.put, putS])
 refine oS (i := 28) (preB 29 25) rfl hHeld ?_
 (try simp only [Act.put, putS])
 refine oS (i := 29) (preB 30 24) rfl hHeld ?_
 (try simp only [Act.put, putS])
 refine oS (i := 30) (preB 31 23) rfl hHeld ?_
 (try simp only [Act.put, putS])
 refine oS (i := 31) (preB 32 22) rfl hHeld ?_
 (try simp only [Act.put, putS])
 refine oS (i := 32) (preB 33 21) rfl hHeld ?_
 (try simp only [Act.put, putS])
 refine oS (i := 33) (preB 34 20) rfl hHeld ?_
 (try simp only [Act.put, putS])
 refine oS (i := 34) (preB 35 19) rfl hHeld ?_
 (try simp only [Act.put, putS])
 refine oS (i := 35) (preB 36 18) rfl hHeld ?_
 (try simp only [Act.put, putS])
 refine oS (i := 36) (preB 37 17) rfl hHeld ?_
 (try simp only [Act.put, putS])
 refine oS (i := 37) (preB 38 16) rfl hHeld ?_
 (try simp only [Act.put, putS])
 refine oS (i := 38) (preB 39 15) rfl hHeld ?_
 (try simp only [Act.put, putS])
 refine oS (i := 39) (preB 40 14) rfl hHeld ?_
 (try simp only [Act.put, putS])
 refine oS (i := 40) (preB 41 13) rfl hHeld ?_
 (try simp only [Act.put, putS])
 refine oS (i := 41) (preB 42 12) rfl hHeld ?_
 (try simp only [Act.put, putS])
 refine oS (i := 42) (preB 43 11) rfl hHeld ?_
 (try simp only [Act.put, putS])
 refine oS (i := 43) (preB 44 10) rfl hHeld ?_
 (try simp only [Act.put, putS])
 refine oS (i := 44) (preB 45 9) rfl hHeld ?_
 (try simp only [Act.put, putS])
 refine oS (i := 45) (preB 46 8) rfl hHeld ?_
 (try simp only [Act.put, putS])
 refine oT (i := 46) (preB 47 7) (.bool true) rfl hHeld (fun wx hSx => ?_) ?_
 ·(unfold SB at hSx; go_simp; rfl)
 (try simp only [Act.put, putS])
 refine oS (i := 47) (preB 48 6) rfl hHeld ?_
 (try simp only [Act.put, putS])
 refine oS (i := 48) (preB 49 5) rfl hHeld ?_
 (try simp only [Act.put, putS])
 refine oS (i := 49) (preB 50 4) rfl hHeld ?_
 (try simp only [Act.put, putS])
 refine oS (i := 50) (preB 51 3) rfl hHeld ?_
 (try simp only [Act.put, putS])
 refine wpAnyH_ready (rs := [51]) (by kernel_rfl) (by simp) ?_
 refine ord_run (i := 51) (preB 52 2) rfl (by kernel_rfl) (by rfl) (fun K hK => ?_) AllReadyH.nil
 go_simp
 go_wp2_with (go_at_call 10; refine (lv_same _ _ cd cm Ad1 cd1 Ad2 cd2 Am1 cm1 Am2 cm2 _ (HDf.out.below q10B) (HM9.out.below q10B)).mono ?_; rintro e w11 ⟨rfl, hb⟩; have q11B : Below w9.heap.size w9 w11 := qB hb; have q11z := hb.size; (try simp at q11z); have q11t : w9.heap.size ≤ w11.heap.size := (by omega); have q11o := belO q11B; have hbS := hb; have hbS11 := hb; clear hb)
 refine hK.out _ _ ?_ (fun hHeld => ?_)
 ·exact sbT
 clear hK K
 (try simp only [Act.put, putS])
 refine oS (i := 52) (preB 53 1) rfl hHeld ?_
 (try simp only [Act.put, putS])
 refine oS (i := 53) (preB 54 0) rfl hHeld ?_
 (try simp only [Act.put, putS])
 refine wpAnyH_done (by kernel_rfl) ?_ _
 go_wp2_with fail
 go_ret
 exact ⟨rfl, B9.out.trans (q11B.mono B9.out.size)⟩
end Go.Proofs.YtdjlaiilngechaaGreatDoor
namespace Go.Proofs.YtdjlaiilngechaaGreatDoor
set_option maxRecDepth 4000
set_option linter.unusedSimpArgs false
set_option linter.unusedVariables false
open Go.RowKit
theorem dfL_mem {x y : Nat → LnR} {n : Nat} {z : Lin} : ∀ {k : Nat}, z ∈ dfL x y n k → ∃ j, j < k ∧ z = (x j).1
 | 0, h => by cases h
 | k + 1, h => by
  rcases List.mem_append.1 h with h | h
  ·obtain ⟨j, hj, e⟩ := dfL_mem h
   exact ⟨j, by omega, e⟩
  ·split at h
   ·cases h
   ·rw [List.mem_singleton] at h; exact ⟨k, by omega, h⟩
theorem df_len (x y : Nat → LnR) (n m : Nat) (l : List LnR) (h : l.map (·.1) = dfL x y n m) : l.length ≤ m := by
 have t := congrArg List.length h
 rw [List.length_map] at t
 have := dfL_len (x := x) (y := y) (n := n) m
 omega
theorem df_sl {x y : Nat → LnR} {n m : Nat} {l : List LnR} (h : l.map (·.1) = dfL x y n m) (hx : ∀ k, k < m → (x k).1.sl.length ≤ 20) : ∀ k, k < l.length → (atX l k).1.sl.length ≤ 20 := by
 intro k hk
 rw [atX_at hk]
 obtain ⟨j, hj, e⟩ := dfL_mem (x := x) (y := y) (n := n) (k := m) (z := l[k].1) (by rw [← h]; exact List.mem_map.2 ⟨_, List.getElem_mem hk, rfl⟩)
 rw [e]; exact hx j hj
theorem same_atY {l m : List LnR} (h : l.map (·.1) = m.map (·.1)) : decide (sameX l.length m.length (atX l) (atX m)) = true := by
 have hl : l.length = m.length := by have := congrArg List.length h; simpa using this
 refine decide_eq_true ⟨hl, fun k hk => eqLn_eq.2 ?_⟩
 rw [atX_at hk, atX_at (by omega)]
 have h1 := congrArg (fun z => z[k]?) h
 simp only [List.getElem?_map] at h1
 rw [List.getElem?_eq_getElem hk, List.getElem?_eq_getElem (by omega)] at h1
 simpa using h1
set_option maxRecDepth 8000 in
set_option maxHeartbeats 8000000 in
theorem walk_texts (A B : Option Addr) (n m c d : Nat) (x y : Nat → LnR) (dg : Int) (hx : ∀ k, k < n → LnIn (x k).1) (hy : ∀ k, k < m → LnIn (y k).1) (w : World) (hr : RowLn w A n x) (hs : RowLn w B m y) (ht : Tab w) :
  Calls Tryz.prog 4 #[.slice A n c, .slice B m d, .int .i64 dg] w fun e w' => e = .returned (.bool true) ∧ Below w.heap.size w w' := by
 have HR := hide hr
 have HS := hide hs
 have HT := hide ht
 have HX := hide hx
 have HY := hide hy
 clear hr hs ht hx hy
 go_enter Tryz.func4, Tryz.ntmps4
 go_wp2_with fail
 refine (rlgreat_any A n c x _ HR.out).mono ?_
 rintro e w0 ⟨b0, rfl, h0, rfl⟩
 cases b0 with
 | true =>
  go_wp2_with fail
  go_ret
  exact ⟨rfl, Below.refl _ _⟩
 | false =>
  obtain ⟨hn, hx20⟩ := h0 rfl
  have HX20 := hide hx20
  clear h0 hx20
  go_wp2_with fail
  refine (rlgreat_any B m d y _ HS.out).mono ?_
  rintro e w0 ⟨b0, rfl, h0, rfl⟩
  cases b0 with
  | true =>
   go_wp2_with fail
   go_ret
   exact ⟨rfl, Below.refl _ _⟩
  | false =>
   obtain ⟨hm, hy20⟩ := h0 rfl
   have HY20 := hide hy20
   clear h0 hy20
   have HC := hide (fun k (hk : k < n) => (show (x k).1.sl.length ≤ 1000 ∧ WIn (x k).1.gr ∧ IB (x k).1.sl.length (fsts (x k).1.sl) (snds (x k).1.sl) from ⟨by have := HX20.out k hk; omega, (HX.out k hk).gr, (HX.out k hk).sl⟩))
   obtain ⟨E, hE⟩ : ∃ E, E = txE (linOf x) dg n := ⟨_, rfl⟩
   obtain ⟨S, hS⟩ : ∃ S, S = smFV (linOf x) n := ⟨_, rfl⟩
   obtain ⟨F, hF⟩ : ∃ F, F = smFE (linOf x) n := ⟨_, rfl⟩
   have HE := hide hE
   have HF := hide (And.intro hS hF)
   clear hE hS hF
   go_wp2_with fail
   refine (etexts_any A n c x dg (by omega) HC.out _ HR.out HT.out).mono ?_
   rintro e w1 ⟨A1, c1, m1, rfl, hm1, hr1, hb⟩
   rw [← HE.out] at hm1
   rw [← HE.out]
   have HM1 := hide hm1
   have hmn : m1 ≤ 1000 := by rw [hm1]; split <;> omega
   have HR1 := hide hr1
   have Q1 := hide hb
   clear hr1 hb hm1
   go_wp2_with fail
   refine (rtexts_any A n c x dg (by omega) HC.out _ (HR.out.below Q1.out)).mono ?_
   rintro e w2 ⟨A2, c2, m2, rfl, hm2, hr2, hb⟩
   rw [← HE.out] at hm2
   rw [← HE.out]
   obtain rfl : m2 = m1 := by rw [HM1.out, hm2]
   have HR2 := hide hr2
   have B2 := hide hb
   have Q2 := hide (Q1.out.trans (hb.mono Q1.out.size))
   clear hr2 hb hm2
   go_wp2_with fail
   refine (esum_any A n c x (by omega) (fun k hk => (HX.out k hk).gr) _ (HR.out.below Q2.out)).mono ?_
   rintro e w3 ⟨rfl, hb⟩
   rw [← HF.out.1, ← HF.out.2]
   have B3 := hide hb
   have Q3 := hide (Q2.out.trans (hb.mono Q2.out.size))
   clear hb
   go_wp2_with fail
   refine (rlsum_any A n c x (by omega) (fun k hk => (HX.out k hk).gr) _ (HR.out.below (Q3.out.trans (by have := Q3.out.size; (repeat (first | (with_reducible first | exact Below.refl _ _ | assumption | refine Below.drew ?_) | ((with_reducible first | refine Below.alloc ?_ ?_ _ | refine Below.setCell ?_ ?_ _); rotate_left; (first | omega | (simp <;> omega))))))))).mono ?_
   rintro e w4 ⟨rfl, hb⟩
   rw [← HF.out.1, ← HF.out.2]
   have q4B : Below w3.heap.size w3 w4 := qB hb
   have q4z := hb.size
   try simp at q4z
   have q4t : w3.heap.size ≤ w4.heap.size := (by omega)
   obtain ⟨q4s0, q4n0_0, q4n0_1, q4n0_2⟩ := kB w4.heap.size w3.heap.size
   obtain ⟨q4c0_0, q4c0_1, q4f0⟩ := kC2 hb w3.heap.size
   simp [go_sem, *] at q4c0_0 q4c0_1 q4f0
   have q4o := belO q4B
   clear hb
   have B4 := hide (show Below w3.heap.size w3 w4 from q4B)
   have Q4 := hide (Q3.out.trans (B4.out.mono Q3.out.size))
   go_wp2_with fail
   refine (rsameTx_any A1 A2 m2 c1 c2 (txB (linOf x) dg) _ (HR1.out.below (Below.trans (B2.out.trans (B3.out.mono B2.out.size)) ((B4.out.mono (by have := B2.out.size; have := B3.out.size; omega)).trans (by have := B2.out.size; have := B3.out.size; have := B4.out.size; (repeat (first | (with_reducible first | exact Below.refl _ _ | assumption | refine Below.drew ?_) | ((with_reducible first | refine Below.alloc ?_ ?_ _ | refine Below.setCell ?_ ?_ _); rotate_left; (first | omega | (simp <;> omega))))))))) (HR2.out.below (B3.out.trans ((B4.out.mono B3.out.size).trans (by have := B3.out.size; have := B4.out.size; (repeat (first | (with_reducible first | exact Below.refl _ _ | assumption | refine Below.drew ?_) | ((with_reducible first | refine Below.alloc ?_ ?_ _ | refine Below.setCell ?_ ?_ _); rotate_left; (first | omega | (simp <;> omega))))))))) (by omega)).mono ?_
   rintro e w5 ⟨rfl, hb⟩
   have q5B : Below w4.heap.size w4 w5 := qB hb
   have q5z := hb.size
   try simp at q5z
   have q5t : w4.heap.size ≤ w5.heap.size := (by omega)
   obtain ⟨q5s0, q5n0_0, q5n0_1, q5n0_2⟩ := kB w5.heap.size w3.heap.size
   obtain ⟨q5c0_0, q5c0_1, q5f0⟩ := kC2 hb w3.heap.size
   simp [go_sem, *] at q5c0_0 q5c0_1 q5f0
   obtain ⟨q5s1, q5n1_0, q5n1_1, q5n1_2⟩ := kB w5.heap.size w4.heap.size
   obtain ⟨q5c1_0, q5c1_1, q5f1⟩ := kC2 hb w4.heap.size
   simp [go_sem, *] at q5c1_0 q5c1_1 q5f1
   have q5o := belO q5B
   clear hb q4o q4f0 q4c0_1 q4c0_0 q4s0 q4z q4B
   have B5 := hide (show Below w4.heap.size w4 w5 from q5B)
   have Q5 := hide (Q4.out.trans (B5.out.mono Q4.out.size))
   go_wp2_with fail
   refine (diff_any B A n m d c y x (by omega) (by omega) (fun k hk => by have := HY20.out k hk; omega) _ (HS.out.below Q5.out) (HR.out.below Q5.out)).mono ?_
   rintro e w6 ⟨A6, c6, l6, rfl, hr6, hl6, hb⟩
   have HR6 := hide hr6
   have HL6 := hide hl6
   have Q6 := hide (Q5.out.trans (hb.mono Q5.out.size))
   clear hr6 hl6 hb
   go_wp2_with fail
   refine (rdiff_any B A n m d c y x (by omega) (by omega) (fun k hk => by have := HX20.out k hk; omega) _ (HS.out.below Q6.out) (HR.out.below Q6.out)).mono ?_
   rintro e w7 ⟨A7, c7, l7, rfl, hr7, hl7, hb⟩
   have HR7 := hide hr7
   have HL7 := hide hl7
   have B7 := hide hb
   have Q7 := hide (Q6.out.trans (hb.mono Q6.out.size))
   have HSM := hide (same_atY (HL6.out.trans hl7.symm))
   have h6n := df_len _ _ _ _ _ HL6.out
   clear hr7 hl7 hb
   go_wp2_with fail
   refine (rsameX_any A6 A7 l6.length l7.length c6 c7 (atX l6) (atX l7) (by omega) (fun k hk => by have := df_sl HL6.out HY20.out k hk; omega) _ (HR6.out.below B7.out) HR7.out).mono ?_
   rintro e w8 ⟨rfl, hb⟩
   rw [HSM.out]
   have Q8 := hide (Q7.out.trans (hb.mono Q7.out.size))
   clear hb
   go_wp2_with fail
   refine (live_any _ (HT.out.below Q8.out)).mono ?_
   rintro e w9 ⟨rfl, hb⟩
   go_wp2_with fail
   go_ret
   exact ⟨rfl, Q8.out.trans (hb.mono Q8.out.size)⟩
end Go.Proofs.YtdjlaiilngechaaGreatDoor
