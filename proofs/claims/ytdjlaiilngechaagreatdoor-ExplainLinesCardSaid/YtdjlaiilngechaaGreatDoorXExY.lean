/- Texts laid together: ExY. -/
import Derived.Test.YtdjlaiilngechaaGreatDoorXMnF
import Derived.Test.YtdjlaiilngechaaGreatDoorXK0
namespace Go.Proofs.YtdjlaiilngechaaGreatDoor
set_option maxRecDepth 4000
set_option linter.unusedSimpArgs false
set_option linter.unusedVariables false
open Go.RowKit
/-- One concatenation of a text. -/
theorem cat_to {a b r : List UInt8} (e : r = a ++ b) {c : Prop} [Decidable c] {x : Result Next} {w : World} (h : ¬ c) :
  (if c then x else Result.ok (Next.value (.string ((⟨a.toArray⟩ : ByteArray) ++ (⟨b.toArray⟩ : ByteArray)))) w) = Result.ok (Next.value (.string ⟨r.toArray⟩)) w := by
 rw [if_neg h, bcat, e]
theorem fmtL_len (x : Int) : (fmtL x).length ≤ 10 := by
 cases hv : vday x with
 | true => rw [fmt_yes hv]; simp [d4, d2]
 | false => rw [fmt_no hv]; simp
theorem amtL_len (n d : Int) : (amtL n d).length ≤ 30 := by
 cases h : mnB n d with
 | false => rw [(amt_no h).1]; simp
 | true =>
  rw [(amt_yes h).1]
  obtain ⟨a, b, c, e⟩ := mnB_iff.1 h
  have h1 : (wholeL n.natAbs d.toNat).length ≤ 20 := by
   unfold wholeL
   rw [Lib.decDigits_length]
   exact Lib.nDigits_le20 _ (Nat.lt_of_le_of_lt (Nat.div_le_self _ _) (by omega))
  unfold mnL
  have h2 : ((if n < 0 then [45] else []) : List UInt8).length ≤ 1 := by split <;> simp
  have h3 : ((if d.toNat = 0 then [] else 46 :: dgs n.natAbs d.toNat) : List UInt8).length ≤ 5 := by
   split
   ·simp
   ·rw [List.length_cons, dgs_len]; omega
  rw [List.length_append, List.length_append]
  omega
theorem itoa_len {n : Int} (h0 : 0 ≤ n) (h1 : n ≤ 9223372036854775807) : (Lib.itoa n).length ≤ 20 := by
 obtain ⟨m, rfl⟩ := Int.eq_ofNat_of_zero_le h0
 rw [Lib.itoa_nonneg, Lib.decDigits_length]
 exact Lib.nDigits_le20 _ (by omega)
/-- The head of a line's text; one slice; the slices; the end. -/
noncomputable def hdL (x : Lin) (d : Int) : List UInt8 := (((fmtL x.fr ++ [32, 116, 111, 32]) ++ fmtL x.tt) ++ [58, 32]) ++ amtL x.bl d
def pcL (a p d : Int) : List UInt8 := ((([44, 32] ++ amtL a d) ++ [32, 97, 116, 32]) ++ Lib.itoa p) ++ [32, 112, 112, 109]
def pcsL (f g : Nat → Int) (d : Int) : Nat → List UInt8
 | 0 => []
 | k + 1 => pcsL f g d k ++ pcL (f k) (g k) d
def endL (n v d : Int) : List UInt8 := [44, 32] ++ (Lib.itoa n ++ ([32, 100, 97, 121, 115, 58, 32] ++ amtL v d))
def noL : List UInt8 := [44, 32, 110, 111, 32, 105, 110, 116, 101, 114, 101, 115, 116]
def tE (x : Lin) (d : Int) : Int := if shB x d = false then 1 else if x.sl.length = 0 then 0 else raE x.gr
noncomputable def tL (x : Lin) (d : Int) : List UInt8 := if shB x d = false then [] else if x.sl.length = 0 then hdL x d ++ noL else if raE x.gr = 0 then (hdL x d ++ pcsL (fsts x.sl) (snds x.sl) d x.sl.length) ++ endL (x.tt - x.fr + 1) (raV x.gr) d else []
theorem pc_len {a p d : Int} (h0 : 0 ≤ p) (h1 : p ≤ 9223372036854775807) : (pcL a p d).length ≤ 70 := by
 have := amtL_len a d
 have := itoa_len h0 h1
 unfold pcL
 simp only [List.length_append, List.length_cons, List.length_nil]
 omega
theorem pcs_len {f g : Nat → Int} {d : Int} : ∀ {n : Nat}, (∀ k, k < n → 0 ≤ g k ∧ g k ≤ 9223372036854775807) → (pcsL f g d n).length ≤ 70 * n
 | 0, _ => Nat.le_refl _
 | n + 1, h => by
  have ih := pcs_len (f := f) (g := g) (d := d) (n := n) (fun k hk => h k (by omega))
  have hn := h n (by omega)
  have := pc_len (a := f n) (d := d) hn.1 hn.2
  unfold pcsL
  rw [List.length_append]
  omega
theorem sh_yes {x : Lin} {d : Int} (h : shB x d = true) : (0 ≤ d ∧ d ≤ 4) ∧ vday x.fr = true ∧ vday x.tt = true ∧ x.fr ≤ x.tt ∧ vmB x.bl = true ∧ badF (fsts x.sl) (snds x.sl) x.sl.length = false := by
 unfold shB at h
 simp at h
 obtain ⟨⟨⟨⟨⟨⟨h1, h2⟩, h3⟩, h4⟩, h5⟩, h6⟩, h7⟩ := h
 exact ⟨⟨h1, h2⟩, h3, h4, h5, h6, h7⟩
theorem bad_no {f g : Nat → Int} {n : Nat} (h : badF f g n = false) {k : Nat} (hk : k < n) : vmB (f k) = true ∧ 0 ≤ g k := by
 constructor
 ·cases hv : vmB (f k) with
  | true => rfl
  | false => exact absurd (badF_iff.2 ⟨k, hk, .inl hv⟩) (by rw [h]; decide)
 ·rcases Int.lt_or_le (g k) 0 with hg | hg
  ·exact absurd (badF_iff.2 ⟨k, hk, .inr hg⟩) (by rw [h]; decide)
  ·exact hg
theorem cash_any (n d : Int) (p : Nat) (w : World) (hp : w.cell? ⟨p, 0, none⟩ = some (.int .i64 d)) (ht : Tab w) :
  Calls Tryz.prog 65 #[.int .i64 n, .pointer (some ⟨p, 0, none⟩)] w fun e w' => e = .returned (.string ⟨(amtL n d).toArray⟩) ∧ Below w.heap.size w w' := by
 go_enter Tryz.func65, Tryz.ntmps65
 go_wp2_with fail
 refine (mformat_any n d _ ht).mono ?_
 rintro e w1 ⟨rfl, hb⟩
 have q1B : Below w.heap.size w w1 := qB hb
 have q1z := hb.size
 try simp at q1z
 have q1t : w.heap.size ≤ w1.heap.size := (by omega)
 have q1o := belO q1B
 clear hb
 go_wp2_with fail
 go_ret
 exact ⟨rfl, q1B⟩
theorem tE_no {x : Lin} {d : Int} (h : shB x d = false) : tE x d = 1 ∧ tL x d = [] := ⟨if_pos h, if_pos h⟩
theorem tE_nil {x : Lin} {d : Int} (h : shB x d = true) (hs : x.sl.length = 0) : tE x d = 0 ∧ tL x d = hdL x d ++ noL := by
 constructor <;> simp [tE, tL, h, hs]
theorem tE_err {x : Lin} {d : Int} (h : shB x d = true) (hs : x.sl.length ≠ 0) (he : raE x.gr ≠ 0) : tE x d = raE x.gr ∧ tL x d = [] := by
 constructor <;> simp [tE, tL, h, hs, he]
theorem tE_ok {x : Lin} {d : Int} (h : shB x d = true) (hs : x.sl.length ≠ 0) (he : raE x.gr = 0) : tE x d = 0 ∧ tL x d = (hdL x d ++ pcsL (fsts x.sl) (snds x.sl) d x.sl.length) ++ endL (x.tt - x.fr + 1) (raV x.gr) d := by
 constructor <;> simp [tE, tL, h, hs, he]
def TxI (f g : Nat → Int) (h0 : List UInt8) (d : Int) (n : Nat) (W : World) (v7 v41 : Value) (wr : World) : Prop :=
 ∃ k : Nat, k ≤ n ∧ v7 = .string ⟨(h0 ++ pcsL f g d k).toArray⟩ ∧ v41 = .int .i64 k ∧ Below W.heap.size W wr
set_option maxRecDepth 20000 in
set_option maxHeartbeats 8000000 in
theorem etext_any (x : Lin) (A : Option Addr) (c : Nat) (d : Int) (hl : x.sl.length ≤ 1000) (hg : WIn x.gr) (w : World) (hr : Row2 w A x.sl.length (fsts x.sl) (snds x.sl)) (hib : IB x.sl.length (fsts x.sl) (snds x.sl)) (ht : Tab w) :
  Calls Tryz.prog 35 #[LinV x A c, .int .i64 d] w fun e w' => e = .returned (.tuple #[.string ⟨(tL x d).toArray⟩, .int .i64 (tE x d)]) ∧ Below w.heap.size w w' := by
 have HR := hide hr
 have HT := hide ht
 have HI := hide hib
 clear hr ht hib
 cases hsh : shB x d with
 | false =>
  have HS := hide hsh
  have HV := hide (tE_no hsh)
  clear hsh
  go_enter Tryz.func35, Tryz.ntmps35
  go_wp2_with fail
  refine (shown_any x A c d (by omega) _ (HR.out.below belT)).mono ?_
  rintro e w1 ⟨rfl, hb⟩
  rw [HS.out]
  have q1B : Below w.heap.size w w1 := qB hb
  have q1z := hb.size
  try simp at q1z
  have q1t : w.heap.size ≤ w1.heap.size := (by omega)
  have q1o := belO q1B
  clear hb
  go_wp2_with fail
  refine bodyPost_ret (by simp [results, Tryz.results35, go_sem, *] <;> rfl) rfl ⟨?_, ?_⟩
  ·rw [HV.out.1, HV.out.2]
  ·(repeat (first | (with_reducible first | exact Below.refl _ _ | assumption | refine Below.drew ?_) | ((with_reducible first | refine Below.alloc ?_ ?_ _ | refine Below.setCell ?_ ?_ _); rotate_left; (first | omega | (simp <;> omega)))))
 | true =>
  have HS := hide hsh
  obtain ⟨⟨d0, d4⟩, v1, v2, hft, v3, hbd⟩ := sh_yes hsh
  have HBD := hide hbd
  rw [vday_iff] at v1 v2
  clear hsh hbd v3
  obtain ⟨l1, h1⟩ : ∃ l, l = fmtL x.fr := ⟨_, rfl⟩
  obtain ⟨l2, h2⟩ : ∃ l, l = fmtL x.tt := ⟨_, rfl⟩
  obtain ⟨l3, h3⟩ : ∃ l, l = amtL x.bl d := ⟨_, rfl⟩
  have b1 : l1.length ≤ 10 := by rw [h1]; exact fmtL_len _
  have b2 : l2.length ≤ 10 := by rw [h2]; exact fmtL_len _
  have b3 : l3.length ≤ 30 := by rw [h3]; exact amtL_len _ _
  have D1 := hide h1
  have D2 := hide h2
  have D3 := hide h3
  have HH := hide (show (((l1 ++ [32, 116, 111, 32]) ++ l2) ++ [58, 32]) ++ l3 = hdL x d from by rw [h1, h2, h3]; rfl)
  clear h1 h2 h3
  obtain ⟨r0, R0⟩ : ∃ r : List UInt8, Hid (r = l1 ++ [32, 116, 111, 32]) := ⟨_, hide rfl⟩
  have br0 : r0.length ≤ 40 := by rw [R0.out]; simp only [List.length_append, List.length_cons, List.length_nil]; omega
  obtain ⟨r1, R1⟩ : ∃ r : List UInt8, Hid (r = r0 ++ l2) := ⟨_, hide rfl⟩
  have br1 : r1.length ≤ 80 := by rw [R1.out]; simp only [List.length_append, List.length_cons, List.length_nil]; omega
  obtain ⟨r2, R2⟩ : ∃ r : List UInt8, Hid (r = r1 ++ [58, 32]) := ⟨_, hide rfl⟩
  have br2 : r2.length ≤ 120 := by rw [R2.out]; simp only [List.length_append, List.length_cons, List.length_nil]; omega
  obtain ⟨r3, R3⟩ : ∃ r : List UInt8, Hid (r = r2 ++ l3) := ⟨_, hide rfl⟩
  have br3 : r3.length ≤ 160 := by rw [R3.out]; simp only [List.length_append, List.length_cons, List.length_nil]; omega
  go_enter Tryz.func35, Tryz.ntmps35
  go_wp2_with fail
  refine (shown_any x A c d (by omega) _ (HR.out.below belT)).mono ?_
  rintro e w1 ⟨rfl, hb⟩
  rw [HS.out]
  have q1B : Below w.heap.size w w1 := qB hb
  have q1z := hb.size
  try simp at q1z
  have q1t : w.heap.size ≤ w1.heap.size := (by omega)
  obtain ⟨q1s0, q1n0_0, q1n0_1, q1n0_2⟩ := kB w1.heap.size w.heap.size
  obtain ⟨q1c0_0, q1c0_1, q1c0_2, q1c0_3, q1c0_4, q1c0_5, q1c0_6, q1f0⟩ := kC7 hb w.heap.size
  simp [go_sem, *] at q1c0_0 q1c0_1 q1c0_2 q1c0_3 q1c0_4 q1c0_5 q1c0_6 q1f0
  obtain ⟨q1s1, q1n1_0, q1n1_1, q1n1_2⟩ := kB w1.heap.size (w.heap.size + 1)
  obtain ⟨q1c1_0, q1f1⟩ := kC1 hb (w.heap.size + 1)
  simp [go_sem, *] at q1c1_0 q1f1
  have q1o := belO q1B
  clear hb
  have HT1 := hide (HT.out.below q1B)
  go_wp2_with fail
  refine ord_start (SB (w1.heap.size) [] _) 15 (preB 0 15) (by kernel_rfl) (by kernel_rfl) (by kernel_rfl) SB.refl.drew (fun hHeld => ?_)
  refine oS (i := 0) (preB 1 14) rfl hHeld ?_
  (try simp only [Act.put, putS])
  refine oS (i := 1) (preB 2 13) rfl hHeld ?_
  (try simp only [Act.put, putS])
  refine oS (i := 4) #[true, true, false, false, true, false, false, false, false, false, false, false, false, false, false] rfl hHeld ?_
  (try simp only [Act.put, putS])
  refine oS (i := 5) #[true, true, false, false, true, true, false, false, false, false, false, false, false, false, false] rfl hHeld ?_
  (try simp only [Act.put, putS])
  refine oS (i := 9) #[true, true, false, false, true, true, false, false, false, true, false, false, false, false, false] rfl hHeld ?_
  (try simp only [Act.put, putS])
  refine oS (i := 10) #[true, true, false, false, true, true, false, false, false, true, true, false, false, false, false] rfl hHeld ?_
  (try simp only [Act.put, putS])
  refine oS (i := 11) #[true, true, false, false, true, true, false, false, false, true, true, true, false, false, false] rfl hHeld ?_
  (try simp only [Act.put, putS])
  refine wpAnyH_ready (rs := [2]) (by kernel_rfl) (by simp) ?_
  refine ord_run (i := 2) #[true, true, true, false, true, true, false, false, false, true, true, true, false, false, false] rfl (by kernel_rfl) (by rfl) (fun K hK => ?_) AllReadyH.nil
  go_simp
  go_wp2_with (go_at_call 67; refine (format_any x.fr _ (HT1.out.below belT)).mono ?_; rintro e w2 ⟨rfl, hb⟩; rw [← D1.out]; have q2B : Below w1.heap.size w1 w2 := qB hb; have q2z := hb.size; (try simp at q2z); have q2t : w1.heap.size ≤ w2.heap.size := (by omega); have q2s0 : w.heap.size < w2.heap.size := (by omega); obtain ⟨q2n0_0, q2n0_1, q2n0_2⟩ := kN q2s0; obtain ⟨q2c0_0, q2c0_1, q2c0_2, q2c0_3, q2c0_4, q2c0_5, q2c0_6, q2f0⟩ := kC7 hb w.heap.size; simp [go_sem, *] at q2c0_0 q2c0_1 q2c0_2 q2c0_3 q2c0_4 q2c0_5 q2c0_6 q2f0; have q2s1 : w.heap.size + 1 < w2.heap.size := (by omega); obtain ⟨q2n1_0, q2n1_1, q2n1_2⟩ := kN q2s1; obtain ⟨q2c1_0, q2f1⟩ := kC1 hb (w.heap.size + 1); simp [go_sem, *] at q2c1_0 q2f1; have q2o := belO q2B; have hbS := hb; have hbS2 := hb; clear hb)
  refine hK.out _ _ ?_ (fun hHeld => ?_)
  ·exact sbT
  clear hK K
  (try simp only [Act.put, putS])
  refine oT (i := 3) #[true, true, true, true, true, true, false, false, false, true, true, true, false, false, false] (.string ⟨r0.toArray⟩) rfl hHeld (fun wx hSx => ?_) ?_
  ·(unfold SB at hSx; go_simp; exact cat_to R0.out (by omega))
  (try simp only [Act.put, putS])
  refine wpAnyH_ready (rs := [6]) (by kernel_rfl) (by simp) ?_
  refine ord_run (i := 6) #[true, true, true, true, true, true, true, false, false, true, true, true, false, false, false] rfl (by kernel_rfl) (by rfl) (fun K hK => ?_) AllReadyH.nil
  go_simp
  go_wp2_with (go_at_call 67; refine (format_any x.tt _ (HT1.out.below belT)).mono ?_; rintro e w3 ⟨rfl, hb⟩; rw [← D2.out]; have q3B : Below w1.heap.size w1 w3 := qB hb; have q3z := hb.size; (try simp at q3z); have q3t : w1.heap.size ≤ w3.heap.size := (by omega); have q3s0 : w.heap.size < w3.heap.size := (by omega); obtain ⟨q3n0_0, q3n0_1, q3n0_2⟩ := kN q3s0; obtain ⟨q3c0_0, q3c0_1, q3c0_2, q3c0_3, q3c0_4, q3c0_5, q3c0_6, q3f0⟩ := kC7 hb w.heap.size; simp [go_sem, *] at q3c0_0 q3c0_1 q3c0_2 q3c0_3 q3c0_4 q3c0_5 q3c0_6 q3f0; have q3s1 : w.heap.size + 1 < w3.heap.size := (by omega); obtain ⟨q3n1_0, q3n1_1, q3n1_2⟩ := kN q3s1; obtain ⟨q3c1_0, q3f1⟩ := kC1 hb (w.heap.size + 1); simp [go_sem, *] at q3c1_0 q3f1; have q3o := belO q3B; have hbS := hb; have hbS3 := hb; clear hb)
  refine hK.out _ _ ?_ (fun hHeld => ?_)
  ·exact sbT
  clear hK K
  (try simp only [Act.put, putS])
  refine oT (i := 7) #[true, true, true, true, true, true, true, true, false, true, true, true, false, false, false] (.string ⟨r1.toArray⟩) rfl hHeld (fun wx hSx => ?_) ?_
  ·(unfold SB at hSx; go_simp; exact cat_to R1.out (by omega))
  (try simp only [Act.put, putS])
  refine oT (i := 8) (preB 12 3) (.string ⟨r2.toArray⟩) rfl hHeld (fun wx hSx => ?_) ?_
  ·(unfold SB at hSx; go_simp; exact cat_to R2.out (by omega))
  (try simp only [Act.put, putS])
  refine wpAnyH_ready (rs := [12]) (by kernel_rfl) (by simp) ?_
  refine ord_run (i := 12) (preB 13 2) rfl (by kernel_rfl) (by rfl) (fun K hK => ?_) AllReadyH.nil
  go_simp
  go_wp2_with (go_at_call 65; refine (cash_any x.bl d (w.heap.size + 1) _ (by first | assumption | (simp [go_sem, *])) (HT1.out.below belT)).mono ?_; rintro e w4 ⟨rfl, hb⟩; rw [← D3.out]; have q4B : Below w1.heap.size w1 w4 := qB hb; have q4z := hb.size; (try simp at q4z); have q4t : w1.heap.size ≤ w4.heap.size := (by omega); have q4s0 : w.heap.size < w4.heap.size := (by omega); obtain ⟨q4n0_0, q4n0_1, q4n0_2⟩ := kN q4s0; obtain ⟨q4c0_0, q4c0_1, q4c0_2, q4c0_3, q4c0_4, q4c0_5, q4c0_6, q4f0⟩ := kC7 hb w.heap.size; simp [go_sem, *] at q4c0_0 q4c0_1 q4c0_2 q4c0_3 q4c0_4 q4c0_5 q4c0_6 q4f0; have q4s1 : w.heap.size + 1 < w4.heap.size := (by omega); obtain ⟨q4n1_0, q4n1_1, q4n1_2⟩ := kN q4s1; obtain ⟨q4c1_0, q4f1⟩ := kC1 hb (w.heap.size + 1); simp [go_sem, *] at q4c1_0 q4f1; have q4o := belO q4B; have hbS := hb; have hbS4 := hb; clear hb)
  refine hK.out _ _ ?_ (fun hHeld => ?_)
  ·exact sbT
  clear hK K
  (try simp only [Act.put, putS])
  refine oT (i := 13) (preB 14 1) (.string ⟨r3.toArray⟩) rfl hHeld (fun wx hSx => ?_) ?_
  ·(unfold SB at hSx; go_simp; exact cat_to R3.out (by omega))
  (try simp only [Act.put, putS])
  refine oS (i := 14) (preB 15 0) rfl hHeld ?_
  (try simp only [Act.put, putS])
  refine wpAnyH_done (by kernel_rfl) ?_ _
  have HH3 := hide (show r3 = hdL x d from by rw [R3.out, R2.out, R1.out, R0.out]; exact HH.out)
  have B4 := hide (q1B.trans (q4B.mono (by omega)))
  have HT4 := hide (HT1.out.below q4B)
  clear br0 br1 br2 b1 b2 b3 q2B q3B hbS2 hbS3
  by_cases hz : x.sl.length = 0
  ·have HV := hide (tE_nil HS.out hz)
   have HF := hide (show (⟨r3.toArray⟩ : ByteArray) ++ (⟨#[44, 32, 110, 111, 32, 105, 110, 116, 101, 114, 101, 115, 116]⟩ : ByteArray) = ⟨(tL x d).toArray⟩ from by
    rw [show (⟨#[44, 32, 110, 111, 32, 105, 110, 116, 101, 114, 101, 115, 116]⟩ : ByteArray) = ⟨noL.toArray⟩ from rfl, bcat, HV.out.2, HH3.out])
   have hz2 : ((x.sl.length : Nat) : Int) = 0 := by omega
   have hzz := br3
   clear hz
   go_wp2_with fail
   refine bodyPost_ret (by simp [results, Tryz.results35, go_sem, *] <;> rfl) rfl ⟨?_, ?_⟩
   ·rw [HV.out.1, ← HF.out]
   ·exact B4.out
  ·have HZ := hide hz
   have hz2 : ((((x.sl.length : Nat) : Int)) == 0) = false := beq_eq_false_iff_ne.2 (by omega)
   clear hz
   go_wp2_with fail
   have HQ := hide (And.intro q4c0_0 (And.intro q4c0_1 (And.intro q4c0_2 (And.intro q4c0_3 (And.intro q4c0_4 (And.intro q4c0_5 (And.intro q4c0_6 (And.intro q4c1_0 (And.intro q4f0 (And.intro q4f1 (And.intro q4s0 q4s1)))))))))))
   go_loopw [7, 41] (fun v7 v41 wr => TxI (fsts x.sl) (snds x.sl) r3 d x.sl.length w4 v7 v41 wr) (fun _ v _ => x.sl.length - (intOf v).toNat)
   case atStart => exact ⟨0, by omega, by simp [pcsL], rfl, Below.refl _ _⟩
   case round =>
    obtain ⟨k, hk, rfl, rfl, hB⟩ := hrel
    have HBW := hide hB
    have hb := hB
    obtain ⟨p0, p1, p2, p3, p4, p5, p6, p7, p8, p9, p10, p11⟩ := HQ.out
    have q5B : Below w4.heap.size w4 wr := qB hb
    have q5z := hb.size
    try simp at q5z
    have q5t : w4.heap.size ≤ wr.heap.size := (by omega)
    obtain ⟨q5s0, q5n0_0, q5n0_1, q5n0_2⟩ := kB wr.heap.size w.heap.size
    obtain ⟨q5c0_0, q5c0_1, q5c0_2, q5c0_3, q5c0_4, q5c0_5, q5c0_6, q5f0⟩ := kC7 hb w.heap.size
    simp [go_sem, *] at q5c0_0 q5c0_1 q5c0_2 q5c0_3 q5c0_4 q5c0_5 q5c0_6 q5f0
    obtain ⟨q5s1, q5n1_0, q5n1_1, q5n1_2⟩ := kB wr.heap.size (w.heap.size + 1)
    obtain ⟨q5c1_0, q5f1⟩ := kC1 hb (w.heap.size + 1)
    simp [go_sem, *] at q5c1_0 q5f1
    have q5o := belO q5B
    clear hb
    clear p0 p1 p2 p3 p4 p5 p6 p7 p8 p9 p10 p11
    have HTR := hide (HT4.out.below hB)
    have hp0 : (pcsL (fsts x.sl) (snds x.sl) d k).length ≤ 70 * k := pcs_len (fun j hj => ⟨(bad_no HBD.out (show j < x.sl.length by omega)).2, (HI.out j (by omega)).2.2⟩)
    obtain ⟨h1, gh⟩ : ∃ l, l = r3 ++ pcsL (fsts x.sl) (snds x.sl) d k := ⟨_, rfl⟩
    have bh : h1.length ≤ 100000 := by rw [gh, List.length_append]; omega
    rw [← gh]
    have GH := hide gh
    clear gh hp0
    by_cases hlt : k < x.sl.length
    ·obtain ⟨b5, o5, rfl, hb5, hc⟩ := (HR.out.below (B4.out.trans (hB.mono (by have := B4.out.size; omega)))) (by omega)
     obtain ⟨c0, c1⟩ := hc k hlt
     have hm : (k : Int) < x.sl.length := by omega
     have hk0 : (0 : Int) ≤ k := by omega
     have HK := hide hlt
     obtain ⟨g0, g1⟩ := bad_no HBD.out hlt
     have g2 : snds x.sl k ≤ 9223372036854775807 := (HI.out k hlt).2.2
     obtain ⟨l4, h4⟩ : ∃ l, l = amtL (fsts x.sl k) d := ⟨_, rfl⟩
     obtain ⟨l5, h5⟩ : ∃ l, l = Lib.itoa (snds x.sl k) := ⟨_, rfl⟩
     have b4 : l4.length ≤ 30 := by rw [h4]; exact amtL_len _ _
     have b5' : l5.length ≤ 20 := by rw [h5]; exact itoa_len g1 g2
     have HF := hide (show h1 ++ (((([44, 32] ++ l4) ++ [32, 97, 116, 32]) ++ l5) ++ [32, 112, 112, 109]) = r3 ++ pcsL (fsts x.sl) (snds x.sl) d (k + 1) from by rw [GH.out, h4, h5]; show _ = r3 ++ (pcsL _ _ d k ++ pcL _ _ d); rw [List.append_assoc]; rfl)
     have D4 := hide h4
     have D5 := hide h5
     clear hlt hk hc h4 h5 g0
     obtain ⟨s0, S0⟩ : ∃ r : List UInt8, Hid (r = [44, 32] ++ l4) := ⟨_, hide rfl⟩
     have bs0 : s0.length ≤ 40 := by rw [S0.out]; simp only [List.length_append, List.length_cons, List.length_nil]; omega
     obtain ⟨s1, S1⟩ : ∃ r : List UInt8, Hid (r = s0 ++ [32, 97, 116, 32]) := ⟨_, hide rfl⟩
     have bs1 : s1.length ≤ 50 := by rw [S1.out]; simp only [List.length_append, List.length_cons, List.length_nil]; omega
     obtain ⟨s2, S2⟩ : ∃ r : List UInt8, Hid (r = s1 ++ l5) := ⟨_, hide rfl⟩
     have bs2 : s2.length ≤ 80 := by rw [S2.out]; simp only [List.length_append, List.length_cons, List.length_nil]; omega
     obtain ⟨s3, S3⟩ : ∃ r : List UInt8, Hid (r = s2 ++ [32, 112, 112, 109]) := ⟨_, hide rfl⟩
     have bs3 : s3.length ≤ 90 := by rw [S3.out]; simp only [List.length_append, List.length_cons, List.length_nil]; omega
     obtain ⟨s4, S4⟩ : ∃ r : List UInt8, Hid (r = h1 ++ s3) := ⟨_, hide rfl⟩
     have bs4 : s4.length ≤ 200000 := by rw [S4.out]; simp only [List.length_append, List.length_cons, List.length_nil]; omega
     go_wp2_with fail
     refine ord_start (SB (wr.heap.size + 1) [] _) 14 (preB 0 14) (by kernel_rfl) (by kernel_rfl) (by kernel_rfl) SB.refl.drew (fun hHeld => ?_)
     refine oS (i := 0) (preB 1 13) rfl hHeld ?_
     (try simp only [Act.put, putS])
     refine oS (i := 1) (preB 2 12) rfl hHeld ?_
     (try simp only [Act.put, putS])
     refine oS (i := 2) (preB 3 11) rfl hHeld ?_
     (try simp only [Act.put, putS])
     refine oS (i := 3) (preB 4 10) rfl hHeld ?_
     (try simp only [Act.put, putS])
     refine oS (i := 7) #[true, true, true, true, false, false, false, true, false, false, false, false, false, false] rfl hHeld ?_
     (try simp only [Act.put, putS])
     refine oS (i := 8) #[true, true, true, true, false, false, false, true, true, false, false, false, false, false] rfl hHeld ?_
     (try simp only [Act.put, putS])
     refine wpAnyH_ready (rs := [4]) (by kernel_rfl) (by simp) ?_
     refine ord_run (i := 4) #[true, true, true, true, true, false, false, true, true, false, false, false, false, false] rfl (by kernel_rfl) (by rfl) (fun K hK => ?_) AllReadyH.nil
     go_simp
     go_wp2_with (go_at_call 65; refine (cash_any (fsts x.sl k) d (w.heap.size + 1) _ (by first | assumption | (simp [go_sem, *])) (HTR.out.below belT)).mono ?_; rintro e w6 ⟨rfl, hb⟩; rw [← D4.out]; have q6B : Below wr.heap.size wr w6 := qB hb; have q6z := hb.size; (try simp at q6z); have q6t : wr.heap.size ≤ w6.heap.size := (by omega); have q6s0 : w.heap.size < w6.heap.size := (by omega); obtain ⟨q6n0_0, q6n0_1, q6n0_2⟩ := kN q6s0; obtain ⟨q6c0_0, q6c0_1, q6c0_2, q6c0_3, q6c0_4, q6c0_5, q6c0_6, q6f0⟩ := kC7 hb w.heap.size; simp [go_sem, *] at q6c0_0 q6c0_1 q6c0_2 q6c0_3 q6c0_4 q6c0_5 q6c0_6 q6f0; have q6s1 : w.heap.size + 1 < w6.heap.size := (by omega); obtain ⟨q6n1_0, q6n1_1, q6n1_2⟩ := kN q6s1; obtain ⟨q6c1_0, q6f1⟩ := kC1 hb (w.heap.size + 1); simp [go_sem, *] at q6c1_0 q6f1; have q6s2 : wr.heap.size < w6.heap.size := (by omega); obtain ⟨q6n2_0, q6n2_1, q6n2_2⟩ := kN q6s2; obtain ⟨q6c2_0, q6c2_1, q6f2⟩ := kC2 hb wr.heap.size; simp [go_sem, *] at q6c2_0 q6c2_1 q6f2; have q6o := belO q6B; have hbS := hb; have hbS6 := hb; clear hb)
     refine hK.out _ _ ?_ (fun hHeld => ?_)
     ·exact sbT
     clear hK K
     (try simp only [Act.put, putS])
     refine oT (i := 5) #[true, true, true, true, true, true, false, true, true, false, false, false, false, false] (.string ⟨s0.toArray⟩) rfl hHeld (fun wx hSx => ?_) ?_
     ·(unfold SB at hSx; go_simp; exact cat_to S0.out (by omega))
     (try simp only [Act.put, putS])
     refine oT (i := 6) (preB 9 5) (.string ⟨s1.toArray⟩) rfl hHeld (fun wx hSx => ?_) ?_
     ·(unfold SB at hSx; go_simp; exact cat_to S1.out (by omega))
     (try simp only [Act.put, putS])
     refine wpAnyH_ready (rs := [9]) (by kernel_rfl) (by simp) ?_
     refine ord_run (i := 9) (preB 10 4) rfl (by kernel_rfl) (by rfl) (fun K hK => ?_) AllReadyH.nil
     go_simp
     go_wp2_with (go_at_call 68; refine (itoa_any (snds x.sl k) (by omega) g2 _ (HTR.out.below belT)).mono ?_; rintro e w7 ⟨rfl, hb⟩; rw [← D5.out]; have q7B : Below wr.heap.size wr w7 := qB hb; have q7z := hb.size; (try simp at q7z); have q7t : wr.heap.size ≤ w7.heap.size := (by omega); have q7s0 : w.heap.size < w7.heap.size := (by omega); obtain ⟨q7n0_0, q7n0_1, q7n0_2⟩ := kN q7s0; obtain ⟨q7c0_0, q7c0_1, q7c0_2, q7c0_3, q7c0_4, q7c0_5, q7c0_6, q7f0⟩ := kC7 hb w.heap.size; simp [go_sem, *] at q7c0_0 q7c0_1 q7c0_2 q7c0_3 q7c0_4 q7c0_5 q7c0_6 q7f0; have q7s1 : w.heap.size + 1 < w7.heap.size := (by omega); obtain ⟨q7n1_0, q7n1_1, q7n1_2⟩ := kN q7s1; obtain ⟨q7c1_0, q7f1⟩ := kC1 hb (w.heap.size + 1); simp [go_sem, *] at q7c1_0 q7f1; have q7s2 : wr.heap.size < w7.heap.size := (by omega); obtain ⟨q7n2_0, q7n2_1, q7n2_2⟩ := kN q7s2; obtain ⟨q7c2_0, q7c2_1, q7f2⟩ := kC2 hb wr.heap.size; simp [go_sem, *] at q7c2_0 q7c2_1 q7f2; have q7o := belO q7B; have hbS := hb; have hbS7 := hb; clear hb)
     refine hK.out _ _ ?_ (fun hHeld => ?_)
     ·exact sbT
     clear hK K
     (try simp only [Act.put, putS])
     refine oT (i := 10) (preB 11 3) (.string ⟨s2.toArray⟩) rfl hHeld (fun wx hSx => ?_) ?_
     ·(unfold SB at hSx; go_simp; exact cat_to S2.out (by omega))
     (try simp only [Act.put, putS])
     refine oT (i := 11) (preB 12 2) (.string ⟨s3.toArray⟩) rfl hHeld (fun wx hSx => ?_) ?_
     ·(unfold SB at hSx; go_simp; exact cat_to S3.out (by omega))
     (try simp only [Act.put, putS])
     refine oT (i := 12) (preB 13 1) (.string ⟨s4.toArray⟩) rfl hHeld (fun wx hSx => ?_) ?_
     ·(unfold SB at hSx; go_simp; exact cat_to S4.out (by omega))
     (try simp only [Act.put, putS])
     refine oS (i := 13) (preB 14 0) rfl hHeld ?_
     (try simp only [Act.put, putS])
     refine wpAnyH_done (by kernel_rfl) ?_ _
     rw [show s4 = r3 ++ pcsL (fsts x.sl) (snds x.sl) d (k + 1) from by rw [S4.out, S3.out, S2.out, S1.out, S0.out]; exact HF.out]
     go_wp2_with fail
     go_roundw
     case rel => exact ⟨k + 1, HK.out, rfl, by go_num, HBW.out.trans (q7B.mono (by have := HBW.out.size; omega))⟩
     case measure => have := HK.out; simp [intOf]; omega
    ·obtain rfl : k = x.sl.length := by omega
     clear hlt hk
     go_wp2_with fail
     refine (amount_any x.gr hg _).mono ?_
     rintro e w6 ⟨u, v, rfl, hb⟩
     have q6B : Below wr.heap.size wr w6 := qB hb
     have q6z := hb.size
     try simp at q6z
     have q6t : wr.heap.size ≤ w6.heap.size := (by omega)
     obtain ⟨q6s0, q6n0_0, q6n0_1, q6n0_2⟩ := kB w6.heap.size w.heap.size
     obtain ⟨q6c0_0, q6c0_1, q6c0_2, q6c0_3, q6c0_4, q6c0_5, q6c0_6, q6f0⟩ := kC7 hb w.heap.size
     simp [go_sem, *] at q6c0_0 q6c0_1 q6c0_2 q6c0_3 q6c0_4 q6c0_5 q6c0_6 q6f0
     obtain ⟨q6s1, q6n1_0, q6n1_1, q6n1_2⟩ := kB w6.heap.size (w.heap.size + 1)
     obtain ⟨q6c1_0, q6f1⟩ := kC1 hb (w.heap.size + 1)
     simp [go_sem, *] at q6c1_0 q6f1
     have q6o := belO q6B
     clear hb
     have HT6 := hide (HTR.out.below q6B)
     have B6 := hide (HBW.out.trans (q6B.mono (by have := HBW.out.size; omega)))
     by_cases he : raE x.gr = 0
     ·have HV := hide (tE_ok HS.out HZ.out he)
      rw [he]
      obtain ⟨l6, h6⟩ : ∃ l, l = Lib.itoa (x.tt - x.fr + 1) := ⟨_, rfl⟩
      obtain ⟨l7, h7⟩ : ∃ l, l = amtL (raV x.gr) d := ⟨_, rfl⟩
      have b6 : l6.length ≤ 20 := by rw [h6]; exact itoa_len (by omega) (by omega)
      have b7 : l7.length ≤ 30 := by rw [h7]; exact amtL_len _ _
      have HF := hide (show ((((⟨h1.toArray⟩ : ByteArray) ++ (⟨#[44, 32]⟩ : ByteArray)) ++ (⟨l6.toArray⟩ : ByteArray)) ++ (⟨#[32, 100, 97, 121, 115, 58, 32]⟩ : ByteArray)) ++ (⟨l7.toArray⟩ : ByteArray) = ⟨(tL x d).toArray⟩ from by
       rw [show (⟨#[44, 32]⟩ : ByteArray) = ⟨[44, 32].toArray⟩ from rfl, show (⟨#[32, 100, 97, 121, 115, 58, 32]⟩ : ByteArray) = ⟨[32, 100, 97, 121, 115, 58, 32].toArray⟩ from rfl, bcat, bcat, bcat, bcat, HV.out.2, GH.out, HH3.out, h6, h7]
       simp [endL])
      have D6 := hide h6
      have D7 := hide h7
      have hw1 : IntKind.i64.wrap (x.tt - x.fr) = x.tt - x.fr := by rw [IntKind.wrap_i64]; omega
      have hw2 : IntKind.i64.wrap (x.tt - x.fr + 1) = x.tt - x.fr + 1 := by rw [IntKind.wrap_i64]; omega
      have hbb : h1.length + 2 + l6.length + 7 + l7.length ≤ 9223372036854775806 := by omega
      clear h6 h7 he
      go_wp2_with fail
      refine (itoa_any (x.tt - x.fr + 1) (by omega) (by omega) _ (HT6.out.below belT)).mono ?_
      rintro e w7 ⟨rfl, hb⟩
      rw [← D6.out]
      have q7B : Below w6.heap.size w6 w7 := qB hb
      have q7z := hb.size
      try simp at q7z
      have q7t : w6.heap.size ≤ w7.heap.size := (by omega)
      obtain ⟨q7s0, q7n0_0, q7n0_1, q7n0_2⟩ := kB w7.heap.size w.heap.size
      obtain ⟨q7c0_0, q7c0_1, q7c0_2, q7c0_3, q7c0_4, q7c0_5, q7c0_6, q7f0⟩ := kC7 hb w.heap.size
      simp [go_sem, *] at q7c0_0 q7c0_1 q7c0_2 q7c0_3 q7c0_4 q7c0_5 q7c0_6 q7f0
      obtain ⟨q7s1, q7n1_0, q7n1_1, q7n1_2⟩ := kB w7.heap.size (w.heap.size + 1)
      obtain ⟨q7c1_0, q7f1⟩ := kC1 hb (w.heap.size + 1)
      simp [go_sem, *] at q7c1_0 q7f1
      have q7o := belO q7B
      clear hb q6o q6f1 q6c1_0 q6s1 q6f0 q6c0_6 q6c0_5 q6c0_4 q6c0_3 q6c0_2 q6c0_1 q6c0_0 q6s0 q6z q6B
      have HT7 := hide (HT6.out.below q7B)
      have B7 := hide (B6.out.trans (q7B.mono (by have := B6.out.size; omega)))
      go_wp2_with fail
      refine (cash_any (raV x.gr) d (w.heap.size + 1) _ (by first | assumption | (simp [go_sem, *])) HT7.out).mono ?_
      rintro e w8 ⟨rfl, hb⟩
      rw [← D7.out]
      have q8B : Below w7.heap.size w7 w8 := qB hb
      have q8z := hb.size
      try simp at q8z
      have q8t : w7.heap.size ≤ w8.heap.size := (by omega)
      obtain ⟨q8s0, q8n0_0, q8n0_1, q8n0_2⟩ := kB w8.heap.size w.heap.size
      obtain ⟨q8c0_0, q8c0_1, q8c0_2, q8c0_3, q8c0_4, q8c0_5, q8c0_6, q8f0⟩ := kC7 hb w.heap.size
      simp [go_sem, *] at q8c0_0 q8c0_1 q8c0_2 q8c0_3 q8c0_4 q8c0_5 q8c0_6 q8f0
      obtain ⟨q8s1, q8n1_0, q8n1_1, q8n1_2⟩ := kB w8.heap.size (w.heap.size + 1)
      obtain ⟨q8c1_0, q8f1⟩ := kC1 hb (w.heap.size + 1)
      simp [go_sem, *] at q8c1_0 q8f1
      have q8o := belO q8B
      clear hb q7o q7f1 q7c1_0 q7s1 q7f0 q7c0_6 q7c0_5 q7c0_4 q7c0_3 q7c0_2 q7c0_1 q7c0_0 q7s0 q7z q7B
      have B8 := hide (B7.out.trans (q8B.mono (by have := B7.out.size; omega)))
      go_wp2_with fail
      refine bodyPost_ret (by simp [results, Tryz.results35, go_sem, *] <;> rfl) rfl ⟨?_, ?_⟩
      ·rw [HV.out.1, ← HF.out]
      ·exact B4.out.trans (B8.out.mono (by have := B4.out.size; omega))
     ·have HV := hide (tE_err HS.out HZ.out he)
      have he2 : (raE x.gr != 0) = true := by simpa using he
      clear he
      go_wp2_with fail
      refine bodyPost_ret (by simp [results, Tryz.results35, go_sem, *] <;> rfl) rfl ⟨?_, ?_⟩
      ·rw [HV.out.1, HV.out.2]
      ·exact B4.out.trans (Below.trans (B6.out.mono (by have := B4.out.size; omega)) belT)
end Go.Proofs.YtdjlaiilngechaaGreatDoor
