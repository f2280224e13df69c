/- Texts laid together: Eud. -/
import Derived.Test.YtdjlaiilngechaaGreatDoorUEuc
import Derived.Test.YtdjlaiilngechaaGreatDoorUMnG
import Derived.Test.YtdjlaiilngechaaGreatDoorUK0
namespace Go.Proofs.YtdjlaiilngechaaGreatDoor
set_option maxRecDepth 4000
set_option linter.unusedSimpArgs false
set_option linter.unusedVariables false
open Go.RowKit
def RTxI (f g : Nat → Int) (h0 : List UInt8) (A : Option Addr) (d : Int) (n c : Nat) (x : Lin) (w W : World) (v6 v8 v12 : Value) (wr : World) : Prop :=
 ∃ k : Nat, k ≤ n ∧ v8 = .string ⟨(h0 ++ pcsL f g d k).toArray⟩ ∧ v12 = .int .i64 k ∧ Below W.heap.size W wr ∧ (wr.cell? ⟨w.heap.size, 4, none⟩ = some (.slice A n c) ∧ wr.cell? ⟨w.heap.size, 0, none⟩ = some (.int .i64 x.fr) ∧ wr.cell? ⟨w.heap.size, 1, none⟩ = some (.int .i64 x.tt))
set_option maxRecDepth 20000 in
set_option maxHeartbeats 8000000 in
theorem rtext_any (x : Lin) (A : Option Addr) (c : Nat) (d : Int) (hl : x.sl.length ≤ 1000) (hg : WIn x.gr) (w : World) (hr : Row2 w A x.sl.length (fsts x.sl) (snds x.sl)) (hib : IB x.sl.length (fsts x.sl) (snds x.sl)) :
  Calls Tryz.prog 36 #[LinV x A c, .int .i64 d] w fun e w' => e = .returned (.tuple #[.string ⟨(tL x d).toArray⟩, .int .i64 (tE x d)]) ∧ Below w.heap.size w w' := by
 have HR := hide hr
 have HI := hide hib
 clear hr hib
 cases hsh : shB x d with
 | false =>
  have HS := hide hsh
  have HV := hide (tE_no hsh)
  clear hsh
  go_enter Tryz.func36, Tryz.ntmps36
  go_wp2_with fail
  refine (rright_any x A c d (by omega) _ (HR.out.below belT)).mono ?_
  rintro e w1 ⟨rfl, hb⟩
  rw [HS.out]
  have q1B : Below w.heap.size w w1 := qB hb
  have q1z := hb.size
  try simp at q1z
  have q1t : w.heap.size ≤ w1.heap.size := (by omega)
  have q1o := belO q1B
  clear hb
  go_wp2_with fail
  refine bodyPost_ret (by simp [results, Tryz.results36, go_sem, *] <;> rfl) rfl ⟨?_, ?_⟩
  ·rw [HV.out.1, HV.out.2]
  ·(repeat (first | (with_reducible first | exact Below.refl _ _ | assumption | refine Below.drew ?_) | ((with_reducible first | refine Below.alloc ?_ ?_ _ | refine Below.setCell ?_ ?_ _); rotate_left; (first | omega | (simp <;> omega)))))
 | true =>
  have HS := hide hsh
  obtain ⟨⟨d0, d4⟩, v1, v2, hft, v3, hbd⟩ := sh_yes hsh
  have HBD := hide hbd
  rw [vday_iff] at v1 v2
  clear hsh hbd v3
  obtain ⟨l1, h1⟩ : ∃ l, l = fmtL x.fr := ⟨_, rfl⟩
  obtain ⟨l2, h2⟩ : ∃ l, l = fmtL x.tt := ⟨_, rfl⟩
  obtain ⟨l3, h3⟩ : ∃ l, l = amtL x.bl d := ⟨_, rfl⟩
  have b1 : l1.length ≤ 10 := by rw [h1]; exact fmtL_len _
  have b2 : l2.length ≤ 10 := by rw [h2]; exact fmtL_len _
  have b3 : l3.length ≤ 30 := by rw [h3]; exact amtL_len _ _
  have D1 := hide h1
  have D2 := hide h2
  have D3 := hide h3
  have HH := hide (show (((l1 ++ [32, 116, 111, 32]) ++ l2) ++ [58, 32]) ++ l3 = hdL x d from by rw [h1, h2, h3]; rfl)
  clear h1 h2 h3
  obtain ⟨r0, R0⟩ : ∃ r : List UInt8, Hid (r = l1 ++ [32, 116, 111, 32]) := ⟨_, hide rfl⟩
  have br0 : r0.length ≤ 40 := by rw [R0.out]; simp only [List.length_append, List.length_cons, List.length_nil]; omega
  obtain ⟨r1, R1⟩ : ∃ r : List UInt8, Hid (r = r0 ++ l2) := ⟨_, hide rfl⟩
  have br1 : r1.length ≤ 80 := by rw [R1.out]; simp only [List.length_append, List.length_cons, List.length_nil]; omega
  obtain ⟨r2, R2⟩ : ∃ r : List UInt8, Hid (r = r1 ++ [58, 32]) := ⟨_, hide rfl⟩
  have br2 : r2.length ≤ 120 := by rw [R2.out]; simp only [List.length_append, List.length_cons, List.length_nil]; omega
  obtain ⟨r3, R3⟩ : ∃ r : List UInt8, Hid (r = r2 ++ l3) := ⟨_, hide rfl⟩
  have br3 : r3.length ≤ 160 := by rw [R3.out]; simp only [List.length_append, List.length_cons, List.length_nil]; omega
  go_enter Tryz.func36, Tryz.ntmps36
  go_wp2_with fail
  refine (rright_any x A c d (by omega) _ (HR.out.below belT)).mono ?_
  rintro e w1 ⟨rfl, hb⟩
  rw [HS.out]
  have q1B : Below w.heap.size w w1 := qB hb
  have q1z := hb.size
  try simp at q1z
  have q1t : w.heap.size ≤ w1.heap.size := (by omega)
  obtain ⟨q1s0, q1n0_0, q1n0_1, q1n0_2⟩ := kB w1.heap.size w.heap.size
  obtain ⟨q1c0_0, q1c0_1, q1c0_2, q1c0_3, q1c0_4, q1c0_5, q1c0_6, q1f0⟩ := kC7 hb w.heap.size
  simp [go_sem, *] at q1c0_0 q1c0_1 q1c0_2 q1c0_3 q1c0_4 q1c0_5 q1c0_6 q1f0
  have q1o := belO q1B
  clear hb
  go_wp2_with fail
  refine (rmformat_any x.bl d _).mono ?_
  rintro e w2 ⟨rfl, hb⟩
  rw [← D3.out]
  have q2B : Below w.heap.size w w2 := qB hb
  have q2z := hb.size
  try simp at q2z
  have q2t : w.heap.size ≤ w2.heap.size := (by omega)
  obtain ⟨q2s0, q2n0_0, q2n0_1, q2n0_2⟩ := kB w2.heap.size w.heap.size
  obtain ⟨q2c0_0, q2c0_1, q2c0_2, q2c0_3, q2c0_4, q2c0_5, q2c0_6, q2f0⟩ := kC7 hb w.heap.size
  simp [go_sem, *] at q2c0_0 q2c0_1 q2c0_2 q2c0_3 q2c0_4 q2c0_5 q2c0_6 q2f0
  have q2o := belO q2B
  clear hb q1o q1f0 q1c0_6 q1c0_5 q1c0_4 q1c0_3 q1c0_2 q1c0_1 q1c0_0 q1s0 q1z q1B
  go_wp2_with fail
  refine ord_start (SB (w2.heap.size) [] _) 12 (preB 0 12) (by kernel_rfl) (by kernel_rfl) (by kernel_rfl) SB.refl.drew (fun hHeld => ?_)
  refine oS (i := 0) (preB 1 11) rfl hHeld ?_
  (try simp only [Act.put, putS])
  refine oS (i := 1) (preB 2 10) rfl hHeld ?_
  (try simp only [Act.put, putS])
  refine oS (i := 4) #[true, true, false, false, true, false, false, false, false, false, false, false] rfl hHeld ?_
  (try simp only [Act.put, putS])
  refine oS (i := 5) #[true, true, false, false, true, true, false, false, false, false, false, false] rfl hHeld ?_
  (try simp only [Act.put, putS])
  refine oS (i := 9) #[true, true, false, false, true, true, false, false, false, true, false, false] rfl hHeld ?_
  (try simp only [Act.put, putS])
  refine wpAnyH_ready (rs := [2]) (by kernel_rfl) (by simp) ?_
  refine ord_run (i := 2) #[true, true, true, false, true, true, false, false, false, true, false, false] rfl (by kernel_rfl) (by rfl) (fun K hK => ?_) AllReadyH.nil
  go_simp
  go_wp2_with (go_at_call 72; refine (rformat_any x.fr _).mono ?_; rintro e w3 ⟨rfl, hb⟩; rw [← D1.out]; have q3B : Below w.heap.size w w3 := qB hb; have q3z := hb.size; (try simp at q3z); have q3t : w.heap.size ≤ w3.heap.size := (by omega); have q3s0 : w.heap.size < w3.heap.size := (by omega); obtain ⟨q3n0_0, q3n0_1, q3n0_2⟩ := kN q3s0; obtain ⟨q3c0_0, q3c0_1, q3c0_2, q3c0_3, q3c0_4, q3c0_5, q3c0_6, q3f0⟩ := kC7 hb w.heap.size; simp [go_sem, *] at q3c0_0 q3c0_1 q3c0_2 q3c0_3 q3c0_4 q3c0_5 q3c0_6 q3f0; have q3o := belO q3B; have hbS := hb; have hbS3 := hb; clear hb)
  refine hK.out _ _ ?_ (fun hHeld => ?_)
  ·exact sbT
  clear hK K
  (try simp only [Act.put, putS])
  refine oT (i := 3) #[true, true, true, true, true, true, false, false, false, true, false, false] (.string ⟨r0.toArray⟩) rfl hHeld (fun wx hSx => ?_) ?_
  ·(unfold SB at hSx; go_simp; exact cat_to R0.out (by omega))
  (try simp only [Act.put, putS])
  refine wpAnyH_ready (rs := [6]) (by kernel_rfl) (by simp) ?_
  refine ord_run (i := 6) #[true, true, true, true, true, true, true, false, false, true, false, false] rfl (by kernel_rfl) (by rfl) (fun K hK => ?_) AllReadyH.nil
  go_simp
  go_wp2_with (go_at_call 72; refine (rformat_any x.tt _).mono ?_; rintro e w4 ⟨rfl, hb⟩; rw [← D2.out]; have q4B : Below w.heap.size w w4 := qB hb; have q4z := hb.size; (try simp at q4z); have q4t : w.heap.size ≤ w4.heap.size := (by omega); have q4s0 : w.heap.size < w4.heap.size := (by omega); obtain ⟨q4n0_0, q4n0_1, q4n0_2⟩ := kN q4s0; obtain ⟨q4c0_0, q4c0_1, q4c0_2, q4c0_3, q4c0_4, q4c0_5, q4c0_6, q4f0⟩ := kC7 hb w.heap.size; simp [go_sem, *] at q4c0_0 q4c0_1 q4c0_2 q4c0_3 q4c0_4 q4c0_5 q4c0_6 q4f0; have q4o := belO q4B; have hbS := hb; have hbS4 := hb; clear hb)
  refine hK.out _ _ ?_ (fun hHeld => ?_)
  ·exact sbT
  clear hK K
  (try simp only [Act.put, putS])
  refine oT (i := 7) #[true, true, true, true, true, true, true, true, false, true, false, false] (.string ⟨r1.toArray⟩) rfl hHeld (fun wx hSx => ?_) ?_
  ·(unfold SB at hSx; go_simp; exact cat_to R1.out (by omega))
  (try simp only [Act.put, putS])
  refine oT (i := 8) (preB 10 2) (.string ⟨r2.toArray⟩) rfl hHeld (fun wx hSx => ?_) ?_
  ·(unfold SB at hSx; go_simp; exact cat_to R2.out (by omega))
  (try simp only [Act.put, putS])
  refine oT (i := 10) (preB 11 1) (.string ⟨r3.toArray⟩) rfl hHeld (fun wx hSx => ?_) ?_
  ·(unfold SB at hSx; go_simp; exact cat_to R3.out (by omega))
  (try simp only [Act.put, putS])
  refine oS (i := 11) (preB 12 0) rfl hHeld ?_
  (try simp only [Act.put, putS])
  refine wpAnyH_done (by kernel_rfl) ?_ _
  have HH3 := hide (show r3 = hdL x d from by rw [R3.out, R2.out, R1.out, R0.out]; exact HH.out)
  have B4 := hide q4B
  clear br0 br1 br2 b1 b2 b3 q3B hbS3
  by_cases hz : x.sl.length = 0
  ·have HV := hide (tE_nil HS.out hz)
   have HF := hide (show (⟨r3.toArray⟩ : ByteArray) ++ (⟨#[44, 32, 110, 111, 32, 105, 110, 116, 101, 114, 101, 115, 116]⟩ : ByteArray) = ⟨(tL x d).toArray⟩ from by
    rw [show (⟨#[44, 32, 110, 111, 32, 105, 110, 116, 101, 114, 101, 115, 116]⟩ : ByteArray) = ⟨noL.toArray⟩ from rfl, bcat, HV.out.2, HH3.out])
   have hz2 : ((x.sl.length : Nat) : Int) = 0 := by omega
   have hzz := br3
   clear hz
   go_wp2_with fail
   refine bodyPost_ret (by simp [results, Tryz.results36, go_sem, *] <;> rfl) rfl ⟨?_, ?_⟩
   ·rw [HV.out.1, ← HF.out]
   ·exact B4.out
  ·have HZ := hide hz
   have hz2 : ((((x.sl.length : Nat) : Int)) == 0) = false := beq_eq_false_iff_ne.2 (by omega)
   clear hz
   go_wp2_with fail
   refine (ramount_any x.gr hg _).mono ?_
   rintro e w6 ⟨u, v, rfl, hb⟩
   by_cases he : raE x.gr = 0
   ·have HV := hide (tE_ok HS.out HZ.out he)
    rw [he]
    clear he
    have q6B : Below w.heap.size w w6 := qB hb
    have q6z := hb.size
    try simp at q6z
    have q6t : w.heap.size ≤ w6.heap.size := (by omega)
    obtain ⟨q6s0, q6n0_0, q6n0_1, q6n0_2⟩ := kB w6.heap.size w.heap.size
    obtain ⟨q6c0_0, q6c0_1, q6c0_2, q6c0_3, q6c0_4, q6c0_5, q6c0_6, q6f0⟩ := kC7 hb w.heap.size
    simp [go_sem, *] at q6c0_0 q6c0_1 q6c0_2 q6c0_3 q6c0_4 q6c0_5 q6c0_6 q6f0
    have q6o := belO q6B
    clear hb q4o q4f0 q4c0_6 q4c0_5 q4c0_4 q4c0_3 q4c0_2 q4c0_1 q4c0_0 q4s0 q4z q4B
    have B6 := hide q6B
    go_wp2_with fail
    go_loopw [6, 8, 12] (fun v6 v8 v12 wr => RTxI (fsts x.sl) (snds x.sl) r3 A d x.sl.length c x w w6 v6 v8 v12 wr) (fun _ _ v _ => x.sl.length - (intOf v).toNat)
    case atStart => exact ⟨0, by omega, by simp [pcsL], rfl, by (repeat (first | (with_reducible first | exact Below.refl _ _ | assumption | refine Below.drew ?_) | ((with_reducible first | refine Below.alloc ?_ ?_ _ | refine Below.setCell ?_ ?_ _); rotate_left; (first | omega | (simp <;> omega))))), by simp [go_sem, *], by simp [go_sem, *], by simp [go_sem, *]⟩
    case round =>
     obtain ⟨k, hk, rfl, rfl, hB, g4, g0, g1⟩ := hrel
     have HBW := hide hB
     have q9t : w.heap.size < wr.heap.size := by have := hB.size; omega
     clear q6B q6z q6s0 q6n0_0 q6n0_1 q6n0_2 q6c0_0 q6c0_1 q6c0_2 q6c0_3 q6c0_4 q6c0_5 q6c0_6 q6o
     have hp0 : (pcsL (fsts x.sl) (snds x.sl) d k).length ≤ 70 * k := pcs_len (fun j hj => ⟨(bad_no HBD.out (show j < x.sl.length by omega)).2, (HI.out j (by omega)).2.2⟩)
     obtain ⟨h1, gh⟩ : ∃ l, l = r3 ++ pcsL (fsts x.sl) (snds x.sl) d k := ⟨_, rfl⟩
     have bh : h1.length ≤ 100000 := by rw [gh, List.length_append]; omega
     rw [← gh]
     have GH := hide gh
     clear gh hp0
     by_cases hlt : k < x.sl.length
     ·obtain ⟨b5, o5, rfl, hb5, hc⟩ := (HR.out.below (B6.out.trans (hB.mono (by have := B6.out.size; omega)))) (by omega)
      obtain ⟨c0, c1⟩ := hc k hlt
      have hm : (k : Int) < x.sl.length := by omega
      have hk0 : (0 : Int) ≤ k := by omega
      have HK := hide hlt
      have e0 := bad_no HBD.out hlt
      have e2 := (HI.out k hlt).2.2
      have e1 := e0.2
      have HR2 := hide (HR.out.below (B6.out.trans (hB.mono (by have := B6.out.size; omega))))
      obtain ⟨l4, h4⟩ : ∃ l, l = amtL (fsts x.sl k) d := ⟨_, rfl⟩
      obtain ⟨l5, h5⟩ : ∃ l, l = Lib.itoa (snds x.sl k) := ⟨_, rfl⟩
      have b4 : l4.length ≤ 30 := by rw [h4]; exact amtL_len _ _
      have b5' : l5.length ≤ 20 := by rw [h5]; exact itoa_len e1 e2
      have HF := hide (show ((((((⟨h1.toArray⟩ : ByteArray) ++ (⟨#[44, 32]⟩ : ByteArray)) ++ (⟨l4.toArray⟩ : ByteArray)) ++ (⟨#[32, 97, 116, 32]⟩ : ByteArray)) ++ (⟨l5.toArray⟩ : ByteArray)) ++ (⟨#[32, 112, 112, 109]⟩ : ByteArray)) = ⟨(r3 ++ pcsL (fsts x.sl) (snds x.sl) d (k + 1)).toArray⟩ from by
       rw [show (⟨#[44, 32]⟩ : ByteArray) = ⟨[44, 32].toArray⟩ from rfl, show (⟨#[32, 97, 116, 32]⟩ : ByteArray) = ⟨[32, 97, 116, 32].toArray⟩ from rfl, show (⟨#[32, 112, 112, 109]⟩ : ByteArray) = ⟨[32, 112, 112, 109].toArray⟩ from rfl, bcat, bcat, bcat, bcat, bcat, GH.out, h4, h5]
       simp [pcsL, pcL])
      have D4 := hide h4
      have D5 := hide h5
      have hbb : h1.length + 2 + l4.length + 4 + l5.length + 4 ≤ 9223372036854775806 := by omega
      clear hlt hk hc h4 h5 e0
      go_wp2_with fail
      refine (rmformat_any (fsts x.sl k) d _).mono ?_
      rintro e w7 ⟨rfl, hb⟩
      rw [← D4.out]
      have B7 := hide hb
      have c1' := (hb.cell (p := ⟨b5, o5 + k * 2 + 1, none⟩) hb5).trans c1
      have g4' := (hb.cell (p := ⟨w.heap.size, 4, none⟩) q9t).trans g4
      have g0' := (hb.cell (p := ⟨w.heap.size, 0, none⟩) q9t).trans g0
      have g1' := (hb.cell (p := ⟨w.heap.size, 1, none⟩) q9t).trans g1
      clear hb
      go_wp2_with fail
      refine (rint_any (snds x.sl k) (by omega) e2 _).mono ?_
      rintro e w8 ⟨rfl, hb⟩
      rw [← D5.out]
      have q9u : w.heap.size < w7.heap.size := by have := B7.out.size; omega
      have g4'' := (hb.cell (p := ⟨w.heap.size, 4, none⟩) q9u).trans g4'
      have g0'' := (hb.cell (p := ⟨w.heap.size, 0, none⟩) q9u).trans g0'
      have g1'' := (hb.cell (p := ⟨w.heap.size, 1, none⟩) q9u).trans g1'
      have B8 := hide (B7.out.trans (hb.mono B7.out.size))
      clear hb
      go_wp2_with fail
      go_roundw
      case rel => exact ⟨k + 1, HK.out, by rw [← HF.out], by go_num, HBW.out.trans (B8.out.mono HBW.out.size), g4'', g0'', g1''⟩
      case measure => have := HK.out; simp [intOf]; omega
     ·obtain rfl : k = x.sl.length := by omega
      clear hlt hk
      obtain ⟨l6, h6⟩ : ∃ l, l = Lib.itoa (x.tt - x.fr + 1) := ⟨_, rfl⟩
      obtain ⟨l7, h7⟩ : ∃ l, l = amtL (raV x.gr) d := ⟨_, rfl⟩
      have b6 : l6.length ≤ 20 := by rw [h6]; exact itoa_len (by omega) (by omega)
      have b7 : l7.length ≤ 30 := by rw [h7]; exact amtL_len _ _
      have HF := hide (show ((((⟨h1.toArray⟩ : ByteArray) ++ (⟨#[44, 32]⟩ : ByteArray)) ++ (⟨l6.toArray⟩ : ByteArray)) ++ (⟨#[32, 100, 97, 121, 115, 58, 32]⟩ : ByteArray)) ++ (⟨l7.toArray⟩ : ByteArray) = ⟨(tL x d).toArray⟩ from by
       rw [show (⟨#[44, 32]⟩ : ByteArray) = ⟨[44, 32].toArray⟩ from rfl, show (⟨#[32, 100, 97, 121, 115, 58, 32]⟩ : ByteArray) = ⟨[32, 100, 97, 121, 115, 58, 32].toArray⟩ from rfl, bcat, bcat, bcat, bcat, HV.out.2, GH.out, HH3.out, h6, h7]
       simp [endL])
      have D6 := hide h6
      have D7 := hide h7
      have hw1 : IntKind.i64.wrap (x.tt - x.fr) = x.tt - x.fr := by rw [IntKind.wrap_i64]; omega
      have hw2 : IntKind.i64.wrap (x.tt - x.fr + 1) = x.tt - x.fr + 1 := by rw [IntKind.wrap_i64]; omega
      have hbb : h1.length + 2 + l6.length + 7 + l7.length ≤ 9223372036854775806 := by omega
      clear h6 h7
      go_wp2_with fail
      refine (rmformat_any (raV x.gr) d _).mono ?_
      rintro e w7 ⟨rfl, hb⟩
      rw [← D7.out]
      have B7 := hide hb
      have g0' := (hb.cell (p := ⟨w.heap.size, 0, none⟩) q9t).trans g0
      have g1' := (hb.cell (p := ⟨w.heap.size, 1, none⟩) q9t).trans g1
      clear hb
      go_wp2_with fail
      refine (rint_any (x.tt - x.fr + 1) (by omega) (by omega) _).mono ?_
      rintro e w8 ⟨rfl, hb⟩
      rw [← D6.out]
      have B8 := hide (B7.out.trans (hb.mono B7.out.size))
      clear hb
      go_wp2_with fail
      refine bodyPost_ret (by simp [results, Tryz.results36, go_sem, *] <;> rfl) rfl ⟨?_, ?_⟩
      ·rw [HV.out.1, ← HF.out]
      ·exact (B6.out.trans (HBW.out.mono B6.out.size)).trans (B8.out.mono (by have := B6.out.size; have := HBW.out.size; omega))
   ·have HV := hide (tE_err HS.out HZ.out he)
    have he2 : (raE x.gr != 0) = true := by simpa using he
    clear he
    have q6B : Below w.heap.size w w6 := qB hb
    have q6z := hb.size
    try simp at q6z
    have q6t : w.heap.size ≤ w6.heap.size := (by omega)
    have q6o := belO q6B
    clear hb
    go_wp2_with fail
    refine bodyPost_ret (by simp [results, Tryz.results36, go_sem, *] <;> rfl) rfl ⟨?_, ?_⟩
    ·rw [HV.out.1, HV.out.2]
    ·(repeat (first | (with_reducible first | exact Below.refl _ _ | assumption | refine Below.drew ?_) | ((with_reducible first | refine Below.alloc ?_ ?_ _ | refine Below.setCell ?_ ?_ _); rotate_left; (first | omega | (simp <;> omega)))))
/-! ### Text -/
set_option maxHeartbeats 4000000 in
theorem rtexts_any (A : Option Addr) (n c : Nat) (x : Nat → LnR) (d : Int) (hn : n ≤ 1000) (hx : ∀ k, k < n → (x k).1.sl.length ≤ 1000 ∧ WIn (x k).1.gr ∧ IB (x k).1.sl.length (fsts (x k).1.sl) (snds (x k).1.sl)) (w : World) (hr : RowLn w A n x) :
  Calls Tryz.prog 14 #[.slice A n c, .int .i64 d] w (TxsRet (linOf x) d n w) := by
 have HR := hide hr
 have HX := hide hx
 clear hr hx
 obtain ⟨i0, hi0, hz00, hz1, hz2⟩ := info_parts str_info
 go_enter Tryz.func14, Tryz.ntmps14
 go_wp2_with fail
 go_loopw [6, 7] (fun v6 v wr => TsI (linOf x) d n w v6 v wr) (fun _ v _ => n - (intOf v).toNat)
 case atStart => exact ⟨0, none, 0, by omega, rfl, rfl, rfl, ⟨by simp [txsL], .inl ⟨rfl, rfl⟩⟩, Below.refl _ _⟩
 case round =>
  obtain ⟨k, A1, c1, hk, rfl, rfl, hE, ho, hB⟩ := hrel
  have HE := hide hE
  have HO := hide ho
  clear hE ho
  have hzB := hB.size
  by_cases hlt : k < n
  ·obtain ⟨b1, o1, rfl, hb1, c0, c1', c2, c3, c4, c5, c6⟩ := (HR.out.below hB).at hlt
   have hm1 : (k : Int) < n := by omega
   have hm3 : (0 : Int) ≤ (k : Int) := by omega
   have HK := hide hlt
   have HSL := hide ((HR.out.below hB).sl k hlt)
   obtain ⟨x1, x2, x3⟩ := HX.out k hlt
   clear hlt hk
   go_wp2_with fail
   refine (rtext_any (x k).1 (x k).2.1 (x k).2.2 d x1 x2 _ (HSL.out.below belT) x3).mono ?_
   rintro e w1 ⟨rfl, hb⟩
   have q1B : Below wr.heap.size wr w1 := qB hb
   have q1z := hb.size
   try simp at q1z
   have q1t : wr.heap.size ≤ w1.heap.size := (by omega)
   have q1o := belO q1B
   clear hb
   by_cases he : tE (x k).1 d = 0
   ·have HT1 := hide ((txE_ok HE.out).trans he)
    obtain ⟨bt, hbt⟩ : ∃ b, b = (⟨(tL (x k).1 d).toArray⟩ : ByteArray) := ⟨_, rfl⟩
    rw [he, ← hbt]
    have HB := hide (show bt = txB (linOf x) d k from hbt)
    clear he hbt
    go_wp2_with (at_builtin; go_loud (refine wpList_append_own2 _ rfl (.tmp 28) (.tmp 30) 45 rfl w.heap.size 9 i0 (.string ⟨#[]⟩) 1 16 Tryz.underlying45 hi0 hz00 hz1 hz2 rfl (by decide) _ _ _ rfl ((owns_below HO.out q1B).alloc _) ⟨w1.heap.size, 0, none⟩ 1 1 [.string bt] rfl rfl (news1 (by simp [go_sem])) (ones_all rfl) (by have := HK.out; simp only [maxLen]; omega) (by have := HK.out; omega) (by simp; omega) ?_); intro A9 c9 w9 ho9 hg9 hv9)
    have hs9 := hg9.size
    simp at hs9
    go_roundw
    case rel => exact ⟨k + 1, A9, c9, HK.out, by go_num, rfl, HT1.out, by rw [HB.out] at ho9; exact ho9, hB.trans (Below.trans (q1B.mono (by omega)) (by refine Below.trans ?_ (below_grown (B := w.heap.size) hg9 (by simp; omega) (own_ge HO.out)); (repeat (first | (with_reducible first | exact Below.refl _ _ | assumption | refine Below.drew ?_) | ((with_reducible first | refine Below.alloc ?_ ?_ _ | refine Below.setCell ?_ ?_ _); rotate_left; (first | omega | (simp <;> omega)))))))⟩
    case measure => have := HK.out; simp [intOf]; omega
   ·have HT1 := hide (show txE (linOf x) d n = tE (x k).1 d from by
     have h1 := (txE_ok HE.out : txE (linOf x) d (k + 1) = tE (linOf x k) d)
     rw [txE_mono (k := k + 1) (by rw [h1]; exact he) HK.out, h1]; rfl)
    have HN := hide he
    have he2 : (tE (x k).1 d != 0) = true := by simpa using he
    clear he
    go_wp2_with fail
    go_ret2
    refine ⟨none, 0, 0, by rw [HT1.out]; rfl, by rw [HT1.out, if_neg HN.out], fun h => absurd h (by omega), hB.trans (q1B.mono (by omega))⟩
  ·obtain rfl : k = n := by omega
   clear hlt hk
   go_wp2_with fail
   go_ret2
   exact ⟨A1, c1, k, by rw [HE.out]; rfl, by rw [HE.out]; rfl, own_tx HO.out, hB⟩
end Go.Proofs.YtdjlaiilngechaaGreatDoor
