/- Texts laid together: AcSa. -/
import Derived.Test.YtdjlaiilngechaaGreatDoorQAcM
import Derived.Test.YtdjlaiilngechaaGreatDoorQWa
import Derived.Test.YtdjlaiilngechaaGreatDoorQRc
import Derived.Test.YtdjlaiilngechaaGreatDoorQReg
import Derived.Test.YtdjlaiilngechaaGreatDoorQK0
namespace Go.Proofs.YtdjlaiilngechaaGreatDoor
set_option maxRecDepth 4000
set_option linter.unusedSimpArgs false
set_option linter.unusedVariables false
open Go.RowKit
theorem tot_step {L : Nat → LAcr} {k : Nat} {c d : Int} (h : totS L k = some (c, d)) (h1 : fitE (c + (L k).cr) = 0) (h2 : fitE (d + (L k).db) = 0) : totS L (k + 1) = some (c + (L k).cr, d + (L k).db) := by
  unfold totS
  rw [h]
  exact if_pos ⟨h1, h2⟩
theorem tot_fail {L : Nat → LAcr} {k n : Nat} {c d : Int} (h : totS L k = some (c, d)) (hk : k < n) (h1 : ¬ (fitE (c + (L k).cr) = 0 ∧ fitE (d + (L k).db) = 0)) : totS L n = none :=
  totS_mono (k := k + 1) (by unfold totS; rw [h]; exact if_neg h1) hk
def TotRet (o : Option (Int × Int)) (w : World) (e : Ending) (w' : World) : Prop :=
  e = .returned (match o with | some (c, d) => .tuple #[.agg #[.int .i64 (hiW c), .int .u64 (loW c)], .agg #[.int .i64 (hiW d), .int .u64 (loW d)], .int .i64 0] | none => .tuple #[.agg #[.int .i64 0, .int .u64 0], .agg #[.int .i64 0, .int .u64 0], .int .i64 6]) ∧ Below w.heap.size w w'
def TotI (L : Nat → LAcr) (n : Nat) (w : World) (v : Value) (wr : World) : Prop :=
  ∃ (k : Nat) (c d : Int), k ≤ n ∧ v = .int .i64 k ∧ totS L k = some (c, d) ∧ Below w.heap.size w wr ∧ w.heap.size + 3 < wr.heap.size ∧
    (wr.cell? ⟨w.heap.size, 0, none⟩ = some (.int .i64 0) ∧ wr.cell? ⟨w.heap.size, 1, none⟩ = some (.int .u64 0) ∧ ∀ o, wr.frozen? ⟨w.heap.size, o, none⟩ = false) ∧
    (wr.cell? ⟨w.heap.size + 1, 0, none⟩ = some (.int .i64 0) ∧ wr.cell? ⟨w.heap.size + 1, 1, none⟩ = some (.int .u64 0) ∧ ∀ o, wr.frozen? ⟨w.heap.size + 1, o, none⟩ = false) ∧
    (wr.cell? ⟨w.heap.size + 1 + 1, 0, none⟩ = some (.int .i64 (hiW c)) ∧ wr.cell? ⟨w.heap.size + 1 + 1, 1, none⟩ = some (.int .u64 (loW c)) ∧ ∀ o, wr.frozen? ⟨w.heap.size + 1 + 1, o, none⟩ = false) ∧
    (wr.cell? ⟨w.heap.size + 1 + 1 + 1, 0, none⟩ = some (.int .i64 (hiW d)) ∧ wr.cell? ⟨w.heap.size + 1 + 1 + 1, 1, none⟩ = some (.int .u64 (loW d)) ∧ ∀ o, wr.frozen? ⟨w.heap.size + 1 + 1 + 1, o, none⟩ = false)
set_option maxRecDepth 4000 in
set_option maxHeartbeats 4000000 in
theorem tot_any (A : Option Addr) (n cc : Nat) (L : Nat → LAcr) (hn : n ≤ 1000000) (hL : ∀ k, k < n → WIn (L k).cr ∧ WIn (L k).db) (w : World) (hr : RowAcr w A n L) :
    Calls Tryz.prog 23 #[.slice A n cc] w (TotRet (totS L n) w) := by
  have HR := hide hr
  have HL := hide hL
  clear hr hL
  go_enter Tryz.func23, Tryz.ntmps23
  go_wp2_with fail
  go_loopw [15] (fun v wr => TotI L n w v wr) (fun v _ => n - (intOf v).toNat)
  case atStart => exact ⟨0, 0, 0, by omega, rfl, rfl, by (repeat (first | (with_reducible first | exact Below.refl _ _ | assumption | refine Below.drew ?_) | ((with_reducible first | refine Below.alloc ?_ ?_ _ | refine Below.setCell ?_ ?_ _); rotate_left; (first | omega | (simp <;> omega))))), by simp, ⟨by simp [go_sem], by simp [go_sem], by simp [go_sem]⟩, ⟨by simp [go_sem], by simp [go_sem], by simp [go_sem]⟩, ⟨by simp [go_sem]; rfl, by simp [go_sem]; rfl, by simp [go_sem]⟩, ⟨by simp [go_sem]; rfl, by simp [go_sem]; rfl, by simp [go_sem]⟩⟩
  case round =>
    obtain ⟨k, c, d, hk, rfl, ht, hB, hz, ⟨a0, a1, af⟩, ⟨b0, b1, bf⟩, ⟨c0, c1, cf⟩, ⟨d0, d1, df⟩⟩ := hrel
    have HB := hide hB
    have HT := hide ht
    have HW := hide (totS_in ht)
    have z0 : w.heap.size < wr.heap.size := by omega
    have z1 : w.heap.size + 1 < wr.heap.size := by omega
    have z2 : w.heap.size + 1 + 1 < wr.heap.size := by omega
    clear ht
    by_cases hlt : k < n
    · have hm : (k : Int) < n := by omega
      have hk0 : (0 : Int) ≤ k := by omega
      have HK := hide hlt
      have HE := hide (HL.out k hlt)
      obtain ⟨b, off, rfl, hbl, e0, e1, e2, e3, e4, e5, e6⟩ := (HR.out.below hB).at hlt
      obtain ⟨s, hs⟩ : ∃ s, s = c + (L k).cr := ⟨_, rfl⟩
      obtain ⟨t, ht⟩ : ∃ t, t = d + (L k).db := ⟨_, rfl⟩
      have HA := hide (fun W => by have h := wadd_any c (L k).cr HW.out.1 HE.out.1 W; rw [← hs] at h; exact h)
      have HD := hide (fun W => by have h := wadd_any d (L k).db HW.out.2 HE.out.2 W; rw [← ht] at h; exact h)
      have HS := hide (And.intro hs ht)
      clear hs ht hlt hk hB
      by_cases h1 : fitE s = 0
      · have F1 := hide h1
        have R1 := hide (fitR_of (fitE_iff.1 h1))
        clear h1
        by_cases h2 : fitE t = 0
        · have F2 := hide h2
          have R2 := hide (fitR_of (fitE_iff.1 h2))
          have HN := hide (tot_step HT.out (by rw [← HS.out.1]; exact F1.out) (by rw [← HS.out.2]; exact F2.out))
          clear h2
          go_wp2_with fail
          refine (HA.out _).mono ?_
          rintro e w1 ⟨rfl, hb⟩
          rw [F1.out, R1.out]
          have q1B : Below wr.heap.size wr w1 := qB hb
          have q1z := hb.size
          try simp at q1z
          have q1t : wr.heap.size ≤ w1.heap.size := (by omega)
          have q1s0 : w.heap.size < w1.heap.size := (by omega)
          have q1n0_0 : ¬ w1.heap.size = w.heap.size := (by omega)
          have q1n0_1 : ¬ w1.heap.size + 1 = w.heap.size := (by omega)
          have q1n0_2 : ¬ w1.heap.size + 2 = w.heap.size := (by omega)
          have q1c0_0 := cel hb w.heap.size 0
          simp [go_sem, *] at q1c0_0
          have q1c0_1 := cel hb w.heap.size 1
          simp [go_sem, *] at q1c0_1
          have q1f0 := fun o => fro hb w.heap.size o
          simp [go_sem, *] at q1f0
          have q1s1 : w.heap.size + 1 < w1.heap.size := (by omega)
          have q1n1_0 : ¬ w1.heap.size = w.heap.size + 1 := (by omega)
          have q1n1_1 : ¬ w1.heap.size + 1 = w.heap.size + 1 := (by omega)
          have q1n1_2 : ¬ w1.heap.size + 2 = w.heap.size + 1 := (by omega)
          have q1c1_0 := cel hb (w.heap.size + 1) 0
          simp [go_sem, *] at q1c1_0
          have q1c1_1 := cel hb (w.heap.size + 1) 1
          simp [go_sem, *] at q1c1_1
          have q1f1 := fun o => fro hb (w.heap.size + 1) o
          simp [go_sem, *] at q1f1
          have q1s2 : w.heap.size + 1 + 1 < w1.heap.size := (by omega)
          have q1n2_0 : ¬ w1.heap.size = w.heap.size + 1 + 1 := (by omega)
          have q1n2_1 : ¬ w1.heap.size + 1 = w.heap.size + 1 + 1 := (by omega)
          have q1n2_2 : ¬ w1.heap.size + 2 = w.heap.size + 1 + 1 := (by omega)
          have q1c2_0 := cel hb (w.heap.size + 1 + 1) 0
          simp [go_sem, *] at q1c2_0
          have q1c2_1 := cel hb (w.heap.size + 1 + 1) 1
          simp [go_sem, *] at q1c2_1
          have q1f2 := fun o => fro hb (w.heap.size + 1 + 1) o
          simp [go_sem, *] at q1f2
          have q1s3 : w.heap.size + 1 + 1 + 1 < w1.heap.size := (by omega)
          have q1n3_0 : ¬ w1.heap.size = w.heap.size + 1 + 1 + 1 := (by omega)
          have q1n3_1 : ¬ w1.heap.size + 1 = w.heap.size + 1 + 1 + 1 := (by omega)
          have q1n3_2 : ¬ w1.heap.size + 2 = w.heap.size + 1 + 1 + 1 := (by omega)
          have q1c3_0 := cel hb (w.heap.size + 1 + 1 + 1) 0
          simp [go_sem, *] at q1c3_0
          have q1c3_1 := cel hb (w.heap.size + 1 + 1 + 1) 1
          simp [go_sem, *] at q1c3_1
          have q1f3 := fun o => fro hb (w.heap.size + 1 + 1 + 1) o
          simp [go_sem, *] at q1f3
          have q1s4 : wr.heap.size < w1.heap.size := (by omega)
          have q1n4_0 : ¬ w1.heap.size = wr.heap.size := (by omega)
          have q1n4_1 : ¬ w1.heap.size + 1 = wr.heap.size := (by omega)
          have q1n4_2 : ¬ w1.heap.size + 2 = wr.heap.size := (by omega)
          have q1c4_0 := cel hb wr.heap.size 0
          simp [go_sem, *] at q1c4_0
          have q1c4_1 := cel hb wr.heap.size 1
          simp [go_sem, *] at q1c4_1
          have q1c4_2 := cel hb wr.heap.size 2
          simp [go_sem, *] at q1c4_2
          have q1c4_3 := cel hb wr.heap.size 3
          simp [go_sem, *] at q1c4_3
          have q1c4_4 := cel hb wr.heap.size 4
          simp [go_sem, *] at q1c4_4
          have q1c4_5 := cel hb wr.heap.size 5
          simp [go_sem, *] at q1c4_5
          have q1c4_6 := cel hb wr.heap.size 6
          simp [go_sem, *] at q1c4_6
          have q1f4 := fun o => fro hb wr.heap.size o
          simp [go_sem, *] at q1f4
          have q1o := belO q1B
          clear hb
          go_wp2_with fail
          refine (HD.out _).mono ?_
          rintro e w2 ⟨rfl, hb⟩
          rw [F2.out, R2.out]
          have B1 := hide q1B
          have q2B : Below w1.heap.size w1 w2 := qB hb
          have q2z := hb.size
          try simp at q2z
          have q2t : w1.heap.size ≤ w2.heap.size := (by omega)
          have q2s0 : w.heap.size < w2.heap.size := (by omega)
          have q2n0_0 : ¬ w2.heap.size = w.heap.size := (by omega)
          have q2n0_1 : ¬ w2.heap.size + 1 = w.heap.size := (by omega)
          have q2n0_2 : ¬ w2.heap.size + 2 = w.heap.size := (by omega)
          have q2c0_0 := cel hb w.heap.size 0
          simp [go_sem, *] at q2c0_0
          have q2c0_1 := cel hb w.heap.size 1
          simp [go_sem, *] at q2c0_1
          have q2f0 := fun o => fro hb w.heap.size o
          simp [go_sem, *] at q2f0
          have q2s1 : w.heap.size + 1 < w2.heap.size := (by omega)
          have q2n1_0 : ¬ w2.heap.size = w.heap.size + 1 := (by omega)
          have q2n1_1 : ¬ w2.heap.size + 1 = w.heap.size + 1 := (by omega)
          have q2n1_2 : ¬ w2.heap.size + 2 = w.heap.size + 1 := (by omega)
          have q2c1_0 := cel hb (w.heap.size + 1) 0
          simp [go_sem, *] at q2c1_0
          have q2c1_1 := cel hb (w.heap.size + 1) 1
          simp [go_sem, *] at q2c1_1
          have q2f1 := fun o => fro hb (w.heap.size + 1) o
          simp [go_sem, *] at q2f1
          have q2s2 : w.heap.size + 1 + 1 < w2.heap.size := (by omega)
          have q2n2_0 : ¬ w2.heap.size = w.heap.size + 1 + 1 := (by omega)
          have q2n2_1 : ¬ w2.heap.size + 1 = w.heap.size + 1 + 1 := (by omega)
          have q2n2_2 : ¬ w2.heap.size + 2 = w.heap.size + 1 + 1 := (by omega)
          have q2c2_0 := cel hb (w.heap.size + 1 + 1) 0
          simp [go_sem, *] at q2c2_0
          have q2c2_1 := cel hb (w.heap.size + 1 + 1) 1
          simp [go_sem, *] at q2c2_1
          have q2f2 := fun o => fro hb (w.heap.size + 1 + 1) o
          simp [go_sem, *] at q2f2
          have q2s3 : w.heap.size + 1 + 1 + 1 < w2.heap.size := (by omega)
          have q2n3_0 : ¬ w2.heap.size = w.heap.size + 1 + 1 + 1 := (by omega)
          have q2n3_1 : ¬ w2.heap.size + 1 = w.heap.size + 1 + 1 + 1 := (by omega)
          have q2n3_2 : ¬ w2.heap.size + 2 = w.heap.size + 1 + 1 + 1 := (by omega)
          have q2c3_0 := cel hb (w.heap.size + 1 + 1 + 1) 0
          simp [go_sem, *] at q2c3_0
          have q2c3_1 := cel hb (w.heap.size + 1 + 1 + 1) 1
          simp [go_sem, *] at q2c3_1
          have q2f3 := fun o => fro hb (w.heap.size + 1 + 1 + 1) o
          simp [go_sem, *] at q2f3
          have q2s4 : w1.heap.size < w2.heap.size := (by omega)
          have q2n4_0 : ¬ w2.heap.size = w1.heap.size := (by omega)
          have q2n4_1 : ¬ w2.heap.size + 1 = w1.heap.size := (by omega)
          have q2n4_2 : ¬ w2.heap.size + 2 = w1.heap.size := (by omega)
          have q2c4_0 := cel hb w1.heap.size 0
          simp [go_sem, *] at q2c4_0
          have q2c4_1 := cel hb w1.heap.size 1
          simp [go_sem, *] at q2c4_1
          have q2f4 := fun o => fro hb w1.heap.size o
          simp [go_sem, *] at q2f4
          have q2o := belO q2B
          clear hb q1o q1f4 q1c4_6 q1c4_5 q1c4_4 q1c4_3 q1c4_2 q1c4_1 q1c4_0 q1s4 q1f3 q1c3_1 q1c3_0 q1s3 q1f2 q1c2_1 q1c2_0 q1s2 q1f1 q1c1_1 q1c1_0 q1s1 q1f0 q1c0_1 q1c0_0 q1s0 q1z q1B
          go_wp2_with fail
          refine ord_start (SB (w2.heap.size + 1) [w.heap.size + 1 + 1, w.heap.size + 1 + 1 + 1] _) 4 #[false, false, false, false] (by kernel_rfl) (by kernel_rfl) (by kernel_rfl) SB.refl.drew (fun hHeld => ?_)
          refine oT (i := 0) #[true, false, false, false] ?_ rfl hHeld (fun wx hSx => ?_) ?_
          rotate_left
          · (unfold SB at hSx; go_simp; (try with_reducible rfl))
          (try simp only [Act.put, putS])
          refine oT (i := 1) #[true, true, false, false] ?_ rfl hHeld (fun wx hSx => ?_) ?_
          rotate_left
          · (unfold SB at hSx; go_simp; (try with_reducible rfl))
          (try simp only [Act.put, putS])
          refine wpAnyH_ready (rs := [2]) (by kernel_rfl) (by simp) ?_
          refine ord_run (i := 2) #[true, true, true, false] rfl (by kernel_rfl) (by rfl) (fun K hK => ?_) AllReadyH.nil
          go_simp
          refine hK.out _ _ ?_ (fun hHeld => ?_)
          · exact sbT
          clear hK K
          (try simp only [Act.put, putS])
          refine wpAnyH_ready (rs := [3]) (by kernel_rfl) (by simp) ?_
          refine ord_run (i := 3) #[true, true, true, true] rfl (by kernel_rfl) (by rfl) (fun K hK => ?_) AllReadyH.nil
          go_simp
          refine hK.out _ _ ?_ (fun hHeld => ?_)
          · exact sbT
          clear hK K
          (try simp only [Act.put, putS])
          refine wpAnyH_done (by kernel_rfl) ?_ _
          go_wp2_with fail
          go_roundw
          case rel => exact ⟨k + 1, s, t, HK.out, by go_num, by rw [HN.out, HS.out.1, HS.out.2], HB.out.trans (Below.trans ((B1.out.trans (q2B.mono (by omega))).mono (by omega)) belT), by simp; omega, ⟨by simp [go_sem, *], by simp [go_sem, *], by simp [go_sem, *]⟩, ⟨by simp [go_sem, *], by simp [go_sem, *], by simp [go_sem, *]⟩, ⟨by simp [go_sem, *], by simp [go_sem, *], by simp [go_sem, *]⟩, ⟨by simp [go_sem, *], by simp [go_sem, *], by simp [go_sem, *]⟩⟩
          case measure => have := HK.out; simp [intOf]; omega
        · have G2 : (fitE t != 0) = true := by simpa using h2
          have HN := hide (tot_fail HT.out HK.out (by rw [← HS.out.1, ← HS.out.2]; exact fun hh => h2 hh.2))
          have HV := hide (show TotRet (totS L n) = TotRet none from by rw [HN.out])
          clear h2
          go_wp2_with fail
          refine (HA.out _).mono ?_
          rintro e w1 ⟨rfl, hb⟩
          rw [F1.out, R1.out]
          have q1B : Below wr.heap.size wr w1 := qB hb
          have q1z := hb.size
          try simp at q1z
          have q1t : wr.heap.size ≤ w1.heap.size := (by omega)
          have q1s0 : w.heap.size < w1.heap.size := (by omega)
          have q1n0_0 : ¬ w1.heap.size = w.heap.size := (by omega)
          have q1n0_1 : ¬ w1.heap.size + 1 = w.heap.size := (by omega)
          have q1n0_2 : ¬ w1.heap.size + 2 = w.heap.size := (by omega)
          have q1c0_0 := cel hb w.heap.size 0
          simp [go_sem, *] at q1c0_0
          have q1c0_1 := cel hb w.heap.size 1
          simp [go_sem, *] at q1c0_1
          have q1f0 := fun o => fro hb w.heap.size o
          simp [go_sem, *] at q1f0
          have q1s1 : w.heap.size + 1 < w1.heap.size := (by omega)
          have q1n1_0 : ¬ w1.heap.size = w.heap.size + 1 := (by omega)
          have q1n1_1 : ¬ w1.heap.size + 1 = w.heap.size + 1 := (by omega)
          have q1n1_2 : ¬ w1.heap.size + 2 = w.heap.size + 1 := (by omega)
          have q1c1_0 := cel hb (w.heap.size + 1) 0
          simp [go_sem, *] at q1c1_0
          have q1c1_1 := cel hb (w.heap.size + 1) 1
          simp [go_sem, *] at q1c1_1
          have q1f1 := fun o => fro hb (w.heap.size + 1) o
          simp [go_sem, *] at q1f1
          have q1s2 : w.heap.size + 1 + 1 < w1.heap.size := (by omega)
          have q1n2_0 : ¬ w1.heap.size = w.heap.size + 1 + 1 := (by omega)
          have q1n2_1 : ¬ w1.heap.size + 1 = w.heap.size + 1 + 1 := (by omega)
          have q1n2_2 : ¬ w1.heap.size + 2 = w.heap.size + 1 + 1 := (by omega)
          have q1c2_0 := cel hb (w.heap.size + 1 + 1) 0
          simp [go_sem, *] at q1c2_0
          have q1c2_1 := cel hb (w.heap.size + 1 + 1) 1
          simp [go_sem, *] at q1c2_1
          have q1f2 := fun o => fro hb (w.heap.size + 1 + 1) o
          simp [go_sem, *] at q1f2
          have q1s3 : w.heap.size + 1 + 1 + 1 < w1.heap.size := (by omega)
          have q1n3_0 : ¬ w1.heap.size = w.heap.size + 1 + 1 + 1 := (by omega)
          have q1n3_1 : ¬ w1.heap.size + 1 = w.heap.size + 1 + 1 + 1 := (by omega)
          have q1n3_2 : ¬ w1.heap.size + 2 = w.heap.size + 1 + 1 + 1 := (by omega)
          have q1c3_0 := cel hb (w.heap.size + 1 + 1 + 1) 0
          simp [go_sem, *] at q1c3_0
          have q1c3_1 := cel hb (w.heap.size + 1 + 1 + 1) 1
          simp [go_sem, *] at q1c3_1
          have q1f3 := fun o => fro hb (w.heap.size + 1 + 1 + 1) o
          simp [go_sem, *] at q1f3
          have q1s4 : wr.heap.size < w1.heap.size := (by omega)
          have q1n4_0 : ¬ w1.heap.size = wr.heap.size := (by omega)
          have q1n4_1 : ¬ w1.heap.size + 1 = wr.heap.size := (by omega)
          have q1n4_2 : ¬ w1.heap.size + 2 = wr.heap.size := (by omega)
          have q1c4_0 := cel hb wr.heap.size 0
          simp [go_sem, *] at q1c4_0
          have q1c4_1 := cel hb wr.heap.size 1
          simp [go_sem, *] at q1c4_1
          have q1c4_2 := cel hb wr.heap.size 2
          simp [go_sem, *] at q1c4_2
          have q1c4_3 := cel hb wr.heap.size 3
          simp [go_sem, *] at q1c4_3
          have q1c4_4 := cel hb wr.heap.size 4
          simp [go_sem, *] at q1c4_4
          have q1c4_5 := cel hb wr.heap.size 5
          simp [go_sem, *] at q1c4_5
          have q1c4_6 := cel hb wr.heap.size 6
          simp [go_sem, *] at q1c4_6
          have q1f4 := fun o => fro hb wr.heap.size o
          simp [go_sem, *] at q1f4
          have q1o := belO q1B
          clear hb
          go_wp2_with fail
          refine (HD.out _).mono ?_
          rintro e w2 ⟨rfl, hb⟩
          have B1 := hide q1B
          have q2B : Below w1.heap.size w1 w2 := qB hb
          have q2z := hb.size
          try simp at q2z
          have q2t : w1.heap.size ≤ w2.heap.size := (by omega)
          have q2s0 : w.heap.size < w2.heap.size := (by omega)
          have q2n0_0 : ¬ w2.heap.size = w.heap.size := (by omega)
          have q2n0_1 : ¬ w2.heap.size + 1 = w.heap.size := (by omega)
          have q2n0_2 : ¬ w2.heap.size + 2 = w.heap.size := (by omega)
          have q2c0_0 := cel hb w.heap.size 0
          simp [go_sem, *] at q2c0_0
          have q2c0_1 := cel hb w.heap.size 1
          simp [go_sem, *] at q2c0_1
          have q2f0 := fun o => fro hb w.heap.size o
          simp [go_sem, *] at q2f0
          have q2s1 : w.heap.size + 1 < w2.heap.size := (by omega)
          have q2n1_0 : ¬ w2.heap.size = w.heap.size + 1 := (by omega)
          have q2n1_1 : ¬ w2.heap.size + 1 = w.heap.size + 1 := (by omega)
          have q2n1_2 : ¬ w2.heap.size + 2 = w.heap.size + 1 := (by omega)
          have q2c1_0 := cel hb (w.heap.size + 1) 0
          simp [go_sem, *] at q2c1_0
          have q2c1_1 := cel hb (w.heap.size + 1) 1
          simp [go_sem, *] at q2c1_1
          have q2f1 := fun o => fro hb (w.heap.size + 1) o
          simp [go_sem, *] at q2f1
          have q2s2 : w.heap.size + 1 + 1 < w2.heap.size := (by omega)
          have q2n2_0 : ¬ w2.heap.size = w.heap.size + 1 + 1 := (by omega)
          have q2n2_1 : ¬ w2.heap.size + 1 = w.heap.size + 1 + 1 := (by omega)
          have q2n2_2 : ¬ w2.heap.size + 2 = w.heap.size + 1 + 1 := (by omega)
          have q2c2_0 := cel hb (w.heap.size + 1 + 1) 0
          simp [go_sem, *] at q2c2_0
          have q2c2_1 := cel hb (w.heap.size + 1 + 1) 1
          simp [go_sem, *] at q2c2_1
          have q2f2 := fun o => fro hb (w.heap.size + 1 + 1) o
          simp [go_sem, *] at q2f2
          have q2s3 : w.heap.size + 1 + 1 + 1 < w2.heap.size := (by omega)
          have q2n3_0 : ¬ w2.heap.size = w.heap.size + 1 + 1 + 1 := (by omega)
          have q2n3_1 : ¬ w2.heap.size + 1 = w.heap.size + 1 + 1 + 1 := (by omega)
          have q2n3_2 : ¬ w2.heap.size + 2 = w.heap.size + 1 + 1 + 1 := (by omega)
          have q2c3_0 := cel hb (w.heap.size + 1 + 1 + 1) 0
          simp [go_sem, *] at q2c3_0
          have q2c3_1 := cel hb (w.heap.size + 1 + 1 + 1) 1
          simp [go_sem, *] at q2c3_1
          have q2f3 := fun o => fro hb (w.heap.size + 1 + 1 + 1) o
          simp [go_sem, *] at q2f3
          have q2s4 : w1.heap.size < w2.heap.size := (by omega)
          have q2n4_0 : ¬ w2.heap.size = w1.heap.size := (by omega)
          have q2n4_1 : ¬ w2.heap.size + 1 = w1.heap.size := (by omega)
          have q2n4_2 : ¬ w2.heap.size + 2 = w1.heap.size := (by omega)
          have q2c4_0 := cel hb w1.heap.size 0
          simp [go_sem, *] at q2c4_0
          have q2c4_1 := cel hb w1.heap.size 1
          simp [go_sem, *] at q2c4_1
          have q2f4 := fun o => fro hb w1.heap.size o
          simp [go_sem, *] at q2f4
          have q2o := belO q2B
          clear hb q1o q1f4 q1c4_6 q1c4_5 q1c4_4 q1c4_3 q1c4_2 q1c4_1 q1c4_0 q1s4 q1f3 q1c3_1 q1c3_0 q1s3 q1f2 q1c2_1 q1c2_0 q1s2 q1f1 q1c1_1 q1c1_0 q1s1 q1f0 q1c0_1 q1c0_0 q1s0 q1z q1B
          go_wp2_with fail
          refine bodyPost_ret (by simp [results, Tryz.results23, go_sem, *] <;> rfl) rfl ?_
          rw [HV.out]
          refine ⟨rfl, HB.out.trans ((B1.out.trans (q2B.mono (by omega))).mono (by omega) |>.trans ?_)⟩
          (repeat (first | (with_reducible first | exact Below.refl _ _ | assumption | refine Below.drew ?_) | ((with_reducible first | refine Below.alloc ?_ ?_ _ | refine Below.setCell ?_ ?_ _); rotate_left; (first | omega | (simp <;> omega)))))
      · have G1 : (fitE s != 0) = true := by simpa using h1
        have HN := hide (tot_fail HT.out HK.out (by rw [← HS.out.1, ← HS.out.2]; exact fun hh => h1 hh.1))
        have HV := hide (show TotRet (totS L n) = TotRet none from by rw [HN.out])
        clear h1
        go_wp2_with fail
        refine (HA.out _).mono ?_
        rintro e w1 ⟨rfl, hb⟩
        have q1B : Below wr.heap.size wr w1 := qB hb
        have q1z := hb.size
        try simp at q1z
        have q1t : wr.heap.size ≤ w1.heap.size := (by omega)
        have q1s0 : w.heap.size < w1.heap.size := (by omega)
        have q1n0_0 : ¬ w1.heap.size = w.heap.size := (by omega)
        have q1n0_1 : ¬ w1.heap.size + 1 = w.heap.size := (by omega)
        have q1n0_2 : ¬ w1.heap.size + 2 = w.heap.size := (by omega)
        have q1c0_0 := cel hb w.heap.size 0
        simp [go_sem, *] at q1c0_0
        have q1c0_1 := cel hb w.heap.size 1
        simp [go_sem, *] at q1c0_1
        have q1f0 := fun o => fro hb w.heap.size o
        simp [go_sem, *] at q1f0
        have q1s1 : w.heap.size + 1 < w1.heap.size := (by omega)
        have q1n1_0 : ¬ w1.heap.size = w.heap.size + 1 := (by omega)
        have q1n1_1 : ¬ w1.heap.size + 1 = w.heap.size + 1 := (by omega)
        have q1n1_2 : ¬ w1.heap.size + 2 = w.heap.size + 1 := (by omega)
        have q1c1_0 := cel hb (w.heap.size + 1) 0
        simp [go_sem, *] at q1c1_0
        have q1c1_1 := cel hb (w.heap.size + 1) 1
        simp [go_sem, *] at q1c1_1
        have q1f1 := fun o => fro hb (w.heap.size + 1) o
        simp [go_sem, *] at q1f1
        have q1s2 : w.heap.size + 1 + 1 < w1.heap.size := (by omega)
        have q1n2_0 : ¬ w1.heap.size = w.heap.size + 1 + 1 := (by omega)
        have q1n2_1 : ¬ w1.heap.size + 1 = w.heap.size + 1 + 1 := (by omega)
        have q1n2_2 : ¬ w1.heap.size + 2 = w.heap.size + 1 + 1 := (by omega)
        have q1c2_0 := cel hb (w.heap.size + 1 + 1) 0
        simp [go_sem, *] at q1c2_0
        have q1c2_1 := cel hb (w.heap.size + 1 + 1) 1
        simp [go_sem, *] at q1c2_1
        have q1f2 := fun o => fro hb (w.heap.size + 1 + 1) o
        simp [go_sem, *] at q1f2
        have q1s3 : w.heap.size + 1 + 1 + 1 < w1.heap.size := (by omega)
        have q1n3_0 : ¬ w1.heap.size = w.heap.size + 1 + 1 + 1 := (by omega)
        have q1n3_1 : ¬ w1.heap.size + 1 = w.heap.size + 1 + 1 + 1 := (by omega)
        have q1n3_2 : ¬ w1.heap.size + 2 = w.heap.size + 1 + 1 + 1 := (by omega)
        have q1c3_0 := cel hb (w.heap.size + 1 + 1 + 1) 0
        simp [go_sem, *] at q1c3_0
        have q1c3_1 := cel hb (w.heap.size + 1 + 1 + 1) 1
        simp [go_sem, *] at q1c3_1
        have q1f3 := fun o => fro hb (w.heap.size + 1 + 1 + 1) o
        simp [go_sem, *] at q1f3
        have q1s4 : wr.heap.size < w1.heap.size := (by omega)
        have q1n4_0 : ¬ w1.heap.size = wr.heap.size := (by omega)
        have q1n4_1 : ¬ w1.heap.size + 1 = wr.heap.size := (by omega)
        have q1n4_2 : ¬ w1.heap.size + 2 = wr.heap.size := (by omega)
        have q1c4_0 := cel hb wr.heap.size 0
        simp [go_sem, *] at q1c4_0
        have q1c4_1 := cel hb wr.heap.size 1
        simp [go_sem, *] at q1c4_1
        have q1c4_2 := cel hb wr.heap.size 2
        simp [go_sem, *] at q1c4_2
        have q1c4_3 := cel hb wr.heap.size 3
        simp [go_sem, *] at q1c4_3
        have q1c4_4 := cel hb wr.heap.size 4
        simp [go_sem, *] at q1c4_4
        have q1c4_5 := cel hb wr.heap.size 5
        simp [go_sem, *] at q1c4_5
        have q1c4_6 := cel hb wr.heap.size 6
        simp [go_sem, *] at q1c4_6
        have q1f4 := fun o => fro hb wr.heap.size o
        simp [go_sem, *] at q1f4
        have q1o := belO q1B
        clear hb
        go_wp2_with fail
        refine (HD.out _).mono ?_
        rintro e w2 ⟨rfl, hb⟩
        have B1 := hide q1B
        have q2B : Below w1.heap.size w1 w2 := qB hb
        have q2z := hb.size
        try simp at q2z
        have q2t : w1.heap.size ≤ w2.heap.size := (by omega)
        have q2s0 : w.heap.size < w2.heap.size := (by omega)
        have q2n0_0 : ¬ w2.heap.size = w.heap.size := (by omega)
        have q2n0_1 : ¬ w2.heap.size + 1 = w.heap.size := (by omega)
        have q2n0_2 : ¬ w2.heap.size + 2 = w.heap.size := (by omega)
        have q2c0_0 := cel hb w.heap.size 0
        simp [go_sem, *] at q2c0_0
        have q2c0_1 := cel hb w.heap.size 1
        simp [go_sem, *] at q2c0_1
        have q2f0 := fun o => fro hb w.heap.size o
        simp [go_sem, *] at q2f0
        have q2s1 : w.heap.size + 1 < w2.heap.size := (by omega)
        have q2n1_0 : ¬ w2.heap.size = w.heap.size + 1 := (by omega)
        have q2n1_1 : ¬ w2.heap.size + 1 = w.heap.size + 1 := (by omega)
        have q2n1_2 : ¬ w2.heap.size + 2 = w.heap.size + 1 := (by omega)
        have q2c1_0 := cel hb (w.heap.size + 1) 0
        simp [go_sem, *] at q2c1_0
        have q2c1_1 := cel hb (w.heap.size + 1) 1
        simp [go_sem, *] at q2c1_1
        have q2f1 := fun o => fro hb (w.heap.size + 1) o
        simp [go_sem, *] at q2f1
        have q2s2 : w.heap.size + 1 + 1 < w2.heap.size := (by omega)
        have q2n2_0 : ¬ w2.heap.size = w.heap.size + 1 + 1 := (by omega)
        have q2n2_1 : ¬ w2.heap.size + 1 = w.heap.size + 1 + 1 := (by omega)
        have q2n2_2 : ¬ w2.heap.size + 2 = w.heap.size + 1 + 1 := (by omega)
        have q2c2_0 := cel hb (w.heap.size + 1 + 1) 0
        simp [go_sem, *] at q2c2_0
        have q2c2_1 := cel hb (w.heap.size + 1 + 1) 1
        simp [go_sem, *] at q2c2_1
        have q2f2 := fun o => fro hb (w.heap.size + 1 + 1) o
        simp [go_sem, *] at q2f2
        have q2s3 : w.heap.size + 1 + 1 + 1 < w2.heap.size := (by omega)
        have q2n3_0 : ¬ w2.heap.size = w.heap.size + 1 + 1 + 1 := (by omega)
        have q2n3_1 : ¬ w2.heap.size + 1 = w.heap.size + 1 + 1 + 1 := (by omega)
        have q2n3_2 : ¬ w2.heap.size + 2 = w.heap.size + 1 + 1 + 1 := (by omega)
        have q2c3_0 := cel hb (w.heap.size + 1 + 1 + 1) 0
        simp [go_sem, *] at q2c3_0
        have q2c3_1 := cel hb (w.heap.size + 1 + 1 + 1) 1
        simp [go_sem, *] at q2c3_1
        have q2f3 := fun o => fro hb (w.heap.size + 1 + 1 + 1) o
        simp [go_sem, *] at q2f3
        have q2s4 : w1.heap.size < w2.heap.size := (by omega)
        have q2n4_0 : ¬ w2.heap.size = w1.heap.size := (by omega)
        have q2n4_1 : ¬ w2.heap.size + 1 = w1.heap.size := (by omega)
        have q2n4_2 : ¬ w2.heap.size + 2 = w1.heap.size := (by omega)
        have q2c4_0 := cel hb w1.heap.size 0
        simp [go_sem, *] at q2c4_0
        have q2c4_1 := cel hb w1.heap.size 1
        simp [go_sem, *] at q2c4_1
        have q2f4 := fun o => fro hb w1.heap.size o
        simp [go_sem, *] at q2f4
        have q2o := belO q2B
        clear hb q1o q1f4 q1c4_6 q1c4_5 q1c4_4 q1c4_3 q1c4_2 q1c4_1 q1c4_0 q1s4 q1f3 q1c3_1 q1c3_0 q1s3 q1f2 q1c2_1 q1c2_0 q1s2 q1f1 q1c1_1 q1c1_0 q1s1 q1f0 q1c0_1 q1c0_0 q1s0 q1z q1B
        go_wp2_with fail
        refine bodyPost_ret (by simp [results, Tryz.results23, go_sem, *] <;> rfl) rfl ?_
        rw [HV.out]
        refine ⟨rfl, HB.out.trans ((B1.out.trans (q2B.mono (by omega))).mono (by omega) |>.trans ?_)⟩
        (repeat (first | (with_reducible first | exact Below.refl _ _ | assumption | refine Below.drew ?_) | ((with_reducible first | refine Below.alloc ?_ ?_ _ | refine Below.setCell ?_ ?_ _); rotate_left; (first | omega | (simp <;> omega)))))
    · obtain rfl : k = n := by omega
      clear hlt hk
      have y1 : w.heap.size + 2 < wr.heap.size := by omega
      have y2 : w.heap.size + 1 + 1 + 1 < wr.heap.size := by omega
      have y3 : ¬ w.heap.size + 1 = w.heap.size := by omega
      have y4 : ¬ w.heap.size + 1 + 1 = w.heap.size := by omega
      have y5 : ¬ w.heap.size + 1 + 1 = w.heap.size + 1 := by omega
      have y6 : ¬ w.heap.size + 1 + 1 + 1 = w.heap.size := by omega
      have y7 : ¬ w.heap.size + 1 + 1 + 1 = w.heap.size + 1 := by omega
      have y8 : ¬ w.heap.size + 2 = w.heap.size := by omega
      have y9 : ¬ w.heap.size + 3 = w.heap.size := by omega
      clear hB HW
      have HV := hide (show TotRet (totS L k) = TotRet (some (c, d)) from by rw [HT.out])
      go_wp2_with fail
      refine ord_start (SB (wr.heap.size) [w.heap.size, w.heap.size + 1] _) 5 #[false, false, false, false, false] (by kernel_rfl) (by kernel_rfl) (by kernel_rfl) SB.refl.drew (fun hHeld => ?_)
      refine oT (i := 0) #[true, false, false, false, false] ?_ rfl hHeld (fun wx hSx => ?_) ?_
      rotate_left
      · (unfold SB at hSx; go_simp; (try with_reducible rfl))
      (try simp only [Act.put, putS])
      refine oT (i := 1) #[true, true, false, false, false] ?_ rfl hHeld (fun wx hSx => ?_) ?_
      rotate_left
      · (unfold SB at hSx; go_simp; (try with_reducible rfl))
      (try simp only [Act.put, putS])
      refine wpAnyH_ready (rs := [2]) (by kernel_rfl) (by simp) ?_
      refine ord_run (i := 2) #[true, true, true, false, false] rfl (by kernel_rfl) (by rfl) (fun K hK => ?_) AllReadyH.nil
      go_simp
      refine hK.out _ _ ?_ (fun hHeld => ?_)
      · exact sbT
      clear hK K
      (try simp only [Act.put, putS])
      refine wpAnyH_ready (rs := [3]) (by kernel_rfl) (by simp) ?_
      refine ord_run (i := 3) #[true, true, true, true, false] rfl (by kernel_rfl) (by rfl) (fun K hK => ?_) AllReadyH.nil
      go_simp
      refine hK.out _ _ ?_ (fun hHeld => ?_)
      · exact sbT
      clear hK K
      (try simp only [Act.put, putS])
      refine oT (i := 4) #[true, true, true, true, true] ?_ rfl hHeld (fun wx hSx => ?_) ?_
      rotate_left
      · (unfold SB at hSx; go_simp; (try with_reducible rfl))
      (try simp only [Act.put, putS])
      refine wpAnyH_done (by kernel_rfl) ?_ _
      go_wp2_with fail
      refine bodyPost_ret (by simp [results, Tryz.results23, go_sem, *] <;> rfl) rfl ?_
      rw [HV.out]
      refine ⟨rfl, HB.out.trans ?_⟩
      (repeat (first | (with_reducible first | exact Below.refl _ _ | assumption | refine Below.drew ?_) | ((with_reducible first | refine Below.alloc ?_ ?_ _ | refine Below.setCell ?_ ?_ _); rotate_left; (first | omega | (simp <;> omega)))))
end Go.Proofs.YtdjlaiilngechaaGreatDoor
