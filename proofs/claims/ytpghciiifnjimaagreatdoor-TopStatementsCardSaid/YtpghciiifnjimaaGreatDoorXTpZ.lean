/- Texts laid together: TpZ AcT. -/
import Derived.Test.YtpghciiifnjimaaGreatDoorXTpX
import Derived.Test.YtpghciiifnjimaaGreatDoorXTpL
import Derived.Test.YtpghciiifnjimaaGreatDoorXNum
import Derived.Test.YtpghciiifnjimaaGreatDoorXStA
import Derived.Deep.QuietTactic
import Derived.BigQuiet
import Derived.Test.YtpghciiifnjimaaGreatDoorXK0
namespace Go.Proofs.YtpghciiifnjimaaGreatDoor
set_option maxRecDepth 4000
set_option linter.unusedSimpArgs false
set_option linter.unusedVariables false
open Go.RowKit
theorem RowT.take {S : Nat → Prop} {w : World} {e : Nat} {A : Option Addr} {n : Nat} {c : Nat → Nat → Tr} {C : Nat → Nat → Value} (h : RowT S w e A n c C) {k : Nat} (hk : k ≤ n) : RowT S w e A k c C :=
  ⟨fun h0 => by obtain ⟨b, o, e, hb, hc⟩ := h.row (by omega); exact ⟨b, o, e, hb, fun i j hi hj => hc i j (by omega) hj⟩, fun i j hi hj => h.rd i j (by omega) hj⟩
theorem RowK.take {e n : Nat} {c : Nat → Nat → Tr} (h : RowK e n c) {k : Nat} (hk : k ≤ n) : RowK e k c :=
  ⟨Nat.le_trans (Nat.mul_le_mul_right _ hk) h.room, fun i j hi hj => h.wt i j (by omega) hj⟩
/-- The entry that next returns, in a tree's terms. -/
def ckN (ck : Nat → Tr) (n : Nat) (z : Int) : Nat → Tr := fun j => if j = 0 then .lf (.int .i64 ((n : Int) + 1)) else if j = 9 then .lf (.int .u64 z) else ck j
theorem knN {ck : Nat → Tr} (kn : KnOK 11 ck) {n : Nat} (hn : n ≤ 2000000000000) {z : Int} (h0 : 0 ≤ z) (h1 : z < 18446744073709551616) : KnOK 11 (ckN ck n z) := fun j hj => by
  by_cases h : j = 0
  · subst h
    exact ⟨_, rfl, by omega, by omega⟩
  · by_cases h9 : j = 9
    · subst h9
      exact ⟨_, rfl, h0, h1⟩
    · have e : ckN ck n z j = ck j := by unfold ckN; rw [if_neg h, if_neg h9]
      rw [e]
      exact kn j hj
theorem nx_el {S : Nat → Prop} {w : World} {ck : Nat → Tr} {x0 x1 x2 x3 x4 x5 x6 x7 x8 x9 : Value} (h : ElT S w 11 ck #[x0, x1, x2, x3, x4, x5, x6, x7, x8, x9]) (n : Nat) (z : Int) :
    ElT S w 11 (ckN ck n z) #[.int .i64 ((n : Int) + 1), x1, x2, x3, x4, x5, x6, x7, x8, .int .u64 z] := by
  have o := h.ones
  refine ⟨rfl, ?_, fun j hj => ?_⟩
  · simp only [Array.all_eq_true] at o ⊢
    intro i hi
    match i, hi with
    | 0, _ => rfl
    | 1, _ => exact o 1 (show 1 < 10 by decide)
    | 2, _ => exact o 2 (show 2 < 10 by decide)
    | 3, _ => exact o 3 (show 3 < 10 by decide)
    | 4, _ => exact o 4 (show 4 < 10 by decide)
    | 5, _ => exact o 5 (show 5 < 10 by decide)
    | 6, _ => exact o 6 (show 6 < 10 by decide)
    | 7, _ => exact o 7 (show 7 < 10 by decide)
    | 8, _ => exact o 8 (show 8 < 10 by decide)
    | 9, _ => rfl
  · match j, hj with
    | 0, _ => rfl
    | 1, hj => exact h.rd 1 hj
    | 2, hj => exact h.rd 2 hj
    | 3, hj => exact h.rd 3 hj
    | 4, hj => exact h.rd 4 hj
    | 5, hj => exact h.rd 5 hj
    | 6, hj => exact h.rd 6 hj
    | 7, hj => exact h.rd 7 hj
    | 8, hj => exact h.rd 8 hj
    | 9, _ => rfl
theorem ent_size {X : Array Value} (h : X.size = 10) : (Tryz.prog.info? 53).map (·.size) = some X.size := by rw [h]; kernel_rfl
/-- What a verified journal says of its entry k. -/
def VeP (c : Nat → Nat → Tr) (k : Nat) : Prop := intOf (lfv (c k 0)) = (k : Int) + 1 ∧ ∀ m, k = m + 1 → intOf (lfv (c m 1)) ≤ intOf (lfv (c k 1))
/-- A number; -1 says that the journal is right. -/
def OkM (p : Prop) (w : World) (e : Ending) (w' : World) : Prop := ∃ z : Int, e = .returned (.int .i64 z) ∧ (z = -1 → p) ∧ Below w.heap.size w w'
section
variable (A : Option Addr) (k cap : Nat) (c : Nat → Nat → Tr) (C : Nat → Nat → Value) (hk : RowK 11 k c) {ck : Nat → Tr} (kn : KnOK 11 ck) (D : Nat → Nat → Value) (i : Nat) (w : World) (hA : RowT (Old w) w 11 A k c C)
theorem wexam20_el (hk : RowK 11 k c) (kn : KnOK 11 ck) (hA : RowT (Old w) w 11 A k c C) (hX : ElT (Old w) w 11 ck (elA 11 D i)) : Calls Tryz.prog 152 #[.slice A k cap, .agg (elA 11 D i)] w (OkE (ExR k c ck) w) :=
  wexam20_any A k cap c C hk kn (D i 0) (D i 1) (D i 2) (D i 3) (D i 4) (D i 5) (D i 6) (D i 7) (D i 8) (D i 9) w hA hX
/-- next's result is an entry with the Id k + 1. -/
def NxE (ck : Nat → Tr) (k : Nat) (w : World) (e : Ending) (w' : World) : Prop := ∃ (X : Array Value) (d : Nat → Tr), e = .returned (.agg X) ∧ KnOK 11 d ∧ lfv (d 0) = .int .i64 ((k : Int) + 1) ∧ ElT (Old w') w' 11 d X ∧ Below w.heap.size w w'
theorem wnext20_el (hk : RowK 11 k c) (hkb : k ≤ 2000000000000) (kn : KnOK 11 ck) (hS : EnS ck) (hA : RowT (Old w) w 11 A k c C) (hX : ElT (Old w) w 11 ck (elA 11 D i)) : Calls Tryz.prog 154 #[.slice A k cap, .agg (elA 11 D i)] w (NxE ck k w) :=
  (wnext20_any A k cap c C hk kn hS (D i 0) (D i 1) (D i 2) (D i 3) (D i 4) (D i 5) (D i 6) (D i 7) (D i 8) (D i 9) w hA hX).mono (by
    rintro r w1 ⟨z, rfl, h0, h1, hb⟩
    have hX' : ElT (Old w) w 11 ck #[D i 0, D i 1, D i 2, D i 3, D i 4, D i 5, D i 6, D i 7, D i 8, D i 9] := hX
    exact ⟨_, ckN ck k z, rfl, knN kn hkb h0 h1, rfl, (nx_el hX' k z).below hb, hb⟩)
end
set_option maxRecDepth 8000 in
set_option maxHeartbeats 8000000 in
theorem wverify20_any (A : Option Addr) (n cap : Nat) (hnc : n ≤ cap) (c : Nat → Nat → Tr) (C : Nat → Nat → Value) (hk : RowK 11 n c) (w : World) (hA : RowT (Old w) w 11 A n c C) :
    Calls Tryz.prog 93 #[.slice A n cap] w (OkM (∀ k, k < n → VeP c k) w) := by
  have hn : n ≤ 2000000000000 := by have := hk.room; simp only [tby] at this; omega
  have HK := hide hk
  have HA := hide hA
  clear hk hA
  go_enter Tryz.func93, Tryz.ntmps93
  go_wp2_with fail
  go_loopw [3] (fun v wr => KP n (VeP c) w v wr) (fun v _ => n - (intOf v).toNat)
  case atStart => exact ⟨0, by omega, rfl, fun i hi => by omega, Below.refl _ _⟩
  case round =>
    obtain ⟨k, hkn, rfl, hp, hb⟩ := hrel
    have H0 := hide hb
    have HP := hide hp
    clear hp
    by_cases hlt : k < n
    · have hm : (k : Int) < n := by omega
      have hk0 : (0 : Int) ≤ k := by omega
      have hkc : k ≤ cap := by omega
      have hkci : (k : Int) ≤ cap := by omega
      have hkb : k ≤ 2000000000000 := by omega
      have HLT := hide hlt
      have HAW := hide (HA.out.below hb)
      have HX := hide (HAW.out.el HK.out hlt)
      have HKE := hide (show KnOK 11 (c k) from fun j hj => HK.out.wt k j hlt hj)
      have HKT := hide (HK.out.take hkn)
      have HAT := hide (HAW.out.take hkn)
      obtain ⟨b, off, rfl, hbl, hc⟩ := HAW.out.cells (by decide) hlt
      have HC := hide (show ∀ j v, (elA 11 C k)[j]? = some v → wr.cell? ⟨b, off + k * 10 + j, none⟩ = some v from hc)
      have HSZ := hide (ent_size (elA_size 11 C k))
      have HI0 := hide (show ∀ (d : Nat → Tr), lfv (d 0) = .int .i64 ((k : Int) + 1) → intOf (lfv (d 0)) = intOf (lfv (c k 0)) → (∀ m, k = m + 1 → intOf (lfv (c m 1)) ≤ intOf (lfv (c k 1))) → VeP c k from fun d h1 h2 h3 => ⟨by rw [h1] at h2; exact h2.symm, h3⟩)
      clear hlt hkn hb hc
      go_wp2_with fail
      refine ord_start (SB (wr.heap.size) [] _) 25 (preB 0 25) (by kernel_rfl) (by kernel_rfl) (by kernel_rfl) SB.refl.drew (fun hHeld => ?_)
      refine oS (i := 0) (preB 1 24) rfl hHeld ?_
      (try simp only [Act.put, putS])
      refine oS (i := 1) (preB 2 23) rfl hHeld ?_
      (try simp only [Act.put, putS])
      refine oS (i := 2) (preB 3 22) rfl hHeld ?_
      (try simp only [Act.put, putS])
      refine oS (i := 3) (preB 4 21) rfl hHeld ?_
      (try simp only [Act.put, putS])
      refine oS (i := 4) (preB 5 20) rfl hHeld ?_
      (try simp only [Act.put, putS])
      refine oS (i := 5) (preB 6 19) rfl hHeld ?_
      (try simp only [Act.put, putS])
      refine oT (i := 6) (preB 7 18) (.agg (elA 11 C k)) rfl hHeld (fun wx hSx => tk_row _ _ rfl b (off + k * 10) rfl (elA 11 C k) _ (rg_mid hSx hbl HC.out) Tryz.underlying53 rfl HSZ.out) ?_
      (try simp only [Act.put, putS])
      refine wpAnyH_ready (rs := [7]) (by kernel_rfl) (by simp) ?_
      refine ord_run (i := 7) (preB 8 17) rfl (by kernel_rfl) (by rfl) (fun K hK => ?_) AllReadyH.nil
      go_simp
      go_wp2_with (go_at_call 152; refine (wexam20_el (some ⟨b, off, none⟩) k cap c C C k _ HKT.out HKE.out (HAT.out.below belT) (HX.out.below belT)).mono ?_; rintro r w1 ⟨E, rfl, hE, hb⟩; have hbS := hb; have HE := hide hE; have P1 := hide (show Below wr.heap.size wr w1 from Below.trans belT (hb.mono (by first | omega | (simp <;> omega)))); have zP1 := P1.out.size; clear hE hb)
      refine hK.out _ _ ?_ (fun hHeld => ?_)
      · exact sbT
      clear hK K
      (try simp only [Act.put, putS])
      refine (Decidable.em (E = 0)).elim (fun hz => ?_) (fun hz => ?_)
      · (have dE : (E != 0) = false := (by simp [hz]); have HS := hide (HE.out hz); have VQ := hide True.intro; clear hz)
        refine oS (i := 8) (preB 9 16) rfl hHeld ?_
        (try simp only [Act.put, putS])
        refine oS (i := 9) (preB 10 15) rfl hHeld ?_
        (try simp only [Act.put, putS])
        refine oS (i := 10) (preB 11 14) rfl hHeld ?_
        (try simp only [Act.put, putS])
        refine oS (i := 11) (preB 12 13) rfl hHeld ?_
        (try simp only [Act.put, putS])
        refine oS (i := 12) (preB 13 12) rfl hHeld ?_
        (try simp only [Act.put, putS])
        refine oS (i := 13) (preB 14 11) rfl hHeld ?_
        (try simp only [Act.put, putS])
        refine oS (i := 14) (preB 15 10) rfl hHeld ?_
        (try simp only [Act.put, putS])
        refine oS (i := 15) (preB 16 9) rfl hHeld ?_
        (try simp only [Act.put, putS])
        refine oT (i := 16) (preB 17 8) (.agg (elA 11 C k)) rfl hHeld (fun wx hSx => tk_row _ _ rfl b (off + k * 10) rfl (elA 11 C k) _ (rg_mid hSx hbl HC.out) Tryz.underlying53 rfl HSZ.out) ?_
        (try simp only [Act.put, putS])
        refine oS (i := 18) #[true, true, true, true, true, true, true, true, true, true, true, true, true, true, true, true, true, false, true, false, false, false, false, false, false] rfl hHeld ?_
        (try simp only [Act.put, putS])
        refine oS (i := 19) #[true, true, true, true, true, true, true, true, true, true, true, true, true, true, true, true, true, false, true, true, false, false, false, false, false] rfl hHeld ?_
        (try simp only [Act.put, putS])
        refine oS (i := 20) #[true, true, true, true, true, true, true, true, true, true, true, true, true, true, true, true, true, false, true, true, true, false, false, false, false] rfl hHeld ?_
        (try simp only [Act.put, putS])
        refine oT (i := 21) #[true, true, true, true, true, true, true, true, true, true, true, true, true, true, true, true, true, false, true, true, true, true, false, false, false] (.agg (elA 11 C k)) rfl hHeld (fun wx hSx => tk_row _ _ rfl b (off + k * 10) rfl (elA 11 C k) _ (rg_mid hSx hbl HC.out) Tryz.underlying53 rfl HSZ.out) ?_
        (try simp only [Act.put, putS])
        refine wpAnyH_ready (rs := [17]) (by kernel_rfl) (by simp) ?_
        refine ord_run (i := 17) (preB 22 3) rfl (by kernel_rfl) (by rfl) (fun K hK => ?_) AllReadyH.nil
        go_simp
        go_wp2_with (go_at_call 154; refine (wnext20_el (some ⟨b, off, none⟩) k cap c C C k _ HKT.out hkb HKE.out HS.out.1 (HAT.out.below (P1.out.trans belT)) (HX.out.below (P1.out.trans belT))).mono ?_; rintro r w2 ⟨X2, d2, rfl, hk2, h20, hX2, hb⟩; have hbS1 := hb; have HX2 := hide hX2; have HK2 := hide hk2; have H20 := hide h20; have P2 := hide (show Below wr.heap.size wr w2 from P1.out.trans ((Below.trans (by (repeat (first | (with_reducible first | exact Below.refl _ _ | assumption | refine Below.drew ?_ | refine below_drewN ?_ _) | ((with_reducible first | refine Below.alloc ?_ ?_ _ | refine Below.setCell ?_ ?_ _); rotate_left; (first | omega | (simp <;> omega))))) : Below w1.heap.size w1 _) (hb.mono (by first | omega | (simp <;> omega)))).mono P1.out.size)); have zP2 := P2.out.size; clear hX2 hk2 h20 hb)
        refine hK.out _ _ ?_ (fun hHeld => ?_)
        · exact sbT
        clear hK K
        (try simp only [Act.put, putS])
        refine wpAnyH_ready (rs := [22]) (by kernel_rfl) (by simp) ?_
        refine ord_run (i := 22) (preB 23 2) rfl (by kernel_rfl) (by rfl) (fun K hK => ?_) AllReadyH.nil
        go_simp
        go_wp2_with (go_at_call 153; refine (wsame19_any HK2.out HKE.out _ X2 (elA 11 C k) (HX2.out.below belT) (HX.out.below (P2.out.trans belT))).mono ?_; rintro r w3 ⟨bb, rfl, hbb, hb⟩; have hbS2 := hb; have HBB := hide hbb; have P3 := hide (show Below wr.heap.size wr w3 from P2.out.trans ((Below.trans (by (repeat (first | (with_reducible first | exact Below.refl _ _ | assumption | refine Below.drew ?_ | refine below_drewN ?_ _) | ((with_reducible first | refine Below.alloc ?_ ?_ _ | refine Below.setCell ?_ ?_ _); rotate_left; (first | omega | (simp <;> omega))))) : Below w2.heap.size w2 _) (hb.mono (by first | omega | (simp <;> omega)))).mono P2.out.size)); have zP3 := P3.out.size; clear hbb hb)
        refine hK.out _ _ ?_ (fun hHeld => ?_)
        · exact sbT
        clear hK K
        (try simp only [Act.put, putS])
        refine oS (i := 23) (preB 24 1) rfl hHeld ?_
        (try simp only [Act.put, putS])
        refine oS (i := 24) (preB 25 0) rfl hHeld ?_
        (try simp only [Act.put, putS])
        refine wpAnyH_done (by kernel_rfl) ?_ _
        have BE := hide (show Below wr.heap.size wr _ from P3.out.trans belT)
        cases bb with
        | false =>
          go_wp2_with fail
          go_ret
          exact ⟨_, rfl, fun h => absurd h (by have := HLT.out; omega), H0.out.trans (BE.out.mono H0.out.size)⟩
        | true =>
          have HI := hide (HI0.out _ H20.out (HBB.out rfl) HS.out.2)
          go_wp2_with fail
          go_roundw
          case rel => exact ⟨k + 1, HLT.out, by go_num, kp_next HP.out HI.out, H0.out.trans (BE.out.mono H0.out.size)⟩
          case measure => have := HLT.out; simp [intOf]; omega
      · (have dE : (E != 0) = true := (by simpa using hz); clear hz)
        refine oS (i := 8) (preB 9 16) rfl hHeld ?_
        (try simp only [Act.put, putS])
        refine oS (i := 9) (preB 10 15) rfl hHeld ?_
        (try simp only [Act.put, putS])
        refine ord_skip (i := 10) (preB 11 14) rfl (by kernel_rfl) (by kernel_rfl) (by kernel_rfl) (by kernel_rfl) (fun _ _ _ h => h) hHeld (by rfl) ?_
        (try simp only [Act.put, putS])
        refine ord_skip (i := 11) (preB 12 13) rfl (by kernel_rfl) (by kernel_rfl) (by kernel_rfl) (by kernel_rfl) (fun _ _ _ h => h) hHeld (by rfl) ?_
        (try simp only [Act.put, putS])
        refine ord_skip (i := 12) (preB 13 12) rfl (by kernel_rfl) (by kernel_rfl) (by kernel_rfl) (by kernel_rfl) (fun _ _ _ h => h) hHeld (by rfl) ?_
        (try simp only [Act.put, putS])
        refine ord_skip (i := 13) (preB 14 11) rfl (by kernel_rfl) (by kernel_rfl) (by kernel_rfl) (by kernel_rfl) (fun _ _ _ h => h) hHeld (by rfl) ?_
        (try simp only [Act.put, putS])
        refine ord_skip (i := 14) (preB 15 10) rfl (by kernel_rfl) (by kernel_rfl) (by kernel_rfl) (by kernel_rfl) (fun _ _ _ h => h) hHeld (by rfl) ?_
        (try simp only [Act.put, putS])
        refine ord_skip (i := 15) (preB 16 9) rfl (by kernel_rfl) (by kernel_rfl) (by kernel_rfl) (by kernel_rfl) (fun _ _ _ h => h) hHeld (by rfl) ?_
        (try simp only [Act.put, putS])
        refine ord_skip (i := 16) (preB 17 8) rfl (by kernel_rfl) (by kernel_rfl) (by kernel_rfl) (by kernel_rfl) (fun _ _ _ h => h) hHeld (by rfl) ?_
        (try simp only [Act.put, putS])
        refine ord_skip (i := 17) (preB 18 7) rfl (by kernel_rfl) (by kernel_rfl) (by kernel_rfl) (by kernel_rfl) (fun _ _ _ h => h) hHeld (by rfl) ?_
        (try simp only [Act.put, putS])
        refine ord_skip (i := 18) (preB 19 6) rfl (by kernel_rfl) (by kernel_rfl) (by kernel_rfl) (by kernel_rfl) (fun _ _ _ h => h) hHeld (by rfl) ?_
        (try simp only [Act.put, putS])
        refine ord_skip (i := 19) (preB 20 5) rfl (by kernel_rfl) (by kernel_rfl) (by kernel_rfl) (by kernel_rfl) (fun _ _ _ h => h) hHeld (by rfl) ?_
        (try simp only [Act.put, putS])
        refine ord_skip (i := 20) (preB 21 4) rfl (by kernel_rfl) (by kernel_rfl) (by kernel_rfl) (by kernel_rfl) (fun _ _ _ h => h) hHeld (by rfl) ?_
        (try simp only [Act.put, putS])
        refine ord_skip (i := 21) (preB 22 3) rfl (by kernel_rfl) (by kernel_rfl) (by kernel_rfl) (by kernel_rfl) (fun _ _ _ h => h) hHeld (by rfl) ?_
        (try simp only [Act.put, putS])
        refine ord_skip (i := 22) (preB 23 2) rfl (by kernel_rfl) (by kernel_rfl) (by kernel_rfl) (by kernel_rfl) (fun _ _ _ h => h) hHeld (by rfl) ?_
        (try simp only [Act.put, putS])
        refine ord_skip (i := 23) (preB 24 1) rfl (by kernel_rfl) (by kernel_rfl) (by kernel_rfl) (by kernel_rfl) (fun _ _ _ h => h) hHeld (by rfl) ?_
        (try simp only [Act.put, putS])
        refine oS (i := 24) (preB 25 0) rfl hHeld ?_
        (try simp only [Act.put, putS])
        refine wpAnyH_done (by kernel_rfl) ?_ _
        have BE := hide (show Below wr.heap.size wr _ from P1.out.trans belT)
        go_wp2_with fail
        go_ret
        exact ⟨_, rfl, fun h => absurd h (by have := HLT.out; omega), H0.out.trans (BE.out.mono H0.out.size)⟩
    · have hge : ¬ (k : Int) < n := by omega
      obtain rfl : k = n := by omega
      clear hlt hkn hb hge
      go_wp2_with fail
      go_ret
      exact ⟨_, rfl, fun _ => HP.out, H0.out⟩
end Go.Proofs.YtpghciiifnjimaaGreatDoor
namespace Go.Proofs.YtpghciiifnjimaaGreatDoor
set_option maxRecDepth 4000
set_option linter.unusedSimpArgs false
set_option linter.unusedVariables false
open Go.RowKit
def RsI (l : List UInt8) (w : World) (v3 v4 : Value) (wr : World) : Prop := ∃ (k : Nat) (n : Int), k ≤ l.length ∧ 0 ≤ n ∧ n ≤ 96 ∧ v3 = .int .i64 n ∧ v4 = .int .i64 k ∧ w = wr
set_option maxHeartbeats 1000000 in
theorem rest_any (l : List UInt8) (h10 : l.length ≤ 1000) (w : World) :
    Calls Tryz.prog 206 #[.string ⟨l.toArray⟩] w fun e w' => (∃ n : Int, 0 ≤ n ∧ n ≤ 96 ∧ e = .returned (.int .i64 n)) ∧ w = w' := by
  have hsz : (⟨l.toArray⟩ : ByteArray).size = l.length := bsize l
  go_enter Tryz.func206, Tryz.ntmps206
  go_wp2_with fail
  go_loopw [3, 4] (fun v3 v4 wr => RsI l w v3 v4 wr) (fun _ v _ => l.length - (intOf v).toNat)
  case atStart => exact ⟨0, 0, by omega, by omega, by omega, rfl, rfl, rfl⟩
  case round =>
    obtain ⟨k, n, hk, n0, n1, rfl, rfl, rfl⟩ := hrel
    by_cases hlt : k < l.length
    · have hm1 : (k : Int) < l.length := by omega
      have hix : k < (⟨l.toArray⟩ : ByteArray).size := by rw [bsize]; exact hlt
      obtain ⟨c, hc⟩ : ∃ c : Int, c = ((⟨l.toArray⟩ : ByteArray)[k].toNat : Nat) := ⟨_, rfl⟩
      have c0 : 0 ≤ ((⟨l.toArray⟩ : ByteArray)[k].toNat : Int) := by omega
      have c1 : ((⟨l.toArray⟩ : ByteArray)[k].toNat : Int) ≤ 255 := by have := (⟨l.toArray⟩ : ByteArray)[k].toNat_lt; omega
      clear hc c
      by_cases h1 : ((⟨l.toArray⟩ : ByteArray)[k].toNat : Int) ≤ 57
      · by_cases h2 : 48 ≤ ((⟨l.toArray⟩ : ByteArray)[k].toNat : Int)
        · go_wp2_with fail
          go_roundw
          case rel => refine ⟨k + 1, _, by omega, ?_, ?_, rfl, by go_num, rfl⟩ <;> omega
          case measure => simp [intOf]; omega
        · have h3 := Int.not_le.1 h2
          clear h2
          go_wp2_with fail
          go_roundw
          case rel => refine ⟨k + 1, _, by omega, ?_, ?_, rfl, by go_num, rfl⟩ <;> omega
          case measure => simp [intOf]; omega
      · have h1' := Int.not_le.1 h1
        clear h1
        by_cases h2 : 65 ≤ ((⟨l.toArray⟩ : ByteArray)[k].toNat : Int)
        · go_wp2_with fail
          go_roundw
          case rel => refine ⟨k + 1, _, by omega, ?_, ?_, rfl, by go_num, rfl⟩ <;> omega
          case measure => simp [intOf]; omega
        · have h3 := Int.not_le.1 h2
          clear h2
          go_wp2_with fail
          go_roundw
          case rel => refine ⟨k + 1, _, by omega, ?_, ?_, rfl, by go_num, rfl⟩ <;> omega
          case measure => simp [intOf]; omega
    · obtain rfl : k = l.length := by omega
      go_wp2_with fail
      go_ret
      exact ⟨⟨n, n0, n1, rfl⟩, rfl⟩
def PlI (l : List UInt8) (w : World) (v3 : Value) (wr : World) : Prop := ∃ k : Nat, k ≤ l.length ∧ v3 = .int .i64 k ∧ w = wr
set_option maxHeartbeats 1000000 in
theorem plain_any (l : List UInt8) (h10 : l.length ≤ 1000) (w : World) :
    Calls Tryz.prog 205 #[.string ⟨l.toArray⟩] w fun e w' => (∃ b : Bool, e = .returned (.bool b)) ∧ w = w' := by
  have hsz : (⟨l.toArray⟩ : ByteArray).size = l.length := bsize l
  go_enter Tryz.func205, Tryz.ntmps205
  go_wp2_with fail
  go_loopw [3] (fun v3 wr => PlI l w v3 wr) (fun v _ => l.length - (intOf v).toNat)
  case atStart => exact ⟨0, by omega, rfl, rfl⟩
  case round =>
    obtain ⟨k, hk, rfl, rfl⟩ := hrel
    by_cases hlt : k < l.length
    · have hm1 : (k : Int) < l.length := by omega
      have hix : k < (⟨l.toArray⟩ : ByteArray).size := by rw [bsize]; exact hlt
      by_cases h1 : ((⟨l.toArray⟩ : ByteArray)[k].toNat : Int) < 48
      · have a1 : ((⟨l.toArray⟩ : ByteArray)[k].toNat : Int) < 65 := by omega
        go_wp2_with fail
        go_ret
        exact ⟨⟨_, rfl⟩, rfl⟩
      · have g1 := Int.not_lt.1 h1
        clear h1
        by_cases h2 : (57 : Int) < ((⟨l.toArray⟩ : ByteArray)[k].toNat : Nat)
        · by_cases h3 : ((⟨l.toArray⟩ : ByteArray)[k].toNat : Int) < 65
          · go_wp2_with fail
            go_ret
            exact ⟨⟨_, rfl⟩, rfl⟩
          · have g3 := Int.not_lt.1 h3
            clear h3
            by_cases h4 : (90 : Int) < ((⟨l.toArray⟩ : ByteArray)[k].toNat : Nat)
            · go_wp2_with fail
              go_ret
              exact ⟨⟨_, rfl⟩, rfl⟩
            · have g4 := Int.not_lt.1 h4
              clear h4
              go_wp2_with fail
              go_roundw
              case rel => exact ⟨k + 1, by omega, by go_num, rfl⟩
              case measure => simp [intOf]; omega
        · have g2 := Int.not_lt.1 h2
          clear h2
          go_wp2_with fail
          go_roundw
          case rel => exact ⟨k + 1, by omega, by go_num, rfl⟩
          case measure => simp [intOf]; omega
    · obtain rfl : k = l.length := by omega
      go_wp2_with fail
      go_ret
      exact ⟨⟨_, rfl⟩, rfl⟩
set_option maxHeartbeats 1000000 in
theorem seal_any (l : List UInt8) (h0 : 1 ≤ l.length) (h10 : l.length ≤ 46) (w : World) :
    Calls Tryz.prog 157 #[.string ⟨l.toArray⟩] w fun e w' => (∃ s E, e = .returned (.tuple #[.string s, .int .i64 E])) ∧ Below w.heap.size w w' := by
  have hsz : (⟨l.toArray⟩ : ByteArray).size = l.length := bsize l
  have hl1 : (1 : Int) ≤ l.length := by omega
  have hl2 : (l.length : Int) ≤ 46 := by omega
  go_enter Tryz.func157, Tryz.ntmps157
  go_wp2_with fail
  refine (plain_any l (by omega) _).mono ?_
  rintro e w1 ⟨⟨b, rfl⟩, rfl⟩
  cases b with
  | false =>
    go_wp2_with fail
    refine bodyPost_ret (by simp [results, Tryz.results157, go_sem, *] <;> rfl) rfl ?_
    exact ⟨⟨_, _, rfl⟩, by (repeat (first | (with_reducible first | exact Below.refl _ _ | assumption | refine Below.drew ?_ | refine below_drewN ?_ _) | ((with_reducible first | refine Below.alloc ?_ ?_ _ | refine Below.setCell ?_ ?_ _); rotate_left; (first | omega | (simp <;> omega)))))⟩
  | true =>
    have HR := hide (bcat l [48, 48])
    go_wp2_with fail
    rw [show (⟨#[48, 48]⟩ : ByteArray) = ⟨[48, 48].toArray⟩ from rfl, HR.out]
    refine (rest_any (l ++ [48, 48]) (by simp; omega) _).mono ?_
    rintro e w2 ⟨⟨n, n0, n1, rfl⟩, rfl⟩
    obtain ⟨m, hm⟩ : ∃ m : Nat, n = 98 - m := ⟨(98 - n).toNat, by omega⟩
    subst hm
    have m1 : 2 ≤ m := by omega
    have m2 : m ≤ 98 := by omega
    go_wp2_with fail
    rw [show (98 : Int) - (98 - (m : Int)) = m from by omega]
    have q1 : m / 10 < 10 := by omega
    have q2 : m % 10 < 10 := Nat.mod_lt _ (by decide)
    go_quiet (fail)
    go_wp2_with fail
    refine bodyPost_ret (by simp [results, Tryz.results157, go_sem, *] <;> rfl) rfl ?_
    exact ⟨⟨_, _, rfl⟩, by (repeat (first | (with_reducible first | exact Below.refl _ _ | assumption | refine Below.drew ?_ | refine below_drewN ?_ _) | ((with_reducible first | refine Below.alloc ?_ ?_ _ | refine Below.setCell ?_ ?_ _); rotate_left; (first | omega | (simp <;> omega)))))⟩
def NbI (n : Nat) (w : World) (v0 v3 v4 : Value) (wr : World) : Prop := ∃ i : Nat, i ≤ 8 ∧ v0 = .int .i64 (n / 10 ^ i : Nat) ∧ v3 = .string ⟨(dgs n i).toArray⟩ ∧ v4 = .int .i64 i ∧ w = wr
set_option maxHeartbeats 2000000 in
theorem number_any (n : Nat) (h1 : 1000 ≤ n) (h : n ≤ 99999999) (w : World) :
    Calls Tryz.prog 99 #[.int .i64 n] w fun e w' => (∃ s, e = .returned (.string s)) ∧ Below w.heap.size w w' := by
  have g1 : (1000 : Int) ≤ n := by omega
  have g2 : (n : Int) ≤ 99999999 := by omega
  go_enter Tryz.func99, Tryz.ntmps99
  go_wp2_with fail
  go_loopw [0, 3, 4] (fun v0 v3 v4 wr => NbI n w v0 v3 v4 wr) (fun _ _ v _ => 8 - (intOf v).toNat)
  case atStart => exact ⟨0, by omega, by simp, rfl, rfl, rfl⟩
  case round =>
    obtain ⟨i, hi, rfl, rfl, rfl, rfl⟩ := hrel
    have hl := dgs_len n i
    by_cases hlt : i < 8
    · have hm1 : (i : Int) < 8 := by omega
      obtain ⟨q, hq⟩ : ∃ q, q = n / 10 ^ i := ⟨_, rfl⟩
      have hqn : q ≤ n := by rw [hq]; exact Nat.div_le_self _ _
      have HQ := hide hq
      rw [← hq]
      clear hq
      have hq10 : q % 10 < 10 := Nat.mod_lt _ (by decide)
      have HD := hide (dig_cons hq10 (dgs n i))
      have hl2 : (dgs n i).length ≤ 20 := by omega
      clear hl
      go_wp2_with fail
      all_goals first
        | (exfalso; omega)
        | (go_roundw
           case rel => exact ⟨i + 1, by omega, by have := HQ.out; rw [Nat.pow_succ, ← Nat.div_div_eq_div_mul, ← this]; go_num, by rw [HD.out]; have := HQ.out; simp only [dgs, dgt]; rw [← this], by go_num, rfl⟩
           case measure => simp [intOf]; omega)
    · obtain rfl : i = 8 := by omega
      have HR := hide (bcat [67, 66] (dgs n 8))
      go_wp2_with fail
      rw [show (⟨#[67, 66]⟩ : ByteArray) = ⟨[67, 66].toArray⟩ from rfl, HR.out]
      refine (seal_any ([67, 66] ++ dgs n 8) (by simp) (by simp; omega) _).mono ?_
      rintro e w1 ⟨⟨s, E, rfl⟩, hb⟩
      go_wp2_with fail
      go_ret
      exact ⟨⟨_, rfl⟩, hb⟩
end Go.Proofs.YtpghciiifnjimaaGreatDoor
