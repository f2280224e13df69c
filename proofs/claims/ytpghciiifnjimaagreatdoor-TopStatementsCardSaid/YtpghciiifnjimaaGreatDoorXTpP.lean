/- Texts laid together: TpP TpQ. -/
import Derived.Test.YtpghciiifnjimaaGreatDoorXTpO
import Derived.Test.YtpghciiifnjimaaGreatDoorXTpD
import Derived.Test.YtpghciiifnjimaaGreatDoorXK0
namespace Go.Proofs.YtpghciiifnjimaaGreatDoor
set_option maxRecDepth 4000
set_option linter.unusedSimpArgs false
set_option linter.unusedVariables false
open Go.RowKit
theorem pr_size {X : Array Value} (h : X.size = 19) : (Tryz.prog.info? 88).map (·.size) = some X.size := by rw [h]; kernel_rfl
theorem wbefore17_any {X Y : Array Value} {s t : ByteArray} {x y : Int} (x0 : X[0]? = some (.string s)) (x3 : X[3]? = some (.int .i64 x)) (y0 : Y[0]? = some (.string t)) (y3 : Y[3]? = some (.int .i64 y)) (w : World) : Calls Tryz.prog 144 #[.agg X, .agg Y] w (SomB w) := by
 go_enter Tryz.func144, Tryz.ntmps144
 go_wp2_with fail
 all_goals (go_ret; exact ⟨⟨_, rfl⟩, by (repeat (first | (with_reducible first | exact Below.refl _ _ | assumption | refine Below.drew ?_) | ((with_reducible first | refine Below.alloc ?_ ?_ _ | refine Below.setCell ?_ ?_ _); rotate_left; (first | omega | (simp <;> omega)))))⟩)
/-- The cells of an element, under its name. -/
theorem RowT.mid {w : World} {e : Nat} {A : Option Addr} {n : Nat} {c : Nat → Nat → Tr} {C : Nat → Nat → Value} {b off : Nat} (h : RowT (Old w) w e A n c C) (hA : A = some ⟨b, off, none⟩) (h0 : 0 < (tbl e).length) {k : Nat} (hk : k < n) : ∀ j v, (elA e C k)[j]? = some v → w.cell? ⟨b, off + k * (tbl e).length + j, none⟩ = some v := by
 obtain ⟨b2, o2, e2, _, hc⟩ := h.cells h0 hk
 rw [hA] at e2
 injection e2 with e2
 injection e2 with e3 e4
 subst e3 e4
 exact hc
set_option maxRecDepth 8000 in
set_option maxHeartbeats 8000000 in
theorem wcheck17_any (A : Option Addr) (n cap : Nat) (c : Nat → Nat → Tr) (C : Nat → Nat → Value) (hk : RowK 8 n c) (w : World) (hA : RowT (Old w) w 8 A n c C) :
  Calls Tryz.prog 88 #[.slice A n cap] w (SomE w) := by
 have HK := hide hk
 have HA := hide hA
 have hn : n ≤ 140737488351232 := by have := hk.room; simp only [tby] at this; omega
 clear hk hA
 by_cases h2 : (64 : Int) < n
 ·go_enter Tryz.func88, Tryz.ntmps88
  go_wp2_with fail
  go_ret
  exact ⟨⟨_, rfl⟩, by (repeat (first | (with_reducible first | exact Below.refl _ _ | assumption | refine Below.drew ?_) | ((with_reducible first | refine Below.alloc ?_ ?_ _ | refine Below.setCell ?_ ?_ _); rotate_left; (first | omega | (simp <;> omega)))))⟩
 go_enter Tryz.func88, Tryz.ntmps88
 go_wp2_with fail
 go_loopw [3] (fun v wr => KL 1 (n + 1) w v wr) (fun v _ => n - (intOf v).toNat)
 case atStart => exact ⟨1, by omega, by omega, rfl, by (repeat (first | (with_reducible first | exact Below.refl _ _ | assumption | refine Below.drew ?_) | ((with_reducible first | refine Below.alloc ?_ ?_ _ | refine Below.setCell ?_ ?_ _); rotate_left; (first | omega | (simp <;> omega)))))⟩
 case round =>
  obtain ⟨k, hk1, hkn, rfl, hb⟩ := hrel
  have H0 := hide hb
  have HL1 := hide hk1
  by_cases hlt : k < n
  ·have hm : (k : Int) < n := by omega
   have hk0 : (0 : Int) ≤ k := by omega
   have HLT := hide hlt
   obtain ⟨b, off, rfl, hbl, hc⟩ := (HA.out.below hb).all (by decide) (by omega)
   have HAW := hide (HA.out.below hb)
   obtain ⟨kk, hkk⟩ : ∃ kk, k = kk + 1 := ⟨k - 1, by omega⟩
   have nw1 : IntKind.i64.wrap ((k : Int) - 1) = (kk : Int) := by rw [i64w]; unfold wrap64; have := HLT.out; omega
   have hkk0 : (0 : Int) ≤ kk := by omega
   have hkk1 : (kk : Int) < n := by have := HLT.out; omega
   have HKN := hide (show kk < n by have := HLT.out; omega)
   obtain ⟨s0, _, e0, _⟩ := rd_str (HA.out.rd k 0 hlt (by decide)) (HK.out.wt k 0 hlt (by decide))
   obtain ⟨z3, _, e3, _⟩ := rd_int (HA.out.rd k 3 hlt (by decide)) (HK.out.wt k 3 hlt (by decide))
   obtain ⟨t0, _, f0, _⟩ := rd_str (HA.out.rd kk 0 HKN.out (by decide)) (HK.out.wt kk 0 HKN.out (by decide))
   obtain ⟨y3, _, f3, _⟩ := rd_int (HA.out.rd kk 3 HKN.out (by decide)) (HK.out.wt kk 3 HKN.out (by decide))
   have HCL := hide (fun (W : World) => wbefore17_any (X := elA 8 C kk) (Y := elA 8 C k) (by rw [elA_at 8 C kk 0 (by decide), f0]) (by rw [elA_at 8 C kk 3 (by decide), f3]) (by rw [elA_at 8 C k 0 (by decide), e0]) (by rw [elA_at 8 C k 3 (by decide), e3]) W)
   have HM1 := hide (HAW.out.mid rfl (by decide) hlt)
   have HM2 := hide (HAW.out.mid rfl (by decide) HKN.out)
   have HS1 := hide (pr_size (elA_size 8 C k))
   have HS2 := hide (pr_size (elA_size 8 C kk))
   clear hlt hkn hb hc hkk hk1 e0 e3 f0 f3
   go_wp2_with fail
   refine ord_start (SB (wr.heap.size) [] _) 11 (preB 0 11) (by kernel_rfl) (by kernel_rfl) (by kernel_rfl) SB.refl.drew (fun hHeld => ?_)
   refine oS (i := 0) (preB 1 10) rfl hHeld ?_
   (try simp only [Act.put, putS])
   refine oS (i := 1) (preB 2 9) rfl hHeld ?_
   (try simp only [Act.put, putS])
   refine oS (i := 2) (preB 3 8) rfl hHeld ?_
   (try simp only [Act.put, putS])
   refine oS (i := 3) (preB 4 7) rfl hHeld ?_
   (try simp only [Act.put, putS])
   refine oT (i := 4) (preB 5 6) (.agg (elA 8 C kk)) rfl hHeld (fun wx hSx => tk_row _ _ rfl b (off + kk * 19) rfl (elA 8 C kk) _ (rg_mid hSx hbl HM2.out) Tryz.underlying88 rfl HS2.out) ?_
   (try simp only [Act.put, putS])
   refine oS (i := 5) (preB 6 5) rfl hHeld ?_
   (try simp only [Act.put, putS])
   refine oS (i := 6) (preB 7 4) rfl hHeld ?_
   (try simp only [Act.put, putS])
   refine oS (i := 7) (preB 8 3) rfl hHeld ?_
   (try simp only [Act.put, putS])
   refine oT (i := 8) (preB 9 2) (.agg (elA 8 C k)) rfl hHeld (fun wx hSx => tk_row _ _ rfl b (off + k * 19) rfl (elA 8 C k) _ (rg_mid hSx hbl HM1.out) Tryz.underlying88 rfl HS1.out) ?_
   (try simp only [Act.put, putS])
   refine wpAnyH_ready (rs := [9]) (by kernel_rfl) (by simp) ?_
   refine ord_run (i := 9) (preB 10 1) rfl (by kernel_rfl) (by rfl) (fun K hK => ?_) AllReadyH.nil
   go_simp
   go_wp2_with (go_at_call 144; refine (HCL.out _).mono ?_; rintro r w1 ⟨⟨b1, rfl⟩, hb⟩; have hbS := hb; have hbC := hb.mono (show wr.heap.size ≤ _ by simp))
   refine hK.out _ _ ?_ (fun hHeld => ?_)
   ·exact sbT
   clear hK K
   (try simp only [Act.put, putS])
   refine oS (i := 10) (preB 11 0) rfl hHeld ?_
   (try simp only [Act.put, putS])
   refine wpAnyH_done (by kernel_rfl) ?_ _
   have B2 := hide (H0.out.trans ((Below.trans (by (repeat (first | (with_reducible first | exact Below.refl _ _ | assumption | refine Below.drew ?_) | ((with_reducible first | refine Below.alloc ?_ ?_ _ | refine Below.setCell ?_ ?_ _); rotate_left; (first | omega | (simp <;> omega))))) : Below wr.heap.size wr _) hbC).mono H0.out.size))
   go_wp2_with fail
   all_goals first
    | (go_ret; exact ⟨⟨_, rfl⟩, B2.out⟩)
    | (go_roundw; (case rel => exact ⟨k + 1, by have := HL1.out; omega, by have := HLT.out; omega, by go_num, B2.out⟩); (case measure => have := HLT.out; simp [intOf]; omega))
  ·have hge : (n : Int) ≤ k := by omega
   obtain ⟨wq, hwq⟩ : ∃ x, x = wr := ⟨_, rfl⟩
   subst hwq
   clear hlt hkn hb
   go_wp2_with fail
   go_loopw [4] (fun v wr => KL 1 (n + 1) wq v wr) (fun v _ => n - (intOf v).toNat)
   case atStart => exact ⟨1, by omega, by omega, rfl, by (repeat (first | (with_reducible first | exact Below.refl _ _ | assumption | refine Below.drew ?_) | ((with_reducible first | refine Below.alloc ?_ ?_ _ | refine Below.setCell ?_ ?_ _); rotate_left; (first | omega | (simp <;> omega)))))⟩
   case round =>
    clear hge HL1 hk1
    obtain ⟨k, hk1, hkn, rfl, hb⟩ := hrel
    have H2 := hide hb
    have HL1 := hide hk1
    have QM := hide (H0.out.trans (hb.mono H0.out.size))
    have zQM := QM.out.size
    by_cases hlt : k < n
    ·have hm : (k : Int) < n := by omega
     have hk0 : (0 : Int) ≤ k := by omega
     have HLT := hide hlt
     obtain ⟨b, off, rfl, hbl, hc⟩ := (HA.out.below QM.out).all (by decide) (by omega)
     obtain ⟨kk, hkk⟩ : ∃ kk, k = kk + 1 := ⟨k - 1, by omega⟩
     have nw1 : IntKind.i64.wrap ((k : Int) - 1) = (kk : Int) := by rw [i64w]; unfold wrap64; have := HLT.out; omega
     have hkk0 : (0 : Int) ≤ kk := by omega
     have hkk1 : (kk : Int) < n := by have := HLT.out; omega
     have HKN := hide (show kk < n by have := HLT.out; omega)
     obtain ⟨s0, _, e0, _⟩ := rd_str (HA.out.rd (k) 0 hlt (by decide)) (HK.out.wt (k) 0 hlt (by decide))
     have c0 : wr.cell? ⟨b, off + k * 19, none⟩ = some (.string s0) := by have hcc := hc (k) 0 hlt (by decide); rw [e0] at hcc; exact hcc
     clear e0
     obtain ⟨s1, _, e1, _⟩ := rd_str (HA.out.rd (k) 1 hlt (by decide)) (HK.out.wt (k) 1 hlt (by decide))
     have c1 : wr.cell? ⟨b, off + k * 19 + 1, none⟩ = some (.string s1) := by have hcc := hc (k) 1 hlt (by decide); rw [e1] at hcc; exact hcc
     clear e1
     obtain ⟨ps0, _, pe0, _⟩ := rd_str (HA.out.rd (kk) 0 HKN.out (by decide)) (HK.out.wt (kk) 0 HKN.out (by decide))
     have pc0 : wr.cell? ⟨b, off + kk * 19, none⟩ = some (.string ps0) := by have hcc := hc (kk) 0 HKN.out (by decide); rw [pe0] at hcc; exact hcc
     clear pe0
     obtain ⟨ps1, _, pe1, _⟩ := rd_str (HA.out.rd (kk) 1 HKN.out (by decide)) (HK.out.wt (kk) 1 HKN.out (by decide))
     have pc1 : wr.cell? ⟨b, off + kk * 19 + 1, none⟩ = some (.string ps1) := by have hcc := hc (kk) 1 HKN.out (by decide); rw [pe1] at hcc; exact hcc
     clear pe1
     clear hlt hkn hb hc hkk hk1
     rcases Bool.eq_false_or_eq_true (s0.toList == ps0.toList) with q | q
     ·go_wp2_with fail
      refine ord_start (SB (wr.heap.size) [] _) 26 (preB 0 26) (by kernel_rfl) (by kernel_rfl) (by kernel_rfl) SB.refl.drew (fun hHeld => ?_)
      refine oS (i := 0) (preB 1 25) rfl hHeld ?_
      (try simp only [Act.put, putS])
      refine oS (i := 1) (preB 2 24) rfl hHeld ?_
      (try simp only [Act.put, putS])
      refine oS (i := 2) (preB 3 23) rfl hHeld ?_
      (try simp only [Act.put, putS])
      refine oS (i := 3) (preB 4 22) rfl hHeld ?_
      (try simp only [Act.put, putS])
      refine oS (i := 4) (preB 5 21) rfl hHeld ?_
      (try simp only [Act.put, putS])
      refine oS (i := 5) (preB 6 20) rfl hHeld ?_
      (try simp only [Act.put, putS])
      refine oS (i := 6) (preB 7 19) rfl hHeld ?_
      (try simp only [Act.put, putS])
      refine oS (i := 7) (preB 8 18) rfl hHeld ?_
      (try simp only [Act.put, putS])
      refine oS (i := 8) (preB 9 17) rfl hHeld ?_
      (try simp only [Act.put, putS])
      refine oS (i := 9) (preB 10 16) rfl hHeld ?_
      (try simp only [Act.put, putS])
      refine oS (i := 10) (preB 11 15) rfl hHeld ?_
      (try simp only [Act.put, putS])
      refine oS (i := 11) (preB 12 14) rfl hHeld ?_
      (try simp only [Act.put, putS])
      refine oS (i := 12) (preB 13 13) rfl hHeld ?_
      (try simp only [Act.put, putS])
      refine oS (i := 13) (preB 14 12) rfl hHeld ?_
      (try simp only [Act.put, putS])
      refine oS (i := 14) (preB 15 11) rfl hHeld ?_
      (try simp only [Act.put, putS])
      refine oS (i := 15) (preB 16 10) rfl hHeld ?_
      (try simp only [Act.put, putS])
      refine oS (i := 16) (preB 17 9) rfl hHeld ?_
      (try simp only [Act.put, putS])
      refine oS (i := 17) (preB 18 8) rfl hHeld ?_
      (try simp only [Act.put, putS])
      refine oS (i := 18) (preB 19 7) rfl hHeld ?_
      (try simp only [Act.put, putS])
      refine oS (i := 19) (preB 20 6) rfl hHeld ?_
      (try simp only [Act.put, putS])
      refine oS (i := 20) (preB 21 5) rfl hHeld ?_
      (try simp only [Act.put, putS])
      refine oS (i := 21) (preB 22 4) rfl hHeld ?_
      (try simp only [Act.put, putS])
      refine oS (i := 22) (preB 23 3) rfl hHeld ?_
      (try simp only [Act.put, putS])
      refine oS (i := 23) (preB 24 2) rfl hHeld ?_
      (try simp only [Act.put, putS])
      refine oS (i := 24) (preB 25 1) rfl hHeld ?_
      (try simp only [Act.put, putS])
      refine oS (i := 25) (preB 26 0) rfl hHeld ?_
      (try simp only [Act.put, putS])
      refine wpAnyH_done (by kernel_rfl) ?_ _
      go_wp2_with fail
      all_goals first
       | (go_ret; exact ⟨⟨_, rfl⟩, QM.out.trans belT⟩)
       | (go_roundw; (case rel => exact ⟨k + 1, by have := HL1.out; omega, by have := HLT.out; omega, by go_num, H2.out.trans belT⟩); (case measure => have := HLT.out; simp [intOf]; omega))
     ·go_wp2_with fail
      refine ord_start (SB (wr.heap.size) [] _) 26 (preB 0 26) (by kernel_rfl) (by kernel_rfl) (by kernel_rfl) SB.refl.drew (fun hHeld => ?_)
      refine oS (i := 0) (preB 1 25) rfl hHeld ?_
      (try simp only [Act.put, putS])
      refine oS (i := 1) (preB 2 24) rfl hHeld ?_
      (try simp only [Act.put, putS])
      refine oS (i := 2) (preB 3 23) rfl hHeld ?_
      (try simp only [Act.put, putS])
      refine oS (i := 3) (preB 4 22) rfl hHeld ?_
      (try simp only [Act.put, putS])
      refine oS (i := 4) (preB 5 21) rfl hHeld ?_
      (try simp only [Act.put, putS])
      refine oS (i := 5) (preB 6 20) rfl hHeld ?_
      (try simp only [Act.put, putS])
      refine oS (i := 6) (preB 7 19) rfl hHeld ?_
      (try simp only [Act.put, putS])
      refine oS (i := 7) (preB 8 18) rfl hHeld ?_
      (try simp only [Act.put, putS])
      refine oS (i := 8) (preB 9 17) rfl hHeld ?_
      (try simp only [Act.put, putS])
      refine oS (i := 9) (preB 10 16) rfl hHeld ?_
      (try simp only [Act.put, putS])
      refine oS (i := 10) (preB 11 15) rfl hHeld ?_
      (try simp only [Act.put, putS])
      refine oS (i := 11) (preB 12 14) rfl hHeld ?_
      (try simp only [Act.put, putS])
      refine oS (i := 12) (preB 13 13) rfl hHeld ?_
      (try simp only [Act.put, putS])
      refine ord_skip (i := 13) (preB 14 12) rfl (by kernel_rfl) (by kernel_rfl) (by kernel_rfl) (by kernel_rfl) (fun _ _ _ h => h) hHeld (by rfl) ?_
      (try simp only [Act.put, putS])
      refine ord_skip (i := 14) (preB 15 11) rfl (by kernel_rfl) (by kernel_rfl) (by kernel_rfl) (by kernel_rfl) (fun _ _ _ h => h) hHeld (by rfl) ?_
      (try simp only [Act.put, putS])
      refine ord_skip (i := 15) (preB 16 10) rfl (by kernel_rfl) (by kernel_rfl) (by kernel_rfl) (by kernel_rfl) (fun _ _ _ h => h) hHeld (by rfl) ?_
      (try simp only [Act.put, putS])
      refine ord_skip (i := 16) (preB 17 9) rfl (by kernel_rfl) (by kernel_rfl) (by kernel_rfl) (by kernel_rfl) (fun _ _ _ h => h) hHeld (by rfl) ?_
      (try simp only [Act.put, putS])
      refine ord_skip (i := 17) (preB 18 8) rfl (by kernel_rfl) (by kernel_rfl) (by kernel_rfl) (by kernel_rfl) (fun _ _ _ h => h) hHeld (by rfl) ?_
      (try simp only [Act.put, putS])
      refine ord_skip (i := 18) (preB 19 7) rfl (by kernel_rfl) (by kernel_rfl) (by kernel_rfl) (by kernel_rfl) (fun _ _ _ h => h) hHeld (by rfl) ?_
      (try simp only [Act.put, putS])
      refine ord_skip (i := 19) (preB 20 6) rfl (by kernel_rfl) (by kernel_rfl) (by kernel_rfl) (by kernel_rfl) (fun _ _ _ h => h) hHeld (by rfl) ?_
      (try simp only [Act.put, putS])
      refine ord_skip (i := 20) (preB 21 5) rfl (by kernel_rfl) (by kernel_rfl) (by kernel_rfl) (by kernel_rfl) (fun _ _ _ h => h) hHeld (by rfl) ?_
      (try simp only [Act.put, putS])
      refine ord_skip (i := 21) (preB 22 4) rfl (by kernel_rfl) (by kernel_rfl) (by kernel_rfl) (by kernel_rfl) (fun _ _ _ h => h) hHeld (by rfl) ?_
      (try simp only [Act.put, putS])
      refine ord_skip (i := 22) (preB 23 3) rfl (by kernel_rfl) (by kernel_rfl) (by kernel_rfl) (by kernel_rfl) (fun _ _ _ h => h) hHeld (by rfl) ?_
      (try simp only [Act.put, putS])
      refine ord_skip (i := 23) (preB 24 2) rfl (by kernel_rfl) (by kernel_rfl) (by kernel_rfl) (by kernel_rfl) (fun _ _ _ h => h) hHeld (by rfl) ?_
      (try simp only [Act.put, putS])
      refine ord_skip (i := 24) (preB 25 1) rfl (by kernel_rfl) (by kernel_rfl) (by kernel_rfl) (by kernel_rfl) (fun _ _ _ h => h) hHeld (by rfl) ?_
      (try simp only [Act.put, putS])
      refine oS (i := 25) (preB 26 0) rfl hHeld ?_
      (try simp only [Act.put, putS])
      refine wpAnyH_done (by kernel_rfl) ?_ _
      go_wp2_with fail
      all_goals first
       | (go_ret; exact ⟨⟨_, rfl⟩, QM.out.trans belT⟩)
       | (go_roundw; (case rel => exact ⟨k + 1, by have := HL1.out; omega, by have := HLT.out; omega, by go_num, H2.out.trans belT⟩); (case measure => have := HLT.out; simp [intOf]; omega))
    ·have hge : (n : Int) ≤ k := by omega
     clear hlt hkn hb
     go_wp2_with fail
     go_ret
     exact ⟨⟨_, rfl⟩, QM.out⟩
end Go.Proofs.YtpghciiifnjimaaGreatDoor
namespace Go.Proofs.YtpghciiifnjimaaGreatDoor
set_option maxRecDepth 4000
set_option linter.unusedSimpArgs false
set_option linter.unusedVariables false
open Go.RowKit
def PdI (n : Nat) (p : Nat → Prop) (W : World) (v3 v4 : Value) (wr : World) : Prop := ∃ (k : Nat) (z : Int), k ≤ n ∧ v4 = .int .i64 k ∧ v3 = .int .i64 z ∧ (z = 0 → ∀ i, i < k → p i) ∧ Below W.heap.size W wr
set_option maxRecDepth 8000 in
set_option maxHeartbeats 8000000 in
theorem wprods_any (hR : RtAll) {ck : Nat → Tr} (kn : KnOK 15 ck) (w : World) (X : Array Value) (hX : ElT (Old w) w 15 ck X) :
  Calls Tryz.prog 43 #[.agg X] w (OkE (∀ i, i < (ck 17).n → ((ck 17).c i 7).n ≤ 6 ∧ ((ck 17).c i 12).n ≤ 6) w) := by
 obtain ⟨n1, c1, q1, hk1, A1, cap1, C1, e1, _, hA1⟩ := rd_row (e := 1) (hX.rd 0 (by decide)) (kn 0 (by decide))
 obtain ⟨n2, c2, q2, hk2, A2, cap2, C2, e2, _, hA2⟩ := rd_row (e := 2) (hX.rd 1 (by decide)) (kn 1 (by decide))
 obtain ⟨n, c, q, hk, A, cap, C, e, _, hA⟩ := rd_row (e := 8) (hX.rd 17 (by decide)) (kn 17 (by decide))
 have hXs : X.size = 22 := hX.size
 have g0 : X[0]? = some (.slice A1 n1 cap1) := at_eq hXs (by decide) e1
 have g1 : X[1]? = some (.slice A2 n2 cap2) := at_eq hXs (by decide) e2
 have g17 : X[17]? = some (.slice A n cap) := at_eq hXs (by decide) e
 have HK1 := hide hk1
 have HA1 := hide hA1
 have HK2 := hide hk2
 have HA2 := hide hA2
 have HK := hide hk
 have HA := hide hA
 have HRT := hide hR
 have hn : n ≤ 140737488351232 := by have := hk.room; simp only [tby] at this; omega
 rw [q]
 have HG := hide (show (Tr.row n (tbl 8).length c).n = n ∧ (Tr.row n (tbl 8).length c).c = c from ⟨rfl, rfl⟩)
 show Calls Tryz.prog 43 #[.agg X] w (OkE (∀ i, i < n → (c i 7).n ≤ 6 ∧ (c i 12).n ≤ 6) w)
 clear e1 e2 e hk1 hk2 hk hA1 hA2 hA hX hXs kn hR q q1 q2 HG
 go_enter Tryz.func43, Tryz.ntmps43
 go_wp2_with fail
 refine (wcheck17_any A n cap c C HK.out _ (HA.out.below belT)).mono ?_
 rintro r w1 ⟨⟨z1, rfl⟩, hb⟩
 have q1B : Below w.heap.size w w1 := qB hb
 have q1z := hb.size
 try simp at q1z
 have q1t : w.heap.size ≤ w1.heap.size := (by omega)
 obtain ⟨q1s0, q1n0_0, q1n0_1, q1n0_2⟩ := kB w1.heap.size w.heap.size
 have q1c0_0 := cel hb w.heap.size 0
 simp [go_sem, *] at q1c0_0
 have q1c0_1 := cel hb w.heap.size 1
 simp [go_sem, *] at q1c0_1
 have q1c0_17 := cel hb w.heap.size 17
 simp [go_sem, *] at q1c0_17
 have q1f0 := fun o => fro hb w.heap.size o
 simp [go_sem, *] at q1f0
 have q1o := belO q1B
 clear hb
 have B1 := hide q1B
 go_wp2_with fail
 go_loopw [3, 4] (fun v3 v4 wr => PdI n (fun i => (c i 7).n ≤ 6 ∧ (c i 12).n ≤ 6) w1 v3 v4 wr) (fun _ v _ => n - (intOf v).toNat)
 case atStart => exact ⟨0, z1, by omega, rfl, rfl, fun _ i hi => by omega, Below.refl _ _⟩
 case round =>
  obtain ⟨k, z, hkn, rfl, rfl, hp, hb⟩ := hrel
  have H0 := hide hb
  have HP := hide hp
  clear hp
  have q2B : Below w1.heap.size w1 wr := qB hb
  have q2z := hb.size
  try simp at q2z
  have q2t : w1.heap.size ≤ wr.heap.size := (by omega)
  obtain ⟨q2s0, q2n0_0, q2n0_1, q2n0_2⟩ := kB wr.heap.size w.heap.size
  have q2c0_0 := cel hb w.heap.size 0
  simp [go_sem, *] at q2c0_0
  have q2c0_1 := cel hb w.heap.size 1
  simp [go_sem, *] at q2c0_1
  have q2c0_17 := cel hb w.heap.size 17
  simp [go_sem, *] at q2c0_17
  have q2f0 := fun o => fro hb w.heap.size o
  simp [go_sem, *] at q2f0
  have q2o := belO q2B
  clear hb q1o q1f0 q1c0_17 q1c0_1 q1c0_0 q1s0 q1z q1B
  have QL := hide (B1.out.trans (H0.out.mono B1.out.size))
  by_cases hlt : k < n
  ·have hm : (k : Int) < n := by omega
   have hk0 : (0 : Int) ≤ k := by omega
   have HLT := hide hlt
   by_cases hz : z = 0
   ·have d0 : (z == 0) = true := by simp [hz]
    have HP0 := hide (HP.out hz)
    clear hz HP
    obtain ⟨b, off, rfl, hbl, hc⟩ := (HA.out.below QL.out).cells (by decide) hlt
    have HC := hide (show ∀ j v, (elA 8 C k)[j]? = some v → wr.cell? ⟨b, off + k * 19 + j, none⟩ = some v from hc)
    have HX := hide ((HA.out.below QL.out).el HK.out hlt)
    have HS := hide (pr_size (elA_size 8 C k))
    have HKE := hide (kn_of HK.out hlt)
    clear hc hlt hkn
    go_wp2_with fail
    refine ord_start (SB (wr.heap.size) [] _) 11 (preB 0 11) (by kernel_rfl) (by kernel_rfl) (by kernel_rfl) SB.refl.drew (fun hHeld => ?_)
    refine oS (i := 0) (preB 1 10) rfl hHeld ?_
    (try simp only [Act.put, putS])
    refine oS (i := 1) (preB 2 9) rfl hHeld ?_
    (try simp only [Act.put, putS])
    refine oS (i := 2) (preB 3 8) rfl hHeld ?_
    (try simp only [Act.put, putS])
    refine oS (i := 3) (preB 4 7) rfl hHeld ?_
    (try simp only [Act.put, putS])
    refine oT (i := 4) (preB 5 6) (.agg (elA 8 C k)) rfl hHeld (fun wx hSx => tk_row _ _ rfl b (off + k * 19) rfl (elA 8 C k) _ (rg_mid hSx hbl HC.out) Tryz.underlying88 rfl HS.out) ?_
    (try simp only [Act.put, putS])
    refine oS (i := 5) (preB 6 5) rfl hHeld ?_
    (try simp only [Act.put, putS])
    refine oS (i := 6) (preB 7 4) rfl hHeld ?_
    (try simp only [Act.put, putS])
    refine oS (i := 7) (preB 8 3) rfl hHeld ?_
    (try simp only [Act.put, putS])
    refine oS (i := 8) (preB 9 2) rfl hHeld ?_
    (try simp only [Act.put, putS])
    refine wpAnyH_ready (rs := [9]) (by kernel_rfl) (by simp) ?_
    refine ord_run (i := 9) (preB 10 1) rfl (by kernel_rfl) (by rfl) (fun K hK => ?_) AllReadyH.nil
    go_simp
    go_wp2_with (go_at_call 89; refine (wcheck15_any HRT.out HKE.out A1 n1 cap1 c1 C1 HK1.out A2 n2 cap2 c2 C2 HK2.out _ _ (HX.out.below belT) (HA1.out.below (QL.out.trans belT)) (HA2.out.below (QL.out.trans belT))).mono ?_; rintro r w9 ⟨z9, rfl, hE9, hb⟩; have HE9 := hide hE9; clear hE9; have hbS := hb; have hbC := hb.mono (show wr.heap.size ≤ _ by simp))
    refine hK.out _ _ ?_ (fun hHeld => ?_)
    ·exact sbT
    clear hK K
    (try simp only [Act.put, putS])
    refine oS (i := 10) (preB 11 0) rfl hHeld ?_
    (try simp only [Act.put, putS])
    refine wpAnyH_done (by kernel_rfl) ?_ _
    have B5 := hide (Below.trans (by (repeat (first | (with_reducible first | exact Below.refl _ _ | assumption | refine Below.drew ?_) | ((with_reducible first | refine Below.alloc ?_ ?_ _ | refine Below.setCell ?_ ?_ _); rotate_left; (first | omega | (simp <;> omega))))) : Below wr.heap.size wr _) hbC)
    go_wp2_with fail
    go_roundw
    case rel => exact ⟨k + 1, z9, HLT.out, by go_num, rfl, fun h0 i hi => by
     rcases Nat.lt_or_ge i k with h1 | h1
     ·exact HP0.out i h1
     ·obtain rfl : i = k := by omega
      exact HE9.out h0, H0.out.trans (B5.out.mono H0.out.size)⟩
    case measure => have := HLT.out; simp [intOf]; omega
   ·have d0 : (z == 0) = false := by simpa using hz
    have HZ := hide hz
    clear hz hlt hkn
    go_wp2_with fail
    go_ret
    exact ⟨_, rfl, fun h => absurd h HZ.out, QL.out⟩
  ·obtain rfl : k = n := by omega
   clear hlt hkn
   go_wp2_with fail
   go_ret
   exact ⟨_, rfl, HP.out, QL.out⟩
end Go.Proofs.YtpghciiifnjimaaGreatDoor
