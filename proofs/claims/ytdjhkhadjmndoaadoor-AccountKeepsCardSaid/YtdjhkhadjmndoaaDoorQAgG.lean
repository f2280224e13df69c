/- Texts laid together: AgG. -/
import Derived.Test.YtdjhkhadjmndoaaDoorQAgE
import Derived.Test.YtdjhkhadjmndoaaDoorQTrM
namespace Go.Proofs.YtdjhkhadjmndoaaDoor
set_option maxRecDepth 4000
set_option linter.unusedSimpArgs false
set_option linter.unusedVariables false
open Go.RowKit
/-- What an account that is opened says of itself. -/
def opB (x : LAcc) : Bool := shB x && (x.cl == 0 && x.ex == 0)
/-- What opening answers. -/
noncomputable def alwE (P : Nat → LPro) (pn : Nat) (a : Nat → LAcc) (an : Nat) (x : LAcc) : Int :=
  if opB x = false then 1 else if geB a x.id an = true then 10 else if ownE P pn x ≠ 0 then ownE P pn x else if 64 ≤ an then 5 else 0
theorem alw_1 {P : Nat → LPro} {pn : Nat} {a : Nat → LAcc} {an : Nat} {x : LAcc} (h : opB x = false) : alwE P pn a an x = 1 := if_pos h
theorem alw_10 {P : Nat → LPro} {pn : Nat} {a : Nat → LAcc} {an : Nat} {x : LAcc} (h : opB x = true) (h2 : geB a x.id an = true) : alwE P pn a an x = 10 := by
  unfold alwE; rw [if_neg (by rw [h]; decide), if_pos h2]
theorem alw_own {P : Nat → LPro} {pn : Nat} {a : Nat → LAcc} {an : Nat} {x : LAcc} (h : opB x = true) (h2 : geB a x.id an = false) (h3 : ownE P pn x ≠ 0) : alwE P pn a an x = ownE P pn x := by
  unfold alwE; rw [if_neg (by rw [h]; decide), if_neg (by rw [h2]; decide), if_pos h3]
theorem alw_len {P : Nat → LPro} {pn : Nat} {a : Nat → LAcc} {an : Nat} {x : LAcc} (h : opB x = true) (h2 : geB a x.id an = false) (h3 : ownE P pn x = 0) : alwE P pn a an x = if 64 ≤ an then 5 else 0 := by
  unfold alwE; rw [if_neg (by rw [h]; decide), if_neg (by rw [h2]; decide), if_neg (fun h => h h3)]
theorem own_4 {P : Nat → LPro} {pn : Nat} {x : LAcc} (h : nameB x.ow = false) : ownE P pn x = 4 := if_pos h
theorem own_11 {P : Nat → LPro} {pn : Nat} {x : LAcc} (h : nameB x.ow = true) (h2 : (bstP P x.pr x.op pn).isSome = false) : ownE P pn x = 11 := by
  unfold ownE; rw [if_neg (by rw [h]; decide), if_pos h2]
theorem own_0 {P : Nat → LPro} {pn : Nat} {x : LAcc} (h : nameB x.ow = true) (h2 : (bstP P x.pr x.op pn).isSome = true) : ownE P pn x = 0 := by
  unfold ownE; rw [if_neg (by rw [h]; decide), if_neg (by rw [h2]; decide)]
set_option maxRecDepth 20000 in
set_option maxHeartbeats 8000000 in
theorem allowed_any (Y : Array Value) (aA : Option Addr) (an ac : Nat) (a : Nat → LAcc) (pA : Option Addr) (pn pc : Nat) (P : Nat → LPro) (x : LAcc)
    (hs : Y.size = 29) (h17 : Y[17]? = some (.slice pA pn pc)) (h18 : Y[18]? = some (.slice aA an ac)) (y0 : Y[22]? = some (.int .i64 x.id)) (y1 : Y[23]? = some (.int .i64 x.op)) (y2 : Y[24]? = some (.int .i64 x.cl)) (y3 : Y[25]? = some (.int .i64 x.ex))
    (y4 : Y[26]? = some (.string x.ow)) (y5 : Y[27]? = some (.string x.pr)) (y6 : Y[28]? = some (.string x.nu)) (hnm : x.ow.size ≤ maxLen) (hn : an ≤ 1000000) (hpn : pn ≤ 1000000) (hP : ∀ k, k < pn → PrC (P k).C (P k)) (w : World) (ht : Tab w) (hr : RowAcc w aA an a) (hp : RowPro w pA pn P) :
    Calls Tryd.prog 43 #[.agg Y] w fun e w' => e = .returned (.int .i64 (alwE P pn a an x)) ∧ Below w.heap.size w w' := by
  obtain ⟨i0, Z, hi0, hi1, hi2⟩ := pz_zero
  have HI := hide (And.intro hi0 hi1)
  have HZ1 := hide hi2
  obtain ⟨i, o, c, ex, ow, pr, nu⟩ := x
  have HT := hide ht
  have HR := hide hr
  have HP := hide hp
  have HPC := hide hP
  have HPN := hide hpn
  have HAN := hide hn
  obtain ⟨t, ht2⟩ : ∃ t : ByteArray, t = ⟨(numI i).toArray⟩ := ⟨_, rfl⟩
  obtain ⟨nb, hnb⟩ : ∃ nb, nb = (nu.toList == t.toList) := ⟨_, rfl⟩
  obtain ⟨vo, hvo⟩ : ∃ vo, vo = vday o := ⟨_, rfl⟩
  obtain ⟨ob, hob⟩ : ∃ ob, ob = okId i := ⟨_, rfl⟩
  obtain ⟨gb, hgb⟩ : ∃ gb, gb = geB a i an := ⟨_, rfl⟩
  obtain ⟨mb, hmb⟩ : ∃ mb, mb = nameB ow := ⟨_, rfl⟩
  have HNB := hide (show nuB ⟨i, o, c, ex, ow, pr, nu⟩ = nb from by rw [hnb, ht2]; rfl)
  have HVAL := hide (show opB ⟨i, o, c, ex, ow, pr, nu⟩ = (ob && (vo && nb) && (c == 0 && ex == 0)) from by unfold opB; rw [show shB ⟨i, o, c, ex, ow, pr, nu⟩ = (ob && (vo && nb)) from by unfold shB; rw [HNB.out, ← hob, ← hvo]])
  have HN := hide (fun (W : World) (hW : Tab W) => by have h := number_any i W hW; rw [← ht2] at h; exact h)
  have HO := hide (fun (W : World) => by have h := valid_any o W; rw [← hvo] at h; exact h)
  have HNM := hide (fun (W : World) => by have h := named_any ow hnm W; rw [← hmb] at h; exact h)
  have HCT := hide (fun (W : World) (bi : Nat) (h1 : RowAcc W aA an a) (h2 : bi < W.heap.size) (h3 : W.cell? ⟨bi, 0, none⟩ = some (.int .i64 i)) => by have h := ctf_any aA an ac a i bi HAN.out W h1 h2 h3; rw [← hgb] at h; exact h)
  have HCA := hide (fun (W : World) (h1 : RowPro W pA pn P) => cat_any pA pn pc P pr o HPN.out HPC.out W h1)
  have HGB := hide hgb
  have HMB := hide hmb
  clear ht ht2 hvo hgb hmb hr hp hP hpn hi0 hi1 hi2 hnm
  have Hs := hide hs
  clear hs hn
  go_enter Tryd.func43, Tryd.ntmps43
  go_upto_region 2 with fail
  by_cases g1 : 1000 ≤ i
  · have d1 : decide (i < 1000) = false := decide_eq_false (by omega)
    by_cases g2 : i ≤ 99999999
    · have d2 : decide (99999999 < i) = false := decide_eq_false (by omega)
      have HOB := hide (show ob = true from by rw [hob]; exact decide_eq_true ⟨g1, g2⟩)
      clear hob g1 g2
      cases vo with
      | false =>
        refine ord_start (SB (w.heap.size + 2) [] _) 32 (preB 0 32) (by kernel_rfl) (by kernel_rfl) (by kernel_rfl) SB.refl.drew (fun hHeld => ?_)
        refine ord_take (i := 0) (preB 1 31) ?_ rfl (by kernel_rfl) (by kernel_rfl) (by kernel_rfl) (by kernel_rfl) (fun _ _ _ h => h) hHeld (by rfl) (fun wx hSx => ?_) ?_
        rotate_left
        · (unfold SB at hSx; go_simp; (try with_reducible rfl))
        (try simp only [Act.put, putA, putB, putC])
        refine ord_take (i := 1) (preB 2 30) ?_ rfl (by kernel_rfl) (by kernel_rfl) (by kernel_rfl) (by kernel_rfl) (fun _ _ _ h => h) hHeld (by rfl) (fun wx hSx => ?_) ?_
        rotate_left
        · (unfold SB at hSx; go_simp; (try with_reducible rfl))
        (try simp only [Act.put, putA, putB, putC])
        refine ord_take (i := 2) (preB 3 29) ?_ rfl (by kernel_rfl) (by kernel_rfl) (by kernel_rfl) (by kernel_rfl) (fun _ _ _ h => h) hHeld (by rfl) (fun wx hSx => ?_) ?_
        rotate_left
        · (unfold SB at hSx; go_simp; (try with_reducible rfl))
        (try simp only [Act.put, putA, putB, putC])
        refine ord_take (i := 3) (preB 4 28) ?_ rfl (by kernel_rfl) (by kernel_rfl) (by kernel_rfl) (by kernel_rfl) (fun _ _ _ h => h) hHeld (by rfl) (fun wx hSx => ?_) ?_
        rotate_left
        · (unfold SB at hSx; go_simp; (try with_reducible rfl))
        (try simp only [Act.put, putA, putB, putC])
        refine ord_take (i := 4) (preB 5 27) ?_ rfl (by kernel_rfl) (by kernel_rfl) (by kernel_rfl) (by kernel_rfl) (fun _ _ _ h => h) hHeld (by rfl) (fun wx hSx => ?_) ?_
        rotate_left
        · (unfold SB at hSx; go_simp; (try with_reducible rfl))
        (try simp only [Act.put, putA, putB, putC])
        refine ord_take (i := 5) (preB 6 26) ?_ rfl (by kernel_rfl) (by kernel_rfl) (by kernel_rfl) (by kernel_rfl) (fun _ _ _ h => h) hHeld (by rfl) (fun wx hSx => ?_) ?_
        rotate_left
        · (unfold SB at hSx; go_simp; (try with_reducible rfl))
        (try simp only [Act.put, putA, putB, putC])
        refine ord_take (i := 6) (preB 7 25) ?_ rfl (by kernel_rfl) (by kernel_rfl) (by kernel_rfl) (by kernel_rfl) (fun _ _ _ h => h) hHeld (by rfl) (fun wx hSx => ?_) ?_
        rotate_left
        · (unfold SB at hSx; go_simp; (try with_reducible rfl))
        (try simp only [Act.put, putA, putB, putC])
        refine ord_take (i := 7) (preB 8 24) ?_ rfl (by kernel_rfl) (by kernel_rfl) (by kernel_rfl) (by kernel_rfl) (fun _ _ _ h => h) hHeld (by rfl) (fun wx hSx => ?_) ?_
        rotate_left
        · (unfold SB at hSx; go_simp; (try with_reducible rfl))
        (try simp only [Act.put, putA, putB, putC])
        refine ord_take (i := 8) (preB 9 23) ?_ rfl (by kernel_rfl) (by kernel_rfl) (by kernel_rfl) (by kernel_rfl) (fun _ _ _ h => h) hHeld (by rfl) (fun wx hSx => ?_) ?_
        rotate_left
        · (unfold SB at hSx; go_simp; (try with_reducible rfl))
        (try simp only [Act.put, putA, putB, putC])
        refine ord_take (i := 9) (preB 10 22) ?_ rfl (by kernel_rfl) (by kernel_rfl) (by kernel_rfl) (by kernel_rfl) (fun _ _ _ h => h) hHeld (by rfl) (fun wx hSx => ?_) ?_
        rotate_left
        · (unfold SB at hSx; go_simp; (try with_reducible rfl))
        (try simp only [Act.put, putA, putB, putC])
        refine ord_take (i := 10) (preB 11 21) ?_ rfl (by kernel_rfl) (by kernel_rfl) (by kernel_rfl) (by kernel_rfl) (fun _ _ _ h => h) hHeld (by rfl) (fun wx hSx => ?_) ?_
        rotate_left
        · (unfold SB at hSx; go_simp; (try with_reducible rfl))
        (try simp only [Act.put, putA, putB, putC])
        refine wpAnyH_ready (rs := [11]) (by kernel_rfl) (by simp) ?_
        refine ord_run (i := 11) (preB 12 20) rfl (by kernel_rfl) (by rfl) (fun K hK => ?_) AllReadyH.nil
        go_simp
        go_wp2_with (go_at_call 47; refine (HO.out _).mono ?_; rintro e w1 ⟨rfl, rfl⟩)
        refine hK.out _ _ ?_ (fun hHeld => ?_)
        · (repeat (first | (with_reducible first | exact SB.refl | exact hHeld | refine SB.drew ?_ | refine SB.drewN ?_ _) | ((with_reducible first | refine SB.alloc ?_ ?_ _ | refine SB.below ?_ hbS ?_ | refine SB.below ?_ hbS1 ?_ | refine SB.below ?_ hbS2 ?_ | refine SB.below ?_ hbS3 ?_ | refine SB.below ?_ hbS4 ?_); rotate_left; (first | omega | (simp <;> omega))) | ((with_reducible refine SB.setCell ?_ ?_ _); rotate_left; (focus (first | (simp; done) | (right; first | omega | (simp <;> omega))))) | (with_reducible refine SB.undrew ?_) | ((with_reducible refine SB.congr ?_ ?_); rotate_left; (focus (simp; done))) | ((with_reducible refine SB.realloc ?_ ?_ ?_); rotate_left; (focus (simp; done)); (focus (simp; done)))))
        clear hK K
        (try simp only [Act.put, putA, putB, putC])
        refine ord_take (i := 12) (preB 13 19) ?_ rfl (by kernel_rfl) (by kernel_rfl) (by kernel_rfl) (by kernel_rfl) (fun _ _ _ h => h) hHeld (by rfl) (fun wx hSx => ?_) ?_
        rotate_left
        · (unfold SB at hSx; go_simp; (try with_reducible rfl))
        (try simp only [Act.put, putA, putB, putC])
        refine ord_take (i := 13) (preB 14 18) ?_ rfl (by kernel_rfl) (by kernel_rfl) (by kernel_rfl) (by kernel_rfl) (fun _ _ _ h => h) hHeld (by rfl) (fun wx hSx => ?_) ?_
        rotate_left
        · (unfold SB at hSx; go_simp; (try with_reducible rfl))
        (try simp only [Act.put, putA, putB, putC])
        refine ord_take (i := 14) (preB 15 17) ?_ rfl (by kernel_rfl) (by kernel_rfl) (by kernel_rfl) (by kernel_rfl) (fun _ _ _ h => h) hHeld (by rfl) (fun wx hSx => ?_) ?_
        rotate_left
        · (unfold SB at hSx; go_simp; (try with_reducible rfl))
        (try simp only [Act.put, putA, putB, putC])
        refine ord_skip (i := 15) (preB 16 16) rfl (by kernel_rfl) (by kernel_rfl) (by kernel_rfl) (by kernel_rfl) (fun _ _ _ h => h) hHeld (by rfl) ?_
        (try simp only [Act.put, putA, putB, putC])
        refine ord_skip (i := 16) (preB 17 15) rfl (by kernel_rfl) (by kernel_rfl) (by kernel_rfl) (by kernel_rfl) (fun _ _ _ h => h) hHeld (by rfl) ?_
        (try simp only [Act.put, putA, putB, putC])
        refine ord_skip (i := 17) (preB 18 14) rfl (by kernel_rfl) (by kernel_rfl) (by kernel_rfl) (by kernel_rfl) (fun _ _ _ h => h) hHeld (by rfl) ?_
        (try simp only [Act.put, putA, putB, putC])
        refine ord_take (i := 18) (preB 19 13) ?_ rfl (by kernel_rfl) (by kernel_rfl) (by kernel_rfl) (by kernel_rfl) (fun _ _ _ h => h) hHeld (by rfl) (fun wx hSx => ?_) ?_
        rotate_left
        · (unfold SB at hSx; go_simp; (try with_reducible rfl))
        (try simp only [Act.put, putA, putB, putC])
        refine ord_take (i := 19) (preB 20 12) ?_ rfl (by kernel_rfl) (by kernel_rfl) (by kernel_rfl) (by kernel_rfl) (fun _ _ _ h => h) hHeld (by rfl) (fun wx hSx => ?_) ?_
        rotate_left
        · (unfold SB at hSx; go_simp; (try with_reducible rfl))
        (try simp only [Act.put, putA, putB, putC])
        refine ord_skip (i := 20) (preB 21 11) rfl (by kernel_rfl) (by kernel_rfl) (by kernel_rfl) (by kernel_rfl) (fun _ _ _ h => h) hHeld (by rfl) ?_
        (try simp only [Act.put, putA, putB, putC])
        refine ord_skip (i := 21) (preB 22 10) rfl (by kernel_rfl) (by kernel_rfl) (by kernel_rfl) (by kernel_rfl) (fun _ _ _ h => h) hHeld (by rfl) ?_
        (try simp only [Act.put, putA, putB, putC])
        refine ord_skip (i := 22) (preB 23 9) rfl (by kernel_rfl) (by kernel_rfl) (by kernel_rfl) (by kernel_rfl) (fun _ _ _ h => h) hHeld (by rfl) ?_
        (try simp only [Act.put, putA, putB, putC])
        refine ord_take (i := 23) (preB 24 8) ?_ rfl (by kernel_rfl) (by kernel_rfl) (by kernel_rfl) (by kernel_rfl) (fun _ _ _ h => h) hHeld (by rfl) (fun wx hSx => ?_) ?_
        rotate_left
        · (unfold SB at hSx; go_simp; (try with_reducible rfl))
        (try simp only [Act.put, putA, putB, putC])
        refine ord_take (i := 24) (preB 25 7) ?_ rfl (by kernel_rfl) (by kernel_rfl) (by kernel_rfl) (by kernel_rfl) (fun _ _ _ h => h) hHeld (by rfl) (fun wx hSx => ?_) ?_
        rotate_left
        · (unfold SB at hSx; go_simp; (try with_reducible rfl))
        (try simp only [Act.put, putA, putB, putC])
        refine ord_skip (i := 25) (preB 26 6) rfl (by kernel_rfl) (by kernel_rfl) (by kernel_rfl) (by kernel_rfl) (fun _ _ _ h => h) hHeld (by rfl) ?_
        (try simp only [Act.put, putA, putB, putC])
        refine ord_skip (i := 26) (preB 27 5) rfl (by kernel_rfl) (by kernel_rfl) (by kernel_rfl) (by kernel_rfl) (fun _ _ _ h => h) hHeld (by rfl) ?_
        (try simp only [Act.put, putA, putB, putC])
        refine ord_skip (i := 27) (preB 28 4) rfl (by kernel_rfl) (by kernel_rfl) (by kernel_rfl) (by kernel_rfl) (fun _ _ _ h => h) hHeld (by rfl) ?_
        (try simp only [Act.put, putA, putB, putC])
        refine ord_skip (i := 28) (preB 29 3) rfl (by kernel_rfl) (by kernel_rfl) (by kernel_rfl) (by kernel_rfl) (fun _ _ _ h => h) hHeld (by rfl) ?_
        (try simp only [Act.put, putA, putB, putC])
        refine ord_skip (i := 29) (preB 30 2) rfl (by kernel_rfl) (by kernel_rfl) (by kernel_rfl) (by kernel_rfl) (fun _ _ _ h => h) hHeld (by rfl) ?_
        (try simp only [Act.put, putA, putB, putC])
        refine ord_skip (i := 30) (preB 31 1) rfl (by kernel_rfl) (by kernel_rfl) (by kernel_rfl) (by kernel_rfl) (fun _ _ _ h => h) hHeld (by rfl) ?_
        (try simp only [Act.put, putA, putB, putC])
        refine ord_take (i := 31) (preB 32 0) ?_ rfl (by kernel_rfl) (by kernel_rfl) (by kernel_rfl) (by kernel_rfl) (fun _ _ _ h => h) hHeld (by rfl) (fun wx hSx => ?_) ?_
        rotate_left
        · (unfold SB at hSx; go_simp; (try with_reducible rfl))
        (try simp only [Act.put, putA, putB, putC])
        refine wpAnyH_done (by kernel_rfl) ?_ _
        go_wp2_with fail
        go_ret
        exact ⟨by rw [alw_1 (by rw [HVAL.out, HOB.out]; (try cases ob) <;> (try cases vo) <;> (try cases nb) <;> simp)]; rfl, by (repeat (first | (with_reducible first | exact Below.refl _ _ | assumption | refine Below.drew ?_) | ((with_reducible first | refine Below.alloc ?_ ?_ _ | refine Below.setCell ?_ ?_ _); rotate_left; (first | omega | (simp <;> omega)))))⟩
      | true =>
        cases g3 : (c == 0) with
        | false =>
          have d3 : (c != 0) = true := by unfold bne; rw [g3]; rfl
          have HC := hide g3
          clear g3
          refine ord_start (SB (w.heap.size + 2) [] _) 32 (preB 0 32) (by kernel_rfl) (by kernel_rfl) (by kernel_rfl) SB.refl.drew (fun hHeld => ?_)
          refine ord_take (i := 0) (preB 1 31) ?_ rfl (by kernel_rfl) (by kernel_rfl) (by kernel_rfl) (by kernel_rfl) (fun _ _ _ h => h) hHeld (by rfl) (fun wx hSx => ?_) ?_
          rotate_left
          · (unfold SB at hSx; go_simp; (try with_reducible rfl))
          (try simp only [Act.put, putA, putB, putC])
          refine ord_take (i := 1) (preB 2 30) ?_ rfl (by kernel_rfl) (by kernel_rfl) (by kernel_rfl) (by kernel_rfl) (fun _ _ _ h => h) hHeld (by rfl) (fun wx hSx => ?_) ?_
          rotate_left
          · (unfold SB at hSx; go_simp; (try with_reducible rfl))
          (try simp only [Act.put, putA, putB, putC])
          refine ord_take (i := 2) (preB 3 29) ?_ rfl (by kernel_rfl) (by kernel_rfl) (by kernel_rfl) (by kernel_rfl) (fun _ _ _ h => h) hHeld (by rfl) (fun wx hSx => ?_) ?_
          rotate_left
          · (unfold SB at hSx; go_simp; (try with_reducible rfl))
          (try simp only [Act.put, putA, putB, putC])
          refine ord_take (i := 3) (preB 4 28) ?_ rfl (by kernel_rfl) (by kernel_rfl) (by kernel_rfl) (by kernel_rfl) (fun _ _ _ h => h) hHeld (by rfl) (fun wx hSx => ?_) ?_
          rotate_left
          · (unfold SB at hSx; go_simp; (try with_reducible rfl))
          (try simp only [Act.put, putA, putB, putC])
          refine ord_take (i := 4) (preB 5 27) ?_ rfl (by kernel_rfl) (by kernel_rfl) (by kernel_rfl) (by kernel_rfl) (fun _ _ _ h => h) hHeld (by rfl) (fun wx hSx => ?_) ?_
          rotate_left
          · (unfold SB at hSx; go_simp; (try with_reducible rfl))
          (try simp only [Act.put, putA, putB, putC])
          refine ord_take (i := 5) (preB 6 26) ?_ rfl (by kernel_rfl) (by kernel_rfl) (by kernel_rfl) (by kernel_rfl) (fun _ _ _ h => h) hHeld (by rfl) (fun wx hSx => ?_) ?_
          rotate_left
          · (unfold SB at hSx; go_simp; (try with_reducible rfl))
          (try simp only [Act.put, putA, putB, putC])
          refine ord_take (i := 6) (preB 7 25) ?_ rfl (by kernel_rfl) (by kernel_rfl) (by kernel_rfl) (by kernel_rfl) (fun _ _ _ h => h) hHeld (by rfl) (fun wx hSx => ?_) ?_
          rotate_left
          · (unfold SB at hSx; go_simp; (try with_reducible rfl))
          (try simp only [Act.put, putA, putB, putC])
          refine ord_take (i := 7) (preB 8 24) ?_ rfl (by kernel_rfl) (by kernel_rfl) (by kernel_rfl) (by kernel_rfl) (fun _ _ _ h => h) hHeld (by rfl) (fun wx hSx => ?_) ?_
          rotate_left
          · (unfold SB at hSx; go_simp; (try with_reducible rfl))
          (try simp only [Act.put, putA, putB, putC])
          refine ord_take (i := 8) (preB 9 23) ?_ rfl (by kernel_rfl) (by kernel_rfl) (by kernel_rfl) (by kernel_rfl) (fun _ _ _ h => h) hHeld (by rfl) (fun wx hSx => ?_) ?_
          rotate_left
          · (unfold SB at hSx; go_simp; (try with_reducible rfl))
          (try simp only [Act.put, putA, putB, putC])
          refine ord_take (i := 9) (preB 10 22) ?_ rfl (by kernel_rfl) (by kernel_rfl) (by kernel_rfl) (by kernel_rfl) (fun _ _ _ h => h) hHeld (by rfl) (fun wx hSx => ?_) ?_
          rotate_left
          · (unfold SB at hSx; go_simp; (try with_reducible rfl))
          (try simp only [Act.put, putA, putB, putC])
          refine ord_take (i := 10) (preB 11 21) ?_ rfl (by kernel_rfl) (by kernel_rfl) (by kernel_rfl) (by kernel_rfl) (fun _ _ _ h => h) hHeld (by rfl) (fun wx hSx => ?_) ?_
          rotate_left
          · (unfold SB at hSx; go_simp; (try with_reducible rfl))
          (try simp only [Act.put, putA, putB, putC])
          refine wpAnyH_ready (rs := [11]) (by kernel_rfl) (by simp) ?_
          refine ord_run (i := 11) (preB 12 20) rfl (by kernel_rfl) (by rfl) (fun K hK => ?_) AllReadyH.nil
          go_simp
          go_wp2_with (go_at_call 47; refine (HO.out _).mono ?_; rintro e w1 ⟨rfl, rfl⟩)
          refine hK.out _ _ ?_ (fun hHeld => ?_)
          · (repeat (first | (with_reducible first | exact SB.refl | exact hHeld | refine SB.drew ?_ | refine SB.drewN ?_ _) | ((with_reducible first | refine SB.alloc ?_ ?_ _ | refine SB.below ?_ hbS ?_ | refine SB.below ?_ hbS1 ?_ | refine SB.below ?_ hbS2 ?_ | refine SB.below ?_ hbS3 ?_ | refine SB.below ?_ hbS4 ?_); rotate_left; (first | omega | (simp <;> omega))) | ((with_reducible refine SB.setCell ?_ ?_ _); rotate_left; (focus (first | (simp; done) | (right; first | omega | (simp <;> omega))))) | (with_reducible refine SB.undrew ?_) | ((with_reducible refine SB.congr ?_ ?_); rotate_left; (focus (simp; done))) | ((with_reducible refine SB.realloc ?_ ?_ ?_); rotate_left; (focus (simp; done)); (focus (simp; done)))))
          clear hK K
          (try simp only [Act.put, putA, putB, putC])
          refine ord_take (i := 12) (preB 13 19) ?_ rfl (by kernel_rfl) (by kernel_rfl) (by kernel_rfl) (by kernel_rfl) (fun _ _ _ h => h) hHeld (by rfl) (fun wx hSx => ?_) ?_
          rotate_left
          · (unfold SB at hSx; go_simp; (try with_reducible rfl))
          (try simp only [Act.put, putA, putB, putC])
          refine ord_take (i := 13) (preB 14 18) ?_ rfl (by kernel_rfl) (by kernel_rfl) (by kernel_rfl) (by kernel_rfl) (fun _ _ _ h => h) hHeld (by rfl) (fun wx hSx => ?_) ?_
          rotate_left
          · (unfold SB at hSx; go_simp; (try with_reducible rfl))
          (try simp only [Act.put, putA, putB, putC])
          refine ord_take (i := 14) (preB 15 17) ?_ rfl (by kernel_rfl) (by kernel_rfl) (by kernel_rfl) (by kernel_rfl) (fun _ _ _ h => h) hHeld (by rfl) (fun wx hSx => ?_) ?_
          rotate_left
          · (unfold SB at hSx; go_simp; (try with_reducible rfl))
          (try simp only [Act.put, putA, putB, putC])
          refine ord_take (i := 15) (preB 16 16) ?_ rfl (by kernel_rfl) (by kernel_rfl) (by kernel_rfl) (by kernel_rfl) (fun _ _ _ h => h) hHeld (by rfl) (fun wx hSx => ?_) ?_
          rotate_left
          · (unfold SB at hSx; go_simp; (try with_reducible rfl))
          (try simp only [Act.put, putA, putB, putC])
          refine ord_take (i := 16) (preB 17 15) ?_ rfl (by kernel_rfl) (by kernel_rfl) (by kernel_rfl) (by kernel_rfl) (fun _ _ _ h => h) hHeld (by rfl) (fun wx hSx => ?_) ?_
          rotate_left
          · (unfold SB at hSx; go_simp; (try with_reducible rfl))
          (try simp only [Act.put, putA, putB, putC])
          refine ord_take (i := 17) (preB 18 14) ?_ rfl (by kernel_rfl) (by kernel_rfl) (by kernel_rfl) (by kernel_rfl) (fun _ _ _ h => h) hHeld (by rfl) (fun wx hSx => ?_) ?_
          rotate_left
          · (unfold SB at hSx; go_simp; (try with_reducible rfl))
          (try simp only [Act.put, putA, putB, putC])
          refine ord_take (i := 18) (preB 19 13) ?_ rfl (by kernel_rfl) (by kernel_rfl) (by kernel_rfl) (by kernel_rfl) (fun _ _ _ h => h) hHeld (by rfl) (fun wx hSx => ?_) ?_
          rotate_left
          · (unfold SB at hSx; go_simp; (try with_reducible rfl))
          (try simp only [Act.put, putA, putB, putC])
          refine ord_take (i := 19) (preB 20 12) ?_ rfl (by kernel_rfl) (by kernel_rfl) (by kernel_rfl) (by kernel_rfl) (fun _ _ _ h => h) hHeld (by rfl) (fun wx hSx => ?_) ?_
          rotate_left
          · (unfold SB at hSx; go_simp; (try with_reducible rfl))
          (try simp only [Act.put, putA, putB, putC])
          refine ord_skip (i := 20) (preB 21 11) rfl (by kernel_rfl) (by kernel_rfl) (by kernel_rfl) (by kernel_rfl) (fun _ _ _ h => h) hHeld (by rfl) ?_
          (try simp only [Act.put, putA, putB, putC])
          refine ord_skip (i := 21) (preB 22 10) rfl (by kernel_rfl) (by kernel_rfl) (by kernel_rfl) (by kernel_rfl) (fun _ _ _ h => h) hHeld (by rfl) ?_
          (try simp only [Act.put, putA, putB, putC])
          refine ord_skip (i := 22) (preB 23 9) rfl (by kernel_rfl) (by kernel_rfl) (by kernel_rfl) (by kernel_rfl) (fun _ _ _ h => h) hHeld (by rfl) ?_
          (try simp only [Act.put, putA, putB, putC])
          refine ord_take (i := 23) (preB 24 8) ?_ rfl (by kernel_rfl) (by kernel_rfl) (by kernel_rfl) (by kernel_rfl) (fun _ _ _ h => h) hHeld (by rfl) (fun wx hSx => ?_) ?_
          rotate_left
          · (unfold SB at hSx; go_simp; (try with_reducible rfl))
          (try simp only [Act.put, putA, putB, putC])
          refine ord_take (i := 24) (preB 25 7) ?_ rfl (by kernel_rfl) (by kernel_rfl) (by kernel_rfl) (by kernel_rfl) (fun _ _ _ h => h) hHeld (by rfl) (fun wx hSx => ?_) ?_
          rotate_left
          · (unfold SB at hSx; go_simp; (try with_reducible rfl))
          (try simp only [Act.put, putA, putB, putC])
          refine ord_skip (i := 25) (preB 26 6) rfl (by kernel_rfl) (by kernel_rfl) (by kernel_rfl) (by kernel_rfl) (fun _ _ _ h => h) hHeld (by rfl) ?_
          (try simp only [Act.put, putA, putB, putC])
          refine ord_skip (i := 26) (preB 27 5) rfl (by kernel_rfl) (by kernel_rfl) (by kernel_rfl) (by kernel_rfl) (fun _ _ _ h => h) hHeld (by rfl) ?_
          (try simp only [Act.put, putA, putB, putC])
          refine ord_skip (i := 27) (preB 28 4) rfl (by kernel_rfl) (by kernel_rfl) (by kernel_rfl) (by kernel_rfl) (fun _ _ _ h => h) hHeld (by rfl) ?_
          (try simp only [Act.put, putA, putB, putC])
          refine ord_skip (i := 28) (preB 29 3) rfl (by kernel_rfl) (by kernel_rfl) (by kernel_rfl) (by kernel_rfl) (fun _ _ _ h => h) hHeld (by rfl) ?_
          (try simp only [Act.put, putA, putB, putC])
          refine ord_skip (i := 29) (preB 30 2) rfl (by kernel_rfl) (by kernel_rfl) (by kernel_rfl) (by kernel_rfl) (fun _ _ _ h => h) hHeld (by rfl) ?_
          (try simp only [Act.put, putA, putB, putC])
          refine ord_skip (i := 30) (preB 31 1) rfl (by kernel_rfl) (by kernel_rfl) (by kernel_rfl) (by kernel_rfl) (fun _ _ _ h => h) hHeld (by rfl) ?_
          (try simp only [Act.put, putA, putB, putC])
          refine ord_take (i := 31) (preB 32 0) ?_ rfl (by kernel_rfl) (by kernel_rfl) (by kernel_rfl) (by kernel_rfl) (fun _ _ _ h => h) hHeld (by rfl) (fun wx hSx => ?_) ?_
          rotate_left
          · (unfold SB at hSx; go_simp; (try with_reducible rfl))
          (try simp only [Act.put, putA, putB, putC])
          refine wpAnyH_done (by kernel_rfl) ?_ _
          go_wp2_with fail
          go_ret
          exact ⟨by rw [alw_1 (by rw [HVAL.out, HOB.out, HC.out]; (try cases ob) <;> (try cases vo) <;> (try cases nb) <;> simp)]; rfl, by (repeat (first | (with_reducible first | exact Below.refl _ _ | assumption | refine Below.drew ?_) | ((with_reducible first | refine Below.alloc ?_ ?_ _ | refine Below.setCell ?_ ?_ _); rotate_left; (first | omega | (simp <;> omega)))))⟩
        | true =>
          have d3 : (c != 0) = false := by unfold bne; rw [g3]; rfl
          have HC := hide g3
          clear g3
          cases g4 : (ex == 0) with
          | false =>
            have d4 : (ex != 0) = true := by unfold bne; rw [g4]; rfl
            have HE := hide g4
            clear g4
            refine ord_start (SB (w.heap.size + 2) [] _) 32 (preB 0 32) (by kernel_rfl) (by kernel_rfl) (by kernel_rfl) SB.refl.drew (fun hHeld => ?_)
            refine ord_take (i := 0) (preB 1 31) ?_ rfl (by kernel_rfl) (by kernel_rfl) (by kernel_rfl) (by kernel_rfl) (fun _ _ _ h => h) hHeld (by rfl) (fun wx hSx => ?_) ?_
            rotate_left
            · (unfold SB at hSx; go_simp; (try with_reducible rfl))
            (try simp only [Act.put, putA, putB, putC])
            refine ord_take (i := 1) (preB 2 30) ?_ rfl (by kernel_rfl) (by kernel_rfl) (by kernel_rfl) (by kernel_rfl) (fun _ _ _ h => h) hHeld (by rfl) (fun wx hSx => ?_) ?_
            rotate_left
            · (unfold SB at hSx; go_simp; (try with_reducible rfl))
            (try simp only [Act.put, putA, putB, putC])
            refine ord_take (i := 2) (preB 3 29) ?_ rfl (by kernel_rfl) (by kernel_rfl) (by kernel_rfl) (by kernel_rfl) (fun _ _ _ h => h) hHeld (by rfl) (fun wx hSx => ?_) ?_
            rotate_left
            · (unfold SB at hSx; go_simp; (try with_reducible rfl))
            (try simp only [Act.put, putA, putB, putC])
            refine ord_take (i := 3) (preB 4 28) ?_ rfl (by kernel_rfl) (by kernel_rfl) (by kernel_rfl) (by kernel_rfl) (fun _ _ _ h => h) hHeld (by rfl) (fun wx hSx => ?_) ?_
            rotate_left
            · (unfold SB at hSx; go_simp; (try with_reducible rfl))
            (try simp only [Act.put, putA, putB, putC])
            refine ord_take (i := 4) (preB 5 27) ?_ rfl (by kernel_rfl) (by kernel_rfl) (by kernel_rfl) (by kernel_rfl) (fun _ _ _ h => h) hHeld (by rfl) (fun wx hSx => ?_) ?_
            rotate_left
            · (unfold SB at hSx; go_simp; (try with_reducible rfl))
            (try simp only [Act.put, putA, putB, putC])
            refine ord_take (i := 5) (preB 6 26) ?_ rfl (by kernel_rfl) (by kernel_rfl) (by kernel_rfl) (by kernel_rfl) (fun _ _ _ h => h) hHeld (by rfl) (fun wx hSx => ?_) ?_
            rotate_left
            · (unfold SB at hSx; go_simp; (try with_reducible rfl))
            (try simp only [Act.put, putA, putB, putC])
            refine ord_take (i := 6) (preB 7 25) ?_ rfl (by kernel_rfl) (by kernel_rfl) (by kernel_rfl) (by kernel_rfl) (fun _ _ _ h => h) hHeld (by rfl) (fun wx hSx => ?_) ?_
            rotate_left
            · (unfold SB at hSx; go_simp; (try with_reducible rfl))
            (try simp only [Act.put, putA, putB, putC])
            refine ord_take (i := 7) (preB 8 24) ?_ rfl (by kernel_rfl) (by kernel_rfl) (by kernel_rfl) (by kernel_rfl) (fun _ _ _ h => h) hHeld (by rfl) (fun wx hSx => ?_) ?_
            rotate_left
            · (unfold SB at hSx; go_simp; (try with_reducible rfl))
            (try simp only [Act.put, putA, putB, putC])
            refine ord_take (i := 8) (preB 9 23) ?_ rfl (by kernel_rfl) (by kernel_rfl) (by kernel_rfl) (by kernel_rfl) (fun _ _ _ h => h) hHeld (by rfl) (fun wx hSx => ?_) ?_
            rotate_left
            · (unfold SB at hSx; go_simp; (try with_reducible rfl))
            (try simp only [Act.put, putA, putB, putC])
            refine ord_take (i := 9) (preB 10 22) ?_ rfl (by kernel_rfl) (by kernel_rfl) (by kernel_rfl) (by kernel_rfl) (fun _ _ _ h => h) hHeld (by rfl) (fun wx hSx => ?_) ?_
            rotate_left
            · (unfold SB at hSx; go_simp; (try with_reducible rfl))
            (try simp only [Act.put, putA, putB, putC])
            refine ord_take (i := 10) (preB 11 21) ?_ rfl (by kernel_rfl) (by kernel_rfl) (by kernel_rfl) (by kernel_rfl) (fun _ _ _ h => h) hHeld (by rfl) (fun wx hSx => ?_) ?_
            rotate_left
            · (unfold SB at hSx; go_simp; (try with_reducible rfl))
            (try simp only [Act.put, putA, putB, putC])
            refine wpAnyH_ready (rs := [11]) (by kernel_rfl) (by simp) ?_
            refine ord_run (i := 11) (preB 12 20) rfl (by kernel_rfl) (by rfl) (fun K hK => ?_) AllReadyH.nil
            go_simp
            go_wp2_with (go_at_call 47; refine (HO.out _).mono ?_; rintro e w1 ⟨rfl, rfl⟩)
            refine hK.out _ _ ?_ (fun hHeld => ?_)
            · (repeat (first | (with_reducible first | exact SB.refl | exact hHeld | refine SB.drew ?_ | refine SB.drewN ?_ _) | ((with_reducible first | refine SB.alloc ?_ ?_ _ | refine SB.below ?_ hbS ?_ | refine SB.below ?_ hbS1 ?_ | refine SB.below ?_ hbS2 ?_ | refine SB.below ?_ hbS3 ?_ | refine SB.below ?_ hbS4 ?_); rotate_left; (first | omega | (simp <;> omega))) | ((with_reducible refine SB.setCell ?_ ?_ _); rotate_left; (focus (first | (simp; done) | (right; first | omega | (simp <;> omega))))) | (with_reducible refine SB.undrew ?_) | ((with_reducible refine SB.congr ?_ ?_); rotate_left; (focus (simp; done))) | ((with_reducible refine SB.realloc ?_ ?_ ?_); rotate_left; (focus (simp; done)); (focus (simp; done)))))
            clear hK K
            (try simp only [Act.put, putA, putB, putC])
            refine ord_take (i := 12) (preB 13 19) ?_ rfl (by kernel_rfl) (by kernel_rfl) (by kernel_rfl) (by kernel_rfl) (fun _ _ _ h => h) hHeld (by rfl) (fun wx hSx => ?_) ?_
            rotate_left
            · (unfold SB at hSx; go_simp; (try with_reducible rfl))
            (try simp only [Act.put, putA, putB, putC])
            refine ord_take (i := 13) (preB 14 18) ?_ rfl (by kernel_rfl) (by kernel_rfl) (by kernel_rfl) (by kernel_rfl) (fun _ _ _ h => h) hHeld (by rfl) (fun wx hSx => ?_) ?_
            rotate_left
            · (unfold SB at hSx; go_simp; (try with_reducible rfl))
            (try simp only [Act.put, putA, putB, putC])
            refine ord_take (i := 14) (preB 15 17) ?_ rfl (by kernel_rfl) (by kernel_rfl) (by kernel_rfl) (by kernel_rfl) (fun _ _ _ h => h) hHeld (by rfl) (fun wx hSx => ?_) ?_
            rotate_left
            · (unfold SB at hSx; go_simp; (try with_reducible rfl))
            (try simp only [Act.put, putA, putB, putC])
            refine ord_take (i := 15) (preB 16 16) ?_ rfl (by kernel_rfl) (by kernel_rfl) (by kernel_rfl) (by kernel_rfl) (fun _ _ _ h => h) hHeld (by rfl) (fun wx hSx => ?_) ?_
            rotate_left
            · (unfold SB at hSx; go_simp; (try with_reducible rfl))
            (try simp only [Act.put, putA, putB, putC])
            refine ord_take (i := 16) (preB 17 15) ?_ rfl (by kernel_rfl) (by kernel_rfl) (by kernel_rfl) (by kernel_rfl) (fun _ _ _ h => h) hHeld (by rfl) (fun wx hSx => ?_) ?_
            rotate_left
            · (unfold SB at hSx; go_simp; (try with_reducible rfl))
            (try simp only [Act.put, putA, putB, putC])
            refine ord_take (i := 17) (preB 18 14) ?_ rfl (by kernel_rfl) (by kernel_rfl) (by kernel_rfl) (by kernel_rfl) (fun _ _ _ h => h) hHeld (by rfl) (fun wx hSx => ?_) ?_
            rotate_left
            · (unfold SB at hSx; go_simp; (try with_reducible rfl))
            (try simp only [Act.put, putA, putB, putC])
            refine ord_take (i := 18) (preB 19 13) ?_ rfl (by kernel_rfl) (by kernel_rfl) (by kernel_rfl) (by kernel_rfl) (fun _ _ _ h => h) hHeld (by rfl) (fun wx hSx => ?_) ?_
            rotate_left
            · (unfold SB at hSx; go_simp; (try with_reducible rfl))
            (try simp only [Act.put, putA, putB, putC])
            refine ord_take (i := 19) (preB 20 12) ?_ rfl (by kernel_rfl) (by kernel_rfl) (by kernel_rfl) (by kernel_rfl) (fun _ _ _ h => h) hHeld (by rfl) (fun wx hSx => ?_) ?_
            rotate_left
            · (unfold SB at hSx; go_simp; (try with_reducible rfl))
            (try simp only [Act.put, putA, putB, putC])
            refine ord_take (i := 20) (preB 21 11) ?_ rfl (by kernel_rfl) (by kernel_rfl) (by kernel_rfl) (by kernel_rfl) (fun _ _ _ h => h) hHeld (by rfl) (fun wx hSx => ?_) ?_
            rotate_left
            · (unfold SB at hSx; go_simp; (try with_reducible rfl))
            (try simp only [Act.put, putA, putB, putC])
            refine ord_take (i := 21) (preB 22 10) ?_ rfl (by kernel_rfl) (by kernel_rfl) (by kernel_rfl) (by kernel_rfl) (fun _ _ _ h => h) hHeld (by rfl) (fun wx hSx => ?_) ?_
            rotate_left
            · (unfold SB at hSx; go_simp; (try with_reducible rfl))
            (try simp only [Act.put, putA, putB, putC])
            refine ord_take (i := 22) (preB 23 9) ?_ rfl (by kernel_rfl) (by kernel_rfl) (by kernel_rfl) (by kernel_rfl) (fun _ _ _ h => h) hHeld (by rfl) (fun wx hSx => ?_) ?_
            rotate_left
            · (unfold SB at hSx; go_simp; (try with_reducible rfl))
            (try simp only [Act.put, putA, putB, putC])
            refine ord_take (i := 23) (preB 24 8) ?_ rfl (by kernel_rfl) (by kernel_rfl) (by kernel_rfl) (by kernel_rfl) (fun _ _ _ h => h) hHeld (by rfl) (fun wx hSx => ?_) ?_
            rotate_left
            · (unfold SB at hSx; go_simp; (try with_reducible rfl))
            (try simp only [Act.put, putA, putB, putC])
            refine ord_take (i := 24) (preB 25 7) ?_ rfl (by kernel_rfl) (by kernel_rfl) (by kernel_rfl) (by kernel_rfl) (fun _ _ _ h => h) hHeld (by rfl) (fun wx hSx => ?_) ?_
            rotate_left
            · (unfold SB at hSx; go_simp; (try with_reducible rfl))
            (try simp only [Act.put, putA, putB, putC])
            refine ord_skip (i := 25) (preB 26 6) rfl (by kernel_rfl) (by kernel_rfl) (by kernel_rfl) (by kernel_rfl) (fun _ _ _ h => h) hHeld (by rfl) ?_
            (try simp only [Act.put, putA, putB, putC])
            refine ord_skip (i := 26) (preB 27 5) rfl (by kernel_rfl) (by kernel_rfl) (by kernel_rfl) (by kernel_rfl) (fun _ _ _ h => h) hHeld (by rfl) ?_
            (try simp only [Act.put, putA, putB, putC])
            refine ord_skip (i := 27) (preB 28 4) rfl (by kernel_rfl) (by kernel_rfl) (by kernel_rfl) (by kernel_rfl) (fun _ _ _ h => h) hHeld (by rfl) ?_
            (try simp only [Act.put, putA, putB, putC])
            refine ord_skip (i := 28) (preB 29 3) rfl (by kernel_rfl) (by kernel_rfl) (by kernel_rfl) (by kernel_rfl) (fun _ _ _ h => h) hHeld (by rfl) ?_
            (try simp only [Act.put, putA, putB, putC])
            refine ord_skip (i := 29) (preB 30 2) rfl (by kernel_rfl) (by kernel_rfl) (by kernel_rfl) (by kernel_rfl) (fun _ _ _ h => h) hHeld (by rfl) ?_
            (try simp only [Act.put, putA, putB, putC])
            refine ord_skip (i := 30) (preB 31 1) rfl (by kernel_rfl) (by kernel_rfl) (by kernel_rfl) (by kernel_rfl) (fun _ _ _ h => h) hHeld (by rfl) ?_
            (try simp only [Act.put, putA, putB, putC])
            refine ord_take (i := 31) (preB 32 0) ?_ rfl (by kernel_rfl) (by kernel_rfl) (by kernel_rfl) (by kernel_rfl) (fun _ _ _ h => h) hHeld (by rfl) (fun wx hSx => ?_) ?_
            rotate_left
            · (unfold SB at hSx; go_simp; (try with_reducible rfl))
            (try simp only [Act.put, putA, putB, putC])
            refine wpAnyH_done (by kernel_rfl) ?_ _
            go_wp2_with fail
            go_ret
            exact ⟨by rw [alw_1 (by rw [HVAL.out, HOB.out, HC.out, HE.out]; (try cases ob) <;> (try cases vo) <;> (try cases nb) <;> simp)]; rfl, by (repeat (first | (with_reducible first | exact Below.refl _ _ | assumption | refine Below.drew ?_) | ((with_reducible first | refine Below.alloc ?_ ?_ _ | refine Below.setCell ?_ ?_ _); rotate_left; (first | omega | (simp <;> omega)))))⟩
          | true =>
            have d4 : (ex != 0) = false := by unfold bne; rw [g4]; rfl
            have HE := hide g4
            clear g4
            cases nb with
            | false =>
              have d5 : (nu.toList != t.toList) = true := by unfold bne; rw [← hnb]; rfl
              have d5n : (nu.toList == t.toList) = false := hnb.symm
              clear hnb
              refine ord_start (SB (w.heap.size + 2) [] _) 32 (preB 0 32) (by kernel_rfl) (by kernel_rfl) (by kernel_rfl) SB.refl.drew (fun hHeld => ?_)
              refine ord_take (i := 0) (preB 1 31) ?_ rfl (by kernel_rfl) (by kernel_rfl) (by kernel_rfl) (by kernel_rfl) (fun _ _ _ h => h) hHeld (by rfl) (fun wx hSx => ?_) ?_
              rotate_left
              · (unfold SB at hSx; go_simp; (try with_reducible rfl))
              (try simp only [Act.put, putA, putB, putC])
              refine ord_take (i := 1) (preB 2 30) ?_ rfl (by kernel_rfl) (by kernel_rfl) (by kernel_rfl) (by kernel_rfl) (fun _ _ _ h => h) hHeld (by rfl) (fun wx hSx => ?_) ?_
              rotate_left
              · (unfold SB at hSx; go_simp; (try with_reducible rfl))
              (try simp only [Act.put, putA, putB, putC])
              refine ord_take (i := 2) (preB 3 29) ?_ rfl (by kernel_rfl) (by kernel_rfl) (by kernel_rfl) (by kernel_rfl) (fun _ _ _ h => h) hHeld (by rfl) (fun wx hSx => ?_) ?_
              rotate_left
              · (unfold SB at hSx; go_simp; (try with_reducible rfl))
              (try simp only [Act.put, putA, putB, putC])
              refine ord_take (i := 3) (preB 4 28) ?_ rfl (by kernel_rfl) (by kernel_rfl) (by kernel_rfl) (by kernel_rfl) (fun _ _ _ h => h) hHeld (by rfl) (fun wx hSx => ?_) ?_
              rotate_left
              · (unfold SB at hSx; go_simp; (try with_reducible rfl))
              (try simp only [Act.put, putA, putB, putC])
              refine ord_take (i := 4) (preB 5 27) ?_ rfl (by kernel_rfl) (by kernel_rfl) (by kernel_rfl) (by kernel_rfl) (fun _ _ _ h => h) hHeld (by rfl) (fun wx hSx => ?_) ?_
              rotate_left
              · (unfold SB at hSx; go_simp; (try with_reducible rfl))
              (try simp only [Act.put, putA, putB, putC])
              refine ord_take (i := 5) (preB 6 26) ?_ rfl (by kernel_rfl) (by kernel_rfl) (by kernel_rfl) (by kernel_rfl) (fun _ _ _ h => h) hHeld (by rfl) (fun wx hSx => ?_) ?_
              rotate_left
              · (unfold SB at hSx; go_simp; (try with_reducible rfl))
              (try simp only [Act.put, putA, putB, putC])
              refine ord_take (i := 6) (preB 7 25) ?_ rfl (by kernel_rfl) (by kernel_rfl) (by kernel_rfl) (by kernel_rfl) (fun _ _ _ h => h) hHeld (by rfl) (fun wx hSx => ?_) ?_
              rotate_left
              · (unfold SB at hSx; go_simp; (try with_reducible rfl))
              (try simp only [Act.put, putA, putB, putC])
              refine ord_take (i := 7) (preB 8 24) ?_ rfl (by kernel_rfl) (by kernel_rfl) (by kernel_rfl) (by kernel_rfl) (fun _ _ _ h => h) hHeld (by rfl) (fun wx hSx => ?_) ?_
              rotate_left
              · (unfold SB at hSx; go_simp; (try with_reducible rfl))
              (try simp only [Act.put, putA, putB, putC])
              refine ord_take (i := 8) (preB 9 23) ?_ rfl (by kernel_rfl) (by kernel_rfl) (by kernel_rfl) (by kernel_rfl) (fun _ _ _ h => h) hHeld (by rfl) (fun wx hSx => ?_) ?_
              rotate_left
              · (unfold SB at hSx; go_simp; (try with_reducible rfl))
              (try simp only [Act.put, putA, putB, putC])
              refine ord_take (i := 9) (preB 10 22) ?_ rfl (by kernel_rfl) (by kernel_rfl) (by kernel_rfl) (by kernel_rfl) (fun _ _ _ h => h) hHeld (by rfl) (fun wx hSx => ?_) ?_
              rotate_left
              · (unfold SB at hSx; go_simp; (try with_reducible rfl))
              (try simp only [Act.put, putA, putB, putC])
              refine ord_take (i := 10) (preB 11 21) ?_ rfl (by kernel_rfl) (by kernel_rfl) (by kernel_rfl) (by kernel_rfl) (fun _ _ _ h => h) hHeld (by rfl) (fun wx hSx => ?_) ?_
              rotate_left
              · (unfold SB at hSx; go_simp; (try with_reducible rfl))
              (try simp only [Act.put, putA, putB, putC])
              refine wpAnyH_ready (rs := [11]) (by kernel_rfl) (by simp) ?_
              refine ord_run (i := 11) (preB 12 20) rfl (by kernel_rfl) (by rfl) (fun K hK => ?_) AllReadyH.nil
              go_simp
              go_wp2_with (go_at_call 47; refine (HO.out _).mono ?_; rintro e w1 ⟨rfl, rfl⟩)
              refine hK.out _ _ ?_ (fun hHeld => ?_)
              · (repeat (first | (with_reducible first | exact SB.refl | exact hHeld | refine SB.drew ?_ | refine SB.drewN ?_ _) | ((with_reducible first | refine SB.alloc ?_ ?_ _ | refine SB.below ?_ hbS ?_ | refine SB.below ?_ hbS1 ?_ | refine SB.below ?_ hbS2 ?_ | refine SB.below ?_ hbS3 ?_ | refine SB.below ?_ hbS4 ?_); rotate_left; (first | omega | (simp <;> omega))) | ((with_reducible refine SB.setCell ?_ ?_ _); rotate_left; (focus (first | (simp; done) | (right; first | omega | (simp <;> omega))))) | (with_reducible refine SB.undrew ?_) | ((with_reducible refine SB.congr ?_ ?_); rotate_left; (focus (simp; done))) | ((with_reducible refine SB.realloc ?_ ?_ ?_); rotate_left; (focus (simp; done)); (focus (simp; done)))))
              clear hK K
              (try simp only [Act.put, putA, putB, putC])
              refine ord_take (i := 12) (preB 13 19) ?_ rfl (by kernel_rfl) (by kernel_rfl) (by kernel_rfl) (by kernel_rfl) (fun _ _ _ h => h) hHeld (by rfl) (fun wx hSx => ?_) ?_
              rotate_left
              · (unfold SB at hSx; go_simp; (try with_reducible rfl))
              (try simp only [Act.put, putA, putB, putC])
              refine ord_take (i := 13) (preB 14 18) ?_ rfl (by kernel_rfl) (by kernel_rfl) (by kernel_rfl) (by kernel_rfl) (fun _ _ _ h => h) hHeld (by rfl) (fun wx hSx => ?_) ?_
              rotate_left
              · (unfold SB at hSx; go_simp; (try with_reducible rfl))
              (try simp only [Act.put, putA, putB, putC])
              refine ord_take (i := 14) (preB 15 17) ?_ rfl (by kernel_rfl) (by kernel_rfl) (by kernel_rfl) (by kernel_rfl) (fun _ _ _ h => h) hHeld (by rfl) (fun wx hSx => ?_) ?_
              rotate_left
              · (unfold SB at hSx; go_simp; (try with_reducible rfl))
              (try simp only [Act.put, putA, putB, putC])
              refine ord_take (i := 15) (preB 16 16) ?_ rfl (by kernel_rfl) (by kernel_rfl) (by kernel_rfl) (by kernel_rfl) (fun _ _ _ h => h) hHeld (by rfl) (fun wx hSx => ?_) ?_
              rotate_left
              · (unfold SB at hSx; go_simp; (try with_reducible rfl))
              (try simp only [Act.put, putA, putB, putC])
              refine ord_take (i := 16) (preB 17 15) ?_ rfl (by kernel_rfl) (by kernel_rfl) (by kernel_rfl) (by kernel_rfl) (fun _ _ _ h => h) hHeld (by rfl) (fun wx hSx => ?_) ?_
              rotate_left
              · (unfold SB at hSx; go_simp; (try with_reducible rfl))
              (try simp only [Act.put, putA, putB, putC])
              refine ord_take (i := 17) (preB 18 14) ?_ rfl (by kernel_rfl) (by kernel_rfl) (by kernel_rfl) (by kernel_rfl) (fun _ _ _ h => h) hHeld (by rfl) (fun wx hSx => ?_) ?_
              rotate_left
              · (unfold SB at hSx; go_simp; (try with_reducible rfl))
              (try simp only [Act.put, putA, putB, putC])
              refine ord_take (i := 18) (preB 19 13) ?_ rfl (by kernel_rfl) (by kernel_rfl) (by kernel_rfl) (by kernel_rfl) (fun _ _ _ h => h) hHeld (by rfl) (fun wx hSx => ?_) ?_
              rotate_left
              · (unfold SB at hSx; go_simp; (try with_reducible rfl))
              (try simp only [Act.put, putA, putB, putC])
              refine ord_take (i := 19) (preB 20 12) ?_ rfl (by kernel_rfl) (by kernel_rfl) (by kernel_rfl) (by kernel_rfl) (fun _ _ _ h => h) hHeld (by rfl) (fun wx hSx => ?_) ?_
              rotate_left
              · (unfold SB at hSx; go_simp; (try with_reducible rfl))
              (try simp only [Act.put, putA, putB, putC])
              refine ord_take (i := 20) (preB 21 11) ?_ rfl (by kernel_rfl) (by kernel_rfl) (by kernel_rfl) (by kernel_rfl) (fun _ _ _ h => h) hHeld (by rfl) (fun wx hSx => ?_) ?_
              rotate_left
              · (unfold SB at hSx; go_simp; (try with_reducible rfl))
              (try simp only [Act.put, putA, putB, putC])
              refine ord_take (i := 21) (preB 22 10) ?_ rfl (by kernel_rfl) (by kernel_rfl) (by kernel_rfl) (by kernel_rfl) (fun _ _ _ h => h) hHeld (by rfl) (fun wx hSx => ?_) ?_
              rotate_left
              · (unfold SB at hSx; go_simp; (try with_reducible rfl))
              (try simp only [Act.put, putA, putB, putC])
              refine ord_take (i := 22) (preB 23 9) ?_ rfl (by kernel_rfl) (by kernel_rfl) (by kernel_rfl) (by kernel_rfl) (fun _ _ _ h => h) hHeld (by rfl) (fun wx hSx => ?_) ?_
              rotate_left
              · (unfold SB at hSx; go_simp; (try with_reducible rfl))
              (try simp only [Act.put, putA, putB, putC])
              refine ord_take (i := 23) (preB 24 8) ?_ rfl (by kernel_rfl) (by kernel_rfl) (by kernel_rfl) (by kernel_rfl) (fun _ _ _ h => h) hHeld (by rfl) (fun wx hSx => ?_) ?_
              rotate_left
              · (unfold SB at hSx; go_simp; (try with_reducible rfl))
              (try simp only [Act.put, putA, putB, putC])
              refine ord_take (i := 24) (preB 25 7) ?_ rfl (by kernel_rfl) (by kernel_rfl) (by kernel_rfl) (by kernel_rfl) (fun _ _ _ h => h) hHeld (by rfl) (fun wx hSx => ?_) ?_
              rotate_left
              · (unfold SB at hSx; go_simp; (try with_reducible rfl))
              (try simp only [Act.put, putA, putB, putC])
              refine ord_take (i := 25) (preB 26 6) ?_ rfl (by kernel_rfl) (by kernel_rfl) (by kernel_rfl) (by kernel_rfl) (fun _ _ _ h => h) hHeld (by rfl) (fun wx hSx => ?_) ?_
              rotate_left
              · (unfold SB at hSx; go_simp; (try with_reducible rfl))
              (try simp only [Act.put, putA, putB, putC])
              refine ord_take (i := 26) (preB 27 5) ?_ rfl (by kernel_rfl) (by kernel_rfl) (by kernel_rfl) (by kernel_rfl) (fun _ _ _ h => h) hHeld (by rfl) (fun wx hSx => ?_) ?_
              rotate_left
              · (unfold SB at hSx; go_simp; (try with_reducible rfl))
              (try simp only [Act.put, putA, putB, putC])
              refine ord_take (i := 27) (preB 28 4) ?_ rfl (by kernel_rfl) (by kernel_rfl) (by kernel_rfl) (by kernel_rfl) (fun _ _ _ h => h) hHeld (by rfl) (fun wx hSx => ?_) ?_
              rotate_left
              · (unfold SB at hSx; go_simp; (try with_reducible rfl))
              (try simp only [Act.put, putA, putB, putC])
              refine ord_take (i := 28) (preB 29 3) ?_ rfl (by kernel_rfl) (by kernel_rfl) (by kernel_rfl) (by kernel_rfl) (fun _ _ _ h => h) hHeld (by rfl) (fun wx hSx => ?_) ?_
              rotate_left
              · (unfold SB at hSx; go_simp; (try with_reducible rfl))
              (try simp only [Act.put, putA, putB, putC])
              refine wpAnyH_ready (rs := [29]) (by kernel_rfl) (by simp) ?_
              refine ord_run (i := 29) (preB 30 2) rfl (by kernel_rfl) (by rfl) (fun K hK => ?_) AllReadyH.nil
              go_simp
              go_wp2_with (go_at_call 8; refine (HN.out _ (HT.out.below (by (repeat (first | (with_reducible first | exact Below.refl _ _ | assumption | refine Below.drew ?_) | ((with_reducible first | refine Below.alloc ?_ ?_ _ | refine Below.setCell ?_ ?_ _); rotate_left; (first | omega | (simp <;> omega)))))))).mono ?_; rintro e w1 ⟨rfl, hb⟩; have hbS := hb; have hbS1 := hb; have J1 := hide (show Below w.heap.size w w1 from Below.trans (by (repeat (first | (with_reducible first | exact Below.refl _ _ | assumption | refine Below.drew ?_) | ((with_reducible first | refine Below.alloc ?_ ?_ _ | refine Below.setCell ?_ ?_ _); rotate_left; (first | omega | (simp <;> omega)))))) (hb.mono (by first | omega | (simp <;> omega)))); have zJ1 := J1.out.size; (try simp at zJ1); have hbK := hide hb; clear hb)
              refine hK.out _ _ ?_ (fun hHeld => ?_)
              · (repeat (first | (with_reducible first | exact SB.refl | exact hHeld | refine SB.drew ?_ | refine SB.drewN ?_ _) | ((with_reducible first | refine SB.alloc ?_ ?_ _ | refine SB.below ?_ hbS ?_ | refine SB.below ?_ hbS1 ?_ | refine SB.below ?_ hbS2 ?_ | refine SB.below ?_ hbS3 ?_ | refine SB.below ?_ hbS4 ?_); rotate_left; (first | omega | (simp <;> omega))) | ((with_reducible refine SB.setCell ?_ ?_ _); rotate_left; (focus (first | (simp; done) | (right; first | omega | (simp <;> omega))))) | (with_reducible refine SB.undrew ?_) | ((with_reducible refine SB.congr ?_ ?_); rotate_left; (focus (simp; done))) | ((with_reducible refine SB.realloc ?_ ?_ ?_); rotate_left; (focus (simp; done)); (focus (simp; done)))))
              clear hK K
              (try simp only [Act.put, putA, putB, putC])
              refine ord_take (i := 30) (preB 31 1) ?_ rfl (by kernel_rfl) (by kernel_rfl) (by kernel_rfl) (by kernel_rfl) (fun _ _ _ h => h) hHeld (by rfl) (fun wx hSx => ?_) ?_
              rotate_left
              · (unfold SB at hSx; go_simp; (try with_reducible rfl))
              (try simp only [Act.put, putA, putB, putC])
              refine ord_take (i := 31) (preB 32 0) ?_ rfl (by kernel_rfl) (by kernel_rfl) (by kernel_rfl) (by kernel_rfl) (fun _ _ _ h => h) hHeld (by rfl) (fun wx hSx => ?_) ?_
              rotate_left
              · (unfold SB at hSx; go_simp; (try with_reducible rfl))
              (try simp only [Act.put, putA, putB, putC])
              refine wpAnyH_done (by kernel_rfl) ?_ _
              go_wp2_with fail
              go_ret
              exact ⟨by rw [alw_1 (by rw [HVAL.out, HOB.out, HC.out, HE.out]; (try cases ob) <;> (try cases vo) <;> (try cases nb) <;> simp)]; rfl, by exact J1.out.trans (by (repeat (first | (with_reducible first | exact Below.refl _ _ | assumption | refine Below.drew ?_) | ((with_reducible first | refine Below.alloc ?_ ?_ _ | refine Below.setCell ?_ ?_ _); rotate_left; (first | omega | (simp <;> omega))))))⟩
            | true =>
              have d5 : (nu.toList != t.toList) = false := by unfold bne; rw [← hnb]; rfl
              have d5n : (nu.toList == t.toList) = true := hnb.symm
              clear hnb
              have HOP := hide (show opB ⟨i, o, c, ex, ow, pr, nu⟩ = true from by rw [HVAL.out, HOB.out, HC.out, HE.out]; rfl)
              refine ord_start (SB (w.heap.size + 2) [] _) 32 (preB 0 32) (by kernel_rfl) (by kernel_rfl) (by kernel_rfl) SB.refl.drew (fun hHeld => ?_)
              refine ord_take (i := 0) (preB 1 31) ?_ rfl (by kernel_rfl) (by kernel_rfl) (by kernel_rfl) (by kernel_rfl) (fun _ _ _ h => h) hHeld (by rfl) (fun wx hSx => ?_) ?_
              rotate_left
              · (unfold SB at hSx; go_simp; (try with_reducible rfl))
              (try simp only [Act.put, putA, putB, putC])
              refine ord_take (i := 1) (preB 2 30) ?_ rfl (by kernel_rfl) (by kernel_rfl) (by kernel_rfl) (by kernel_rfl) (fun _ _ _ h => h) hHeld (by rfl) (fun wx hSx => ?_) ?_
              rotate_left
              · (unfold SB at hSx; go_simp; (try with_reducible rfl))
              (try simp only [Act.put, putA, putB, putC])
              refine ord_take (i := 2) (preB 3 29) ?_ rfl (by kernel_rfl) (by kernel_rfl) (by kernel_rfl) (by kernel_rfl) (fun _ _ _ h => h) hHeld (by rfl) (fun wx hSx => ?_) ?_
              rotate_left
              · (unfold SB at hSx; go_simp; (try with_reducible rfl))
              (try simp only [Act.put, putA, putB, putC])
              refine ord_take (i := 3) (preB 4 28) ?_ rfl (by kernel_rfl) (by kernel_rfl) (by kernel_rfl) (by kernel_rfl) (fun _ _ _ h => h) hHeld (by rfl) (fun wx hSx => ?_) ?_
              rotate_left
              · (unfold SB at hSx; go_simp; (try with_reducible rfl))
              (try simp only [Act.put, putA, putB, putC])
              refine ord_take (i := 4) (preB 5 27) ?_ rfl (by kernel_rfl) (by kernel_rfl) (by kernel_rfl) (by kernel_rfl) (fun _ _ _ h => h) hHeld (by rfl) (fun wx hSx => ?_) ?_
              rotate_left
              · (unfold SB at hSx; go_simp; (try with_reducible rfl))
              (try simp only [Act.put, putA, putB, putC])
              refine ord_take (i := 5) (preB 6 26) ?_ rfl (by kernel_rfl) (by kernel_rfl) (by kernel_rfl) (by kernel_rfl) (fun _ _ _ h => h) hHeld (by rfl) (fun wx hSx => ?_) ?_
              rotate_left
              · (unfold SB at hSx; go_simp; (try with_reducible rfl))
              (try simp only [Act.put, putA, putB, putC])
              refine ord_take (i := 6) (preB 7 25) ?_ rfl (by kernel_rfl) (by kernel_rfl) (by kernel_rfl) (by kernel_rfl) (fun _ _ _ h => h) hHeld (by rfl) (fun wx hSx => ?_) ?_
              rotate_left
              · (unfold SB at hSx; go_simp; (try with_reducible rfl))
              (try simp only [Act.put, putA, putB, putC])
              refine ord_take (i := 7) (preB 8 24) ?_ rfl (by kernel_rfl) (by kernel_rfl) (by kernel_rfl) (by kernel_rfl) (fun _ _ _ h => h) hHeld (by rfl) (fun wx hSx => ?_) ?_
              rotate_left
              · (unfold SB at hSx; go_simp; (try with_reducible rfl))
              (try simp only [Act.put, putA, putB, putC])
              refine ord_take (i := 8) (preB 9 23) ?_ rfl (by kernel_rfl) (by kernel_rfl) (by kernel_rfl) (by kernel_rfl) (fun _ _ _ h => h) hHeld (by rfl) (fun wx hSx => ?_) ?_
              rotate_left
              · (unfold SB at hSx; go_simp; (try with_reducible rfl))
              (try simp only [Act.put, putA, putB, putC])
              refine ord_take (i := 9) (preB 10 22) ?_ rfl (by kernel_rfl) (by kernel_rfl) (by kernel_rfl) (by kernel_rfl) (fun _ _ _ h => h) hHeld (by rfl) (fun wx hSx => ?_) ?_
              rotate_left
              · (unfold SB at hSx; go_simp; (try with_reducible rfl))
              (try simp only [Act.put, putA, putB, putC])
              refine ord_take (i := 10) (preB 11 21) ?_ rfl (by kernel_rfl) (by kernel_rfl) (by kernel_rfl) (by kernel_rfl) (fun _ _ _ h => h) hHeld (by rfl) (fun wx hSx => ?_) ?_
              rotate_left
              · (unfold SB at hSx; go_simp; (try with_reducible rfl))
              (try simp only [Act.put, putA, putB, putC])
              refine wpAnyH_ready (rs := [11]) (by kernel_rfl) (by simp) ?_
              refine ord_run (i := 11) (preB 12 20) rfl (by kernel_rfl) (by rfl) (fun K hK => ?_) AllReadyH.nil
              go_simp
              go_wp2_with (go_at_call 47; refine (HO.out _).mono ?_; rintro e w1 ⟨rfl, rfl⟩)
              refine hK.out _ _ ?_ (fun hHeld => ?_)
              · (repeat (first | (with_reducible first | exact SB.refl | exact hHeld | refine SB.drew ?_ | refine SB.drewN ?_ _) | ((with_reducible first | refine SB.alloc ?_ ?_ _ | refine SB.below ?_ hbS ?_ | refine SB.below ?_ hbS1 ?_ | refine SB.below ?_ hbS2 ?_ | refine SB.below ?_ hbS3 ?_ | refine SB.below ?_ hbS4 ?_); rotate_left; (first | omega | (simp <;> omega))) | ((with_reducible refine SB.setCell ?_ ?_ _); rotate_left; (focus (first | (simp; done) | (right; first | omega | (simp <;> omega))))) | (with_reducible refine SB.undrew ?_) | ((with_reducible refine SB.congr ?_ ?_); rotate_left; (focus (simp; done))) | ((with_reducible refine SB.realloc ?_ ?_ ?_); rotate_left; (focus (simp; done)); (focus (simp; done)))))
              clear hK K
              (try simp only [Act.put, putA, putB, putC])
              refine ord_take (i := 12) (preB 13 19) ?_ rfl (by kernel_rfl) (by kernel_rfl) (by kernel_rfl) (by kernel_rfl) (fun _ _ _ h => h) hHeld (by rfl) (fun wx hSx => ?_) ?_
              rotate_left
              · (unfold SB at hSx; go_simp; (try with_reducible rfl))
              (try simp only [Act.put, putA, putB, putC])
              refine ord_take (i := 13) (preB 14 18) ?_ rfl (by kernel_rfl) (by kernel_rfl) (by kernel_rfl) (by kernel_rfl) (fun _ _ _ h => h) hHeld (by rfl) (fun wx hSx => ?_) ?_
              rotate_left
              · (unfold SB at hSx; go_simp; (try with_reducible rfl))
              (try simp only [Act.put, putA, putB, putC])
              refine ord_take (i := 14) (preB 15 17) ?_ rfl (by kernel_rfl) (by kernel_rfl) (by kernel_rfl) (by kernel_rfl) (fun _ _ _ h => h) hHeld (by rfl) (fun wx hSx => ?_) ?_
              rotate_left
              · (unfold SB at hSx; go_simp; (try with_reducible rfl))
              (try simp only [Act.put, putA, putB, putC])
              refine ord_take (i := 15) (preB 16 16) ?_ rfl (by kernel_rfl) (by kernel_rfl) (by kernel_rfl) (by kernel_rfl) (fun _ _ _ h => h) hHeld (by rfl) (fun wx hSx => ?_) ?_
              rotate_left
              · (unfold SB at hSx; go_simp; (try with_reducible rfl))
              (try simp only [Act.put, putA, putB, putC])
              refine ord_take (i := 16) (preB 17 15) ?_ rfl (by kernel_rfl) (by kernel_rfl) (by kernel_rfl) (by kernel_rfl) (fun _ _ _ h => h) hHeld (by rfl) (fun wx hSx => ?_) ?_
              rotate_left
              · (unfold SB at hSx; go_simp; (try with_reducible rfl))
              (try simp only [Act.put, putA, putB, putC])
              refine ord_take (i := 17) (preB 18 14) ?_ rfl (by kernel_rfl) (by kernel_rfl) (by kernel_rfl) (by kernel_rfl) (fun _ _ _ h => h) hHeld (by rfl) (fun wx hSx => ?_) ?_
              rotate_left
              · (unfold SB at hSx; go_simp; (try with_reducible rfl))
              (try simp only [Act.put, putA, putB, putC])
              refine ord_take (i := 18) (preB 19 13) ?_ rfl (by kernel_rfl) (by kernel_rfl) (by kernel_rfl) (by kernel_rfl) (fun _ _ _ h => h) hHeld (by rfl) (fun wx hSx => ?_) ?_
              rotate_left
              · (unfold SB at hSx; go_simp; (try with_reducible rfl))
              (try simp only [Act.put, putA, putB, putC])
              refine ord_take (i := 19) (preB 20 12) ?_ rfl (by kernel_rfl) (by kernel_rfl) (by kernel_rfl) (by kernel_rfl) (fun _ _ _ h => h) hHeld (by rfl) (fun wx hSx => ?_) ?_
              rotate_left
              · (unfold SB at hSx; go_simp; (try with_reducible rfl))
              (try simp only [Act.put, putA, putB, putC])
              refine ord_take (i := 20) (preB 21 11) ?_ rfl (by kernel_rfl) (by kernel_rfl) (by kernel_rfl) (by kernel_rfl) (fun _ _ _ h => h) hHeld (by rfl) (fun wx hSx => ?_) ?_
              rotate_left
              · (unfold SB at hSx; go_simp; (try with_reducible rfl))
              (try simp only [Act.put, putA, putB, putC])
              refine ord_take (i := 21) (preB 22 10) ?_ rfl (by kernel_rfl) (by kernel_rfl) (by kernel_rfl) (by kernel_rfl) (fun _ _ _ h => h) hHeld (by rfl) (fun wx hSx => ?_) ?_
              rotate_left
              · (unfold SB at hSx; go_simp; (try with_reducible rfl))
              (try simp only [Act.put, putA, putB, putC])
              refine ord_take (i := 22) (preB 23 9) ?_ rfl (by kernel_rfl) (by kernel_rfl) (by kernel_rfl) (by kernel_rfl) (fun _ _ _ h => h) hHeld (by rfl) (fun wx hSx => ?_) ?_
              rotate_left
              · (unfold SB at hSx; go_simp; (try with_reducible rfl))
              (try simp only [Act.put, putA, putB, putC])
              refine ord_take (i := 23) (preB 24 8) ?_ rfl (by kernel_rfl) (by kernel_rfl) (by kernel_rfl) (by kernel_rfl) (fun _ _ _ h => h) hHeld (by rfl) (fun wx hSx => ?_) ?_
              rotate_left
              · (unfold SB at hSx; go_simp; (try with_reducible rfl))
              (try simp only [Act.put, putA, putB, putC])
              refine ord_take (i := 24) (preB 25 7) ?_ rfl (by kernel_rfl) (by kernel_rfl) (by kernel_rfl) (by kernel_rfl) (fun _ _ _ h => h) hHeld (by rfl) (fun wx hSx => ?_) ?_
              rotate_left
              · (unfold SB at hSx; go_simp; (try with_reducible rfl))
              (try simp only [Act.put, putA, putB, putC])
              refine ord_take (i := 25) (preB 26 6) ?_ rfl (by kernel_rfl) (by kernel_rfl) (by kernel_rfl) (by kernel_rfl) (fun _ _ _ h => h) hHeld (by rfl) (fun wx hSx => ?_) ?_
              rotate_left
              · (unfold SB at hSx; go_simp; (try with_reducible rfl))
              (try simp only [Act.put, putA, putB, putC])
              refine ord_take (i := 26) (preB 27 5) ?_ rfl (by kernel_rfl) (by kernel_rfl) (by kernel_rfl) (by kernel_rfl) (fun _ _ _ h => h) hHeld (by rfl) (fun wx hSx => ?_) ?_
              rotate_left
              · (unfold SB at hSx; go_simp; (try with_reducible rfl))
              (try simp only [Act.put, putA, putB, putC])
              refine ord_take (i := 27) (preB 28 4) ?_ rfl (by kernel_rfl) (by kernel_rfl) (by kernel_rfl) (by kernel_rfl) (fun _ _ _ h => h) hHeld (by rfl) (fun wx hSx => ?_) ?_
              rotate_left
              · (unfold SB at hSx; go_simp; (try with_reducible rfl))
              (try simp only [Act.put, putA, putB, putC])
              refine ord_take (i := 28) (preB 29 3) ?_ rfl (by kernel_rfl) (by kernel_rfl) (by kernel_rfl) (by kernel_rfl) (fun _ _ _ h => h) hHeld (by rfl) (fun wx hSx => ?_) ?_
              rotate_left
              · (unfold SB at hSx; go_simp; (try with_reducible rfl))
              (try simp only [Act.put, putA, putB, putC])
              refine wpAnyH_ready (rs := [29]) (by kernel_rfl) (by simp) ?_
              refine ord_run (i := 29) (preB 30 2) rfl (by kernel_rfl) (by rfl) (fun K hK => ?_) AllReadyH.nil
              go_simp
              go_wp2_with (go_at_call 8; refine (HN.out _ (HT.out.below (by (repeat (first | (with_reducible first | exact Below.refl _ _ | assumption | refine Below.drew ?_) | ((with_reducible first | refine Below.alloc ?_ ?_ _ | refine Below.setCell ?_ ?_ _); rotate_left; (first | omega | (simp <;> omega)))))))).mono ?_; rintro e w1 ⟨rfl, hb⟩; have hbS := hb; have hbS1 := hb; have J1 := hide (show Below w.heap.size w w1 from Below.trans (by (repeat (first | (with_reducible first | exact Below.refl _ _ | assumption | refine Below.drew ?_) | ((with_reducible first | refine Below.alloc ?_ ?_ _ | refine Below.setCell ?_ ?_ _); rotate_left; (first | omega | (simp <;> omega)))))) (hb.mono (by first | omega | (simp <;> omega)))); have zJ1 := J1.out.size; (try simp at zJ1); have hbK := hide hb; clear hb)
              refine hK.out _ _ ?_ (fun hHeld => ?_)
              · (repeat (first | (with_reducible first | exact SB.refl | exact hHeld | refine SB.drew ?_ | refine SB.drewN ?_ _) | ((with_reducible first | refine SB.alloc ?_ ?_ _ | refine SB.below ?_ hbS ?_ | refine SB.below ?_ hbS1 ?_ | refine SB.below ?_ hbS2 ?_ | refine SB.below ?_ hbS3 ?_ | refine SB.below ?_ hbS4 ?_); rotate_left; (first | omega | (simp <;> omega))) | ((with_reducible refine SB.setCell ?_ ?_ _); rotate_left; (focus (first | (simp; done) | (right; first | omega | (simp <;> omega))))) | (with_reducible refine SB.undrew ?_) | ((with_reducible refine SB.congr ?_ ?_); rotate_left; (focus (simp; done))) | ((with_reducible refine SB.realloc ?_ ?_ ?_); rotate_left; (focus (simp; done)); (focus (simp; done)))))
              clear hK K
              (try simp only [Act.put, putA, putB, putC])
              refine ord_take (i := 30) (preB 31 1) ?_ rfl (by kernel_rfl) (by kernel_rfl) (by kernel_rfl) (by kernel_rfl) (fun _ _ _ h => h) hHeld (by rfl) (fun wx hSx => ?_) ?_
              rotate_left
              · (unfold SB at hSx; go_simp; (try with_reducible rfl))
              (try simp only [Act.put, putA, putB, putC])
              refine ord_take (i := 31) (preB 32 0) ?_ rfl (by kernel_rfl) (by kernel_rfl) (by kernel_rfl) (by kernel_rfl) (fun _ _ _ h => h) hHeld (by rfl) (fun wx hSx => ?_) ?_
              rotate_left
              · (unfold SB at hSx; go_simp; (try with_reducible rfl))
              (try simp only [Act.put, putA, putB, putC])
              refine wpAnyH_done (by kernel_rfl) ?_ _
              have hb := hbK.out
              have q1B : Below w.heap.size w w1 := (by refine Below.trans ?_ (hb.mono (by first | omega | (simp <;> omega))); (repeat (first | (with_reducible first | exact Below.refl _ _ | assumption | refine Below.drew ?_) | ((with_reducible first | refine Below.alloc ?_ ?_ _ | refine Below.setCell ?_ ?_ _); rotate_left; (first | omega | (simp <;> omega))))))
              have q1z := hb.size
              try simp at q1z
              have q1t : w.heap.size ≤ w1.heap.size := (by omega)
              have q1s0 : w.heap.size < w1.heap.size := (by omega)
              have q1n0_0 : ¬ w1.heap.size = w.heap.size := (by omega)
              have q1n0_1 : ¬ w1.heap.size + 1 = w.heap.size := (by omega)
              have q1n0_2 : ¬ w1.heap.size + 2 = w.heap.size := (by omega)
              have q1c0_17 := hb.cell (p := ⟨w.heap.size, 17, none⟩) (by first | omega | (simp <;> omega))
              simp [go_sem, *] at q1c0_17
              have q1c0_18 := hb.cell (p := ⟨w.heap.size, 18, none⟩) (by first | omega | (simp <;> omega))
              simp [go_sem, *] at q1c0_18
              have q1f0 := fun o => hb.frozen (p := ⟨w.heap.size, o, none⟩) (by first | omega | (simp <;> omega))
              simp [go_sem, *] at q1f0
              have q1s1 : w.heap.size + 1 < w1.heap.size := (by omega)
              have q1n1_0 : ¬ w1.heap.size = w.heap.size + 1 := (by omega)
              have q1n1_1 : ¬ w1.heap.size + 1 = w.heap.size + 1 := (by omega)
              have q1n1_2 : ¬ w1.heap.size + 2 = w.heap.size + 1 := (by omega)
              have q1c1_0 := hb.cell (p := ⟨w.heap.size + 1, 0, none⟩) (by first | omega | (simp <;> omega))
              simp [go_sem, *] at q1c1_0
              have q1c1_1 := hb.cell (p := ⟨w.heap.size + 1, 1, none⟩) (by first | omega | (simp <;> omega))
              simp [go_sem, *] at q1c1_1
              have q1c1_2 := hb.cell (p := ⟨w.heap.size + 1, 2, none⟩) (by first | omega | (simp <;> omega))
              simp [go_sem, *] at q1c1_2
              have q1c1_3 := hb.cell (p := ⟨w.heap.size + 1, 3, none⟩) (by first | omega | (simp <;> omega))
              simp [go_sem, *] at q1c1_3
              have q1c1_4 := hb.cell (p := ⟨w.heap.size + 1, 4, none⟩) (by first | omega | (simp <;> omega))
              simp [go_sem, *] at q1c1_4
              have q1c1_5 := hb.cell (p := ⟨w.heap.size + 1, 5, none⟩) (by first | omega | (simp <;> omega))
              simp [go_sem, *] at q1c1_5
              have q1c1_6 := hb.cell (p := ⟨w.heap.size + 1, 6, none⟩) (by first | omega | (simp <;> omega))
              simp [go_sem, *] at q1c1_6
              have q1f1 := fun o => hb.frozen (p := ⟨w.heap.size + 1, o, none⟩) (by first | omega | (simp <;> omega))
              simp [go_sem, *] at q1f1
              have q1o : ∀ b o, b < w.heap.size → w1.cell? ⟨b, o, none⟩ = w.cell? ⟨b, o, none⟩ := fun b o h => q1B.cell (p := ⟨b, o, none⟩) h
              clear hb
              have B1 := hide q1B
              have zB1 := q1B.size
              go_wp2_with fail
              refine (HCT.out _ (w.heap.size + 1) (HR.out.below (by refine q1B.trans ?_; (repeat (first | (with_reducible first | exact Below.refl _ _ | assumption | refine Below.drew ?_) | ((with_reducible first | refine Below.alloc ?_ ?_ _ | refine Below.setCell ?_ ?_ _); rotate_left; (first | omega | (simp <;> omega))))))) (by first | omega | (simp <;> omega)) (by simp [go_sem, *])).mono ?_
              rintro e w2 ⟨rfl, hb⟩
              have q2B : Below w1.heap.size w1 w2 := (by refine Below.trans ?_ (hb.mono (by first | omega | (simp <;> omega))); (repeat (first | (with_reducible first | exact Below.refl _ _ | assumption | refine Below.drew ?_) | ((with_reducible first | refine Below.alloc ?_ ?_ _ | refine Below.setCell ?_ ?_ _); rotate_left; (first | omega | (simp <;> omega))))))
              have q2z := hb.size
              try simp at q2z
              have q2t : w1.heap.size ≤ w2.heap.size := (by omega)
              have q2s0 : w.heap.size < w2.heap.size := (by omega)
              have q2n0_0 : ¬ w2.heap.size = w.heap.size := (by omega)
              have q2n0_1 : ¬ w2.heap.size + 1 = w.heap.size := (by omega)
              have q2n0_2 : ¬ w2.heap.size + 2 = w.heap.size := (by omega)
              have q2c0_17 := hb.cell (p := ⟨w.heap.size, 17, none⟩) (by first | omega | (simp <;> omega))
              simp [go_sem, *] at q2c0_17
              have q2c0_18 := hb.cell (p := ⟨w.heap.size, 18, none⟩) (by first | omega | (simp <;> omega))
              simp [go_sem, *] at q2c0_18
              have q2f0 := fun o => hb.frozen (p := ⟨w.heap.size, o, none⟩) (by first | omega | (simp <;> omega))
              simp [go_sem, *] at q2f0
              have q2s1 : w.heap.size + 1 < w2.heap.size := (by omega)
              have q2n1_0 : ¬ w2.heap.size = w.heap.size + 1 := (by omega)
              have q2n1_1 : ¬ w2.heap.size + 1 = w.heap.size + 1 := (by omega)
              have q2n1_2 : ¬ w2.heap.size + 2 = w.heap.size + 1 := (by omega)
              have q2c1_0 := hb.cell (p := ⟨w.heap.size + 1, 0, none⟩) (by first | omega | (simp <;> omega))
              simp [go_sem, *] at q2c1_0
              have q2c1_1 := hb.cell (p := ⟨w.heap.size + 1, 1, none⟩) (by first | omega | (simp <;> omega))
              simp [go_sem, *] at q2c1_1
              have q2c1_2 := hb.cell (p := ⟨w.heap.size + 1, 2, none⟩) (by first | omega | (simp <;> omega))
              simp [go_sem, *] at q2c1_2
              have q2c1_3 := hb.cell (p := ⟨w.heap.size + 1, 3, none⟩) (by first | omega | (simp <;> omega))
              simp [go_sem, *] at q2c1_3
              have q2c1_4 := hb.cell (p := ⟨w.heap.size + 1, 4, none⟩) (by first | omega | (simp <;> omega))
              simp [go_sem, *] at q2c1_4
              have q2c1_5 := hb.cell (p := ⟨w.heap.size + 1, 5, none⟩) (by first | omega | (simp <;> omega))
              simp [go_sem, *] at q2c1_5
              have q2c1_6 := hb.cell (p := ⟨w.heap.size + 1, 6, none⟩) (by first | omega | (simp <;> omega))
              simp [go_sem, *] at q2c1_6
              have q2f1 := fun o => hb.frozen (p := ⟨w.heap.size + 1, o, none⟩) (by first | omega | (simp <;> omega))
              simp [go_sem, *] at q2f1
              have q2o : ∀ b o, b < w1.heap.size → w2.cell? ⟨b, o, none⟩ = w1.cell? ⟨b, o, none⟩ := fun b o h => q2B.cell (p := ⟨b, o, none⟩) h
              clear hb q1o q1f1 q1c1_6 q1c1_5 q1c1_4 q1c1_3 q1c1_2 q1c1_1 q1c1_0 q1s1 q1f0 q1c0_18 q1c0_17 q1s0 q1z q1B
              cases gb with
              | true =>
                go_wp2_with fail
                go_ret
                exact ⟨by rw [alw_10 HOP.out HGB.out.symm]; rfl, B1.out.trans (q2B.mono (by omega))⟩
              | false =>
                have B2 := hide (B1.out.trans (q2B.mono (by omega)))
                go_wp2_with fail
                refine (HNM.out _).mono ?_
                rintro e w3 ⟨rfl, hb⟩
                have zB2 := B2.out.size
                have q3B : Below w2.heap.size w2 w3 := (by refine Below.trans ?_ (hb.mono (by first | omega | (simp <;> omega))); (repeat (first | (with_reducible first | exact Below.refl _ _ | assumption | refine Below.drew ?_) | ((with_reducible first | refine Below.alloc ?_ ?_ _ | refine Below.setCell ?_ ?_ _); rotate_left; (first | omega | (simp <;> omega))))))
                have q3z := hb.size
                try simp at q3z
                have q3t : w2.heap.size ≤ w3.heap.size := (by omega)
                have q3s0 : w.heap.size < w3.heap.size := (by omega)
                have q3n0_0 : ¬ w3.heap.size = w.heap.size := (by omega)
                have q3n0_1 : ¬ w3.heap.size + 1 = w.heap.size := (by omega)
                have q3n0_2 : ¬ w3.heap.size + 2 = w.heap.size := (by omega)
                have q3c0_17 := hb.cell (p := ⟨w.heap.size, 17, none⟩) (by first | omega | (simp <;> omega))
                simp [go_sem, *] at q3c0_17
                have q3c0_18 := hb.cell (p := ⟨w.heap.size, 18, none⟩) (by first | omega | (simp <;> omega))
                simp [go_sem, *] at q3c0_18
                have q3f0 := fun o => hb.frozen (p := ⟨w.heap.size, o, none⟩) (by first | omega | (simp <;> omega))
                simp [go_sem, *] at q3f0
                have q3s1 : w.heap.size + 1 < w3.heap.size := (by omega)
                have q3n1_0 : ¬ w3.heap.size = w.heap.size + 1 := (by omega)
                have q3n1_1 : ¬ w3.heap.size + 1 = w.heap.size + 1 := (by omega)
                have q3n1_2 : ¬ w3.heap.size + 2 = w.heap.size + 1 := (by omega)
                have q3c1_0 := hb.cell (p := ⟨w.heap.size + 1, 0, none⟩) (by first | omega | (simp <;> omega))
                simp [go_sem, *] at q3c1_0
                have q3c1_1 := hb.cell (p := ⟨w.heap.size + 1, 1, none⟩) (by first | omega | (simp <;> omega))
                simp [go_sem, *] at q3c1_1
                have q3c1_2 := hb.cell (p := ⟨w.heap.size + 1, 2, none⟩) (by first | omega | (simp <;> omega))
                simp [go_sem, *] at q3c1_2
                have q3c1_3 := hb.cell (p := ⟨w.heap.size + 1, 3, none⟩) (by first | omega | (simp <;> omega))
                simp [go_sem, *] at q3c1_3
                have q3c1_4 := hb.cell (p := ⟨w.heap.size + 1, 4, none⟩) (by first | omega | (simp <;> omega))
                simp [go_sem, *] at q3c1_4
                have q3c1_5 := hb.cell (p := ⟨w.heap.size + 1, 5, none⟩) (by first | omega | (simp <;> omega))
                simp [go_sem, *] at q3c1_5
                have q3c1_6 := hb.cell (p := ⟨w.heap.size + 1, 6, none⟩) (by first | omega | (simp <;> omega))
                simp [go_sem, *] at q3c1_6
                have q3f1 := fun o => hb.frozen (p := ⟨w.heap.size + 1, o, none⟩) (by first | omega | (simp <;> omega))
                simp [go_sem, *] at q3f1
                have q3o : ∀ b o, b < w2.heap.size → w3.cell? ⟨b, o, none⟩ = w2.cell? ⟨b, o, none⟩ := fun b o h => q3B.cell (p := ⟨b, o, none⟩) h
                clear hb q2o q2f1 q2c1_6 q2c1_5 q2c1_4 q2c1_3 q2c1_2 q2c1_1 q2c1_0 q2s1 q2f0 q2c0_18 q2c0_17 q2s0 q2z q2B
                have B3 := hide (B2.out.trans (q3B.mono (by omega)))
                cases mb with
                | false =>
                  go_wp2_with fail
                  go_ret
                  exact ⟨by rw [alw_own HOP.out HGB.out.symm (by rw [own_4 HMB.out.symm]; decide), own_4 HMB.out.symm]; rfl, B3.out⟩
                | true =>
                  go_wp2_with fail
                  refine (HCA.out _ (HP.out.below (B3.out.trans (by (repeat (first | (with_reducible first | exact Below.refl _ _ | assumption | refine Below.drew ?_) | ((with_reducible first | refine Below.alloc ?_ ?_ _ | refine Below.setCell ?_ ?_ _); rotate_left; (first | omega | (simp <;> omega))))))))).mono ?_
                  rintro e w4 ⟨C, b, rfl, hs4, h14, ho4, hb⟩
                  have HH := hide (And.intro hs4 h14)
                  have HOO := hide (cat_some ho4)
                  clear hs4 h14 ho4
                  have zB3 := B3.out.size
                  have q4B : Below w3.heap.size w3 w4 := (by refine Below.trans ?_ (hb.mono (by first | omega | (simp <;> omega))); (repeat (first | (with_reducible first | exact Below.refl _ _ | assumption | refine Below.drew ?_) | ((with_reducible first | refine Below.alloc ?_ ?_ _ | refine Below.setCell ?_ ?_ _); rotate_left; (first | omega | (simp <;> omega))))))
                  have q4z := hb.size
                  try simp at q4z
                  have q4t : w3.heap.size ≤ w4.heap.size := (by omega)
                  have q4s0 : w.heap.size < w4.heap.size := (by omega)
                  have q4n0_0 : ¬ w4.heap.size = w.heap.size := (by omega)
                  have q4n0_1 : ¬ w4.heap.size + 1 = w.heap.size := (by omega)
                  have q4n0_2 : ¬ w4.heap.size + 2 = w.heap.size := (by omega)
                  have q4c0_17 := hb.cell (p := ⟨w.heap.size, 17, none⟩) (by first | omega | (simp <;> omega))
                  simp [go_sem, *] at q4c0_17
                  have q4c0_18 := hb.cell (p := ⟨w.heap.size, 18, none⟩) (by first | omega | (simp <;> omega))
                  simp [go_sem, *] at q4c0_18
                  have q4f0 := fun o => hb.frozen (p := ⟨w.heap.size, o, none⟩) (by first | omega | (simp <;> omega))
                  simp [go_sem, *] at q4f0
                  have q4o : ∀ b o, b < w3.heap.size → w4.cell? ⟨b, o, none⟩ = w3.cell? ⟨b, o, none⟩ := fun b o h => q4B.cell (p := ⟨b, o, none⟩) h
                  clear hb q3o q3f1 q3c1_6 q3c1_5 q3c1_4 q3c1_3 q3c1_2 q3c1_1 q3c1_0 q3s1 q3f0 q3c0_18 q3c0_17 q3s0 q3z q3B
                  have B4 := hide (B3.out.trans (q4B.mono (by omega)))
                  cases b with
                  | false =>
                    go_wp2_with (first
                      | (with_reducible refine wpList_alloc_row rfl 53 rfl (some 4) rfl i0 HI.out.1 Z HI.out.2 w4.heap.size rfl ?_)
                      | ((with_reducible refine wpList_store_newrow2 rfl 53 (.tmp 4) (.tmp 58) rfl rfl w4.heap.size C rfl rfl 53 Z (blk_new rfl) (pz_size HH.out.1) (by rw [HZ1.out, HH.out.1]) HH.out.2 ?_); intro w5 hb5 hs5 hx5 hk5))
                    have B5 := hide (B4.out.trans ((show Below w4.heap.size w4 w5 from Below.trans (by (repeat (first | (with_reducible first | exact Below.refl _ _ | assumption | refine Below.drew ?_) | ((with_reducible first | refine Below.alloc ?_ ?_ _ | refine Below.setCell ?_ ?_ _); rotate_left; (first | omega | (simp <;> omega)))))) hb5).mono (by omega)))
                    clear hb5 hs5 hx5 hk5
                    go_wp2_with fail
                    go_ret
                    exact ⟨by rw [alw_own HOP.out HGB.out.symm (by rw [own_11 HMB.out.symm HOO.out]; decide), own_11 HMB.out.symm HOO.out]; rfl, B5.out⟩
                  | true =>
                    by_cases g6 : an < 64
                    · have d6 : decide ((64 : Int) ≤ an) = false := decide_eq_false (by omega)
                      have HG6 := hide g6
                      clear g6
                      go_wp2_with (first
                        | (with_reducible refine wpList_alloc_row rfl 53 rfl (some 4) rfl i0 HI.out.1 Z HI.out.2 w4.heap.size rfl ?_)
                        | ((with_reducible refine wpList_store_newrow2 rfl 53 (.tmp 4) (.tmp 58) rfl rfl w4.heap.size C rfl rfl 53 Z (blk_new rfl) (pz_size HH.out.1) (by rw [HZ1.out, HH.out.1]) HH.out.2 ?_); intro w5 hb5 hs5 hx5 hk5; have hb := (show Below w4.heap.size w4 w5 from Below.trans (by (repeat (first | (with_reducible first | exact Below.refl _ _ | assumption | refine Below.drew ?_) | ((with_reducible first | refine Below.alloc ?_ ?_ _ | refine Below.setCell ?_ ?_ _); rotate_left; (first | omega | (simp <;> omega)))))) hb5); clear hb5 hs5 hx5 hk5; have q5B : Below w4.heap.size w4 w5 := (by refine Below.trans ?_ (hb.mono (by first | omega | (simp <;> omega))); (repeat (first | (with_reducible first | exact Below.refl _ _ | assumption | refine Below.drew ?_) | ((with_reducible first | refine Below.alloc ?_ ?_ _ | refine Below.setCell ?_ ?_ _); rotate_left; (first | omega | (simp <;> omega)))))); have q5z := hb.size; (try simp at q5z); have q5t : w4.heap.size ≤ w5.heap.size := (by omega); have q5s0 : w.heap.size < w5.heap.size := (by omega); have q5n0_0 : ¬ w5.heap.size = w.heap.size := (by omega); have q5n0_1 : ¬ w5.heap.size + 1 = w.heap.size := (by omega); have q5n0_2 : ¬ w5.heap.size + 2 = w.heap.size := (by omega); have q5c0_17 := hb.cell (p := ⟨w.heap.size, 17, none⟩) (by first | omega | (simp <;> omega)); simp [go_sem, *] at q5c0_17; have q5c0_18 := hb.cell (p := ⟨w.heap.size, 18, none⟩) (by first | omega | (simp <;> omega)); simp [go_sem, *] at q5c0_18; have q5f0 := fun o => hb.frozen (p := ⟨w.heap.size, o, none⟩) (by first | omega | (simp <;> omega)); simp [go_sem, *] at q5f0; have q5o : ∀ b o, b < w4.heap.size → w5.cell? ⟨b, o, none⟩ = w4.cell? ⟨b, o, none⟩ := fun b o h => q5B.cell (p := ⟨b, o, none⟩) h; have hbS := hb; have hbS5 := hb; clear hb))
                      have B5 := hide (B4.out.trans (q5B.mono (by omega)))
                      go_ret
                      exact ⟨by rw [alw_len HOP.out HGB.out.symm (own_0 HMB.out.symm HOO.out), if_neg (by have := HG6.out; omega)]; rfl, B5.out⟩
                    · have d6 : decide ((64 : Int) ≤ an) = true := decide_eq_true (by omega)
                      have HG6 := hide g6
                      clear g6
                      go_wp2_with (first
                        | (with_reducible refine wpList_alloc_row rfl 53 rfl (some 4) rfl i0 HI.out.1 Z HI.out.2 w4.heap.size rfl ?_)
                        | ((with_reducible refine wpList_store_newrow2 rfl 53 (.tmp 4) (.tmp 58) rfl rfl w4.heap.size C rfl rfl 53 Z (blk_new rfl) (pz_size HH.out.1) (by rw [HZ1.out, HH.out.1]) HH.out.2 ?_); intro w5 hb5 hs5 hx5 hk5; have hb := (show Below w4.heap.size w4 w5 from Below.trans (by (repeat (first | (with_reducible first | exact Below.refl _ _ | assumption | refine Below.drew ?_) | ((with_reducible first | refine Below.alloc ?_ ?_ _ | refine Below.setCell ?_ ?_ _); rotate_left; (first | omega | (simp <;> omega)))))) hb5); clear hb5 hs5 hx5 hk5; have q5B : Below w4.heap.size w4 w5 := (by refine Below.trans ?_ (hb.mono (by first | omega | (simp <;> omega))); (repeat (first | (with_reducible first | exact Below.refl _ _ | assumption | refine Below.drew ?_) | ((with_reducible first | refine Below.alloc ?_ ?_ _ | refine Below.setCell ?_ ?_ _); rotate_left; (first | omega | (simp <;> omega)))))); have q5z := hb.size; (try simp at q5z); have q5t : w4.heap.size ≤ w5.heap.size := (by omega); have q5s0 : w.heap.size < w5.heap.size := (by omega); have q5n0_0 : ¬ w5.heap.size = w.heap.size := (by omega); have q5n0_1 : ¬ w5.heap.size + 1 = w.heap.size := (by omega); have q5n0_2 : ¬ w5.heap.size + 2 = w.heap.size := (by omega); have q5c0_17 := hb.cell (p := ⟨w.heap.size, 17, none⟩) (by first | omega | (simp <;> omega)); simp [go_sem, *] at q5c0_17; have q5c0_18 := hb.cell (p := ⟨w.heap.size, 18, none⟩) (by first | omega | (simp <;> omega)); simp [go_sem, *] at q5c0_18; have q5f0 := fun o => hb.frozen (p := ⟨w.heap.size, o, none⟩) (by first | omega | (simp <;> omega)); simp [go_sem, *] at q5f0; have q5o : ∀ b o, b < w4.heap.size → w5.cell? ⟨b, o, none⟩ = w4.cell? ⟨b, o, none⟩ := fun b o h => q5B.cell (p := ⟨b, o, none⟩) h; have hbS := hb; have hbS5 := hb; clear hb))
                      have B5 := hide (B4.out.trans (q5B.mono (by omega)))
                      go_ret
                      exact ⟨by rw [alw_len HOP.out HGB.out.symm (own_0 HMB.out.symm HOO.out), if_pos (by have := HG6.out; omega)]; rfl, B5.out⟩
    · have d2 : decide (99999999 < i) = true := decide_eq_true (by omega)
      have HOB := hide (show ob = false from by rw [hob]; exact decide_eq_false (fun h => g2 h.2))
      clear hob g1 g2
      refine ord_start (SB (w.heap.size + 2) [] _) 32 (preB 0 32) (by kernel_rfl) (by kernel_rfl) (by kernel_rfl) SB.refl.drew (fun hHeld => ?_)
      refine ord_take (i := 0) (preB 1 31) ?_ rfl (by kernel_rfl) (by kernel_rfl) (by kernel_rfl) (by kernel_rfl) (fun _ _ _ h => h) hHeld (by rfl) (fun wx hSx => ?_) ?_
      rotate_left
      · (unfold SB at hSx; go_simp; (try with_reducible rfl))
      (try simp only [Act.put, putA, putB, putC])
      refine ord_take (i := 1) (preB 2 30) ?_ rfl (by kernel_rfl) (by kernel_rfl) (by kernel_rfl) (by kernel_rfl) (fun _ _ _ h => h) hHeld (by rfl) (fun wx hSx => ?_) ?_
      rotate_left
      · (unfold SB at hSx; go_simp; (try with_reducible rfl))
      (try simp only [Act.put, putA, putB, putC])
      refine ord_take (i := 2) (preB 3 29) ?_ rfl (by kernel_rfl) (by kernel_rfl) (by kernel_rfl) (by kernel_rfl) (fun _ _ _ h => h) hHeld (by rfl) (fun wx hSx => ?_) ?_
      rotate_left
      · (unfold SB at hSx; go_simp; (try with_reducible rfl))
      (try simp only [Act.put, putA, putB, putC])
      refine ord_take (i := 3) (preB 4 28) ?_ rfl (by kernel_rfl) (by kernel_rfl) (by kernel_rfl) (by kernel_rfl) (fun _ _ _ h => h) hHeld (by rfl) (fun wx hSx => ?_) ?_
      rotate_left
      · (unfold SB at hSx; go_simp; (try with_reducible rfl))
      (try simp only [Act.put, putA, putB, putC])
      refine ord_take (i := 4) (preB 5 27) ?_ rfl (by kernel_rfl) (by kernel_rfl) (by kernel_rfl) (by kernel_rfl) (fun _ _ _ h => h) hHeld (by rfl) (fun wx hSx => ?_) ?_
      rotate_left
      · (unfold SB at hSx; go_simp; (try with_reducible rfl))
      (try simp only [Act.put, putA, putB, putC])
      refine ord_take (i := 5) (preB 6 26) ?_ rfl (by kernel_rfl) (by kernel_rfl) (by kernel_rfl) (by kernel_rfl) (fun _ _ _ h => h) hHeld (by rfl) (fun wx hSx => ?_) ?_
      rotate_left
      · (unfold SB at hSx; go_simp; (try with_reducible rfl))
      (try simp only [Act.put, putA, putB, putC])
      refine ord_take (i := 6) (preB 7 25) ?_ rfl (by kernel_rfl) (by kernel_rfl) (by kernel_rfl) (by kernel_rfl) (fun _ _ _ h => h) hHeld (by rfl) (fun wx hSx => ?_) ?_
      rotate_left
      · (unfold SB at hSx; go_simp; (try with_reducible rfl))
      (try simp only [Act.put, putA, putB, putC])
      refine ord_take (i := 7) (preB 8 24) ?_ rfl (by kernel_rfl) (by kernel_rfl) (by kernel_rfl) (by kernel_rfl) (fun _ _ _ h => h) hHeld (by rfl) (fun wx hSx => ?_) ?_
      rotate_left
      · (unfold SB at hSx; go_simp; (try with_reducible rfl))
      (try simp only [Act.put, putA, putB, putC])
      refine ord_take (i := 8) (preB 9 23) ?_ rfl (by kernel_rfl) (by kernel_rfl) (by kernel_rfl) (by kernel_rfl) (fun _ _ _ h => h) hHeld (by rfl) (fun wx hSx => ?_) ?_
      rotate_left
      · (unfold SB at hSx; go_simp; (try with_reducible rfl))
      (try simp only [Act.put, putA, putB, putC])
      refine ord_skip (i := 9) (preB 10 22) rfl (by kernel_rfl) (by kernel_rfl) (by kernel_rfl) (by kernel_rfl) (fun _ _ _ h => h) hHeld (by rfl) ?_
      (try simp only [Act.put, putA, putB, putC])
      refine ord_skip (i := 10) (preB 11 21) rfl (by kernel_rfl) (by kernel_rfl) (by kernel_rfl) (by kernel_rfl) (fun _ _ _ h => h) hHeld (by rfl) ?_
      (try simp only [Act.put, putA, putB, putC])
      refine ord_skip (i := 11) (preB 12 20) rfl (by kernel_rfl) (by kernel_rfl) (by kernel_rfl) (by kernel_rfl) (fun _ _ _ h => h) hHeld (by rfl) ?_
      (try simp only [Act.put, putA, putB, putC])
      refine ord_skip (i := 12) (preB 13 19) rfl (by kernel_rfl) (by kernel_rfl) (by kernel_rfl) (by kernel_rfl) (fun _ _ _ h => h) hHeld (by rfl) ?_
      (try simp only [Act.put, putA, putB, putC])
      refine ord_take (i := 13) (preB 14 18) ?_ rfl (by kernel_rfl) (by kernel_rfl) (by kernel_rfl) (by kernel_rfl) (fun _ _ _ h => h) hHeld (by rfl) (fun wx hSx => ?_) ?_
      rotate_left
      · (unfold SB at hSx; go_simp; (try with_reducible rfl))
      (try simp only [Act.put, putA, putB, putC])
      refine ord_take (i := 14) (preB 15 17) ?_ rfl (by kernel_rfl) (by kernel_rfl) (by kernel_rfl) (by kernel_rfl) (fun _ _ _ h => h) hHeld (by rfl) (fun wx hSx => ?_) ?_
      rotate_left
      · (unfold SB at hSx; go_simp; (try with_reducible rfl))
      (try simp only [Act.put, putA, putB, putC])
      refine ord_skip (i := 15) (preB 16 16) rfl (by kernel_rfl) (by kernel_rfl) (by kernel_rfl) (by kernel_rfl) (fun _ _ _ h => h) hHeld (by rfl) ?_
      (try simp only [Act.put, putA, putB, putC])
      refine ord_skip (i := 16) (preB 17 15) rfl (by kernel_rfl) (by kernel_rfl) (by kernel_rfl) (by kernel_rfl) (fun _ _ _ h => h) hHeld (by rfl) ?_
      (try simp only [Act.put, putA, putB, putC])
      refine ord_skip (i := 17) (preB 18 14) rfl (by kernel_rfl) (by kernel_rfl) (by kernel_rfl) (by kernel_rfl) (fun _ _ _ h => h) hHeld (by rfl) ?_
      (try simp only [Act.put, putA, putB, putC])
      refine ord_take (i := 18) (preB 19 13) ?_ rfl (by kernel_rfl) (by kernel_rfl) (by kernel_rfl) (by kernel_rfl) (fun _ _ _ h => h) hHeld (by rfl) (fun wx hSx => ?_) ?_
      rotate_left
      · (unfold SB at hSx; go_simp; (try with_reducible rfl))
      (try simp only [Act.put, putA, putB, putC])
      refine ord_take (i := 19) (preB 20 12) ?_ rfl (by kernel_rfl) (by kernel_rfl) (by kernel_rfl) (by kernel_rfl) (fun _ _ _ h => h) hHeld (by rfl) (fun wx hSx => ?_) ?_
      rotate_left
      · (unfold SB at hSx; go_simp; (try with_reducible rfl))
      (try simp only [Act.put, putA, putB, putC])
      refine ord_skip (i := 20) (preB 21 11) rfl (by kernel_rfl) (by kernel_rfl) (by kernel_rfl) (by kernel_rfl) (fun _ _ _ h => h) hHeld (by rfl) ?_
      (try simp only [Act.put, putA, putB, putC])
      refine ord_skip (i := 21) (preB 22 10) rfl (by kernel_rfl) (by kernel_rfl) (by kernel_rfl) (by kernel_rfl) (fun _ _ _ h => h) hHeld (by rfl) ?_
      (try simp only [Act.put, putA, putB, putC])
      refine ord_skip (i := 22) (preB 23 9) rfl (by kernel_rfl) (by kernel_rfl) (by kernel_rfl) (by kernel_rfl) (fun _ _ _ h => h) hHeld (by rfl) ?_
      (try simp only [Act.put, putA, putB, putC])
      refine ord_take (i := 23) (preB 24 8) ?_ rfl (by kernel_rfl) (by kernel_rfl) (by kernel_rfl) (by kernel_rfl) (fun _ _ _ h => h) hHeld (by rfl) (fun wx hSx => ?_) ?_
      rotate_left
      · (unfold SB at hSx; go_simp; (try with_reducible rfl))
      (try simp only [Act.put, putA, putB, putC])
      refine ord_take (i := 24) (preB 25 7) ?_ rfl (by kernel_rfl) (by kernel_rfl) (by kernel_rfl) (by kernel_rfl) (fun _ _ _ h => h) hHeld (by rfl) (fun wx hSx => ?_) ?_
      rotate_left
      · (unfold SB at hSx; go_simp; (try with_reducible rfl))
      (try simp only [Act.put, putA, putB, putC])
      refine ord_skip (i := 25) (preB 26 6) rfl (by kernel_rfl) (by kernel_rfl) (by kernel_rfl) (by kernel_rfl) (fun _ _ _ h => h) hHeld (by rfl) ?_
      (try simp only [Act.put, putA, putB, putC])
      refine ord_skip (i := 26) (preB 27 5) rfl (by kernel_rfl) (by kernel_rfl) (by kernel_rfl) (by kernel_rfl) (fun _ _ _ h => h) hHeld (by rfl) ?_
      (try simp only [Act.put, putA, putB, putC])
      refine ord_skip (i := 27) (preB 28 4) rfl (by kernel_rfl) (by kernel_rfl) (by kernel_rfl) (by kernel_rfl) (fun _ _ _ h => h) hHeld (by rfl) ?_
      (try simp only [Act.put, putA, putB, putC])
      refine ord_skip (i := 28) (preB 29 3) rfl (by kernel_rfl) (by kernel_rfl) (by kernel_rfl) (by kernel_rfl) (fun _ _ _ h => h) hHeld (by rfl) ?_
      (try simp only [Act.put, putA, putB, putC])
      refine ord_skip (i := 29) (preB 30 2) rfl (by kernel_rfl) (by kernel_rfl) (by kernel_rfl) (by kernel_rfl) (fun _ _ _ h => h) hHeld (by rfl) ?_
      (try simp only [Act.put, putA, putB, putC])
      refine ord_skip (i := 30) (preB 31 1) rfl (by kernel_rfl) (by kernel_rfl) (by kernel_rfl) (by kernel_rfl) (fun _ _ _ h => h) hHeld (by rfl) ?_
      (try simp only [Act.put, putA, putB, putC])
      refine ord_take (i := 31) (preB 32 0) ?_ rfl (by kernel_rfl) (by kernel_rfl) (by kernel_rfl) (by kernel_rfl) (fun _ _ _ h => h) hHeld (by rfl) (fun wx hSx => ?_) ?_
      rotate_left
      · (unfold SB at hSx; go_simp; (try with_reducible rfl))
      (try simp only [Act.put, putA, putB, putC])
      refine wpAnyH_done (by kernel_rfl) ?_ _
      go_wp2_with fail
      go_ret
      exact ⟨by rw [alw_1 (by rw [HVAL.out, HOB.out]; (try cases ob) <;> (try cases vo) <;> (try cases nb) <;> simp)]; rfl, by (repeat (first | (with_reducible first | exact Below.refl _ _ | assumption | refine Below.drew ?_) | ((with_reducible first | refine Below.alloc ?_ ?_ _ | refine Below.setCell ?_ ?_ _); rotate_left; (first | omega | (simp <;> omega)))))⟩
  · have d1 : decide (i < 1000) = true := decide_eq_true (by omega)
    have HOB := hide (show ob = false from by rw [hob]; exact decide_eq_false (fun h => g1 h.1))
    clear hob g1
    refine ord_start (SB (w.heap.size + 2) [] _) 32 (preB 0 32) (by kernel_rfl) (by kernel_rfl) (by kernel_rfl) SB.refl.drew (fun hHeld => ?_)
    refine ord_take (i := 0) (preB 1 31) ?_ rfl (by kernel_rfl) (by kernel_rfl) (by kernel_rfl) (by kernel_rfl) (fun _ _ _ h => h) hHeld (by rfl) (fun wx hSx => ?_) ?_
    rotate_left
    · (unfold SB at hSx; go_simp; (try with_reducible rfl))
    (try simp only [Act.put, putA, putB, putC])
    refine ord_take (i := 1) (preB 2 30) ?_ rfl (by kernel_rfl) (by kernel_rfl) (by kernel_rfl) (by kernel_rfl) (fun _ _ _ h => h) hHeld (by rfl) (fun wx hSx => ?_) ?_
    rotate_left
    · (unfold SB at hSx; go_simp; (try with_reducible rfl))
    (try simp only [Act.put, putA, putB, putC])
    refine ord_take (i := 2) (preB 3 29) ?_ rfl (by kernel_rfl) (by kernel_rfl) (by kernel_rfl) (by kernel_rfl) (fun _ _ _ h => h) hHeld (by rfl) (fun wx hSx => ?_) ?_
    rotate_left
    · (unfold SB at hSx; go_simp; (try with_reducible rfl))
    (try simp only [Act.put, putA, putB, putC])
    refine ord_take (i := 3) (preB 4 28) ?_ rfl (by kernel_rfl) (by kernel_rfl) (by kernel_rfl) (by kernel_rfl) (fun _ _ _ h => h) hHeld (by rfl) (fun wx hSx => ?_) ?_
    rotate_left
    · (unfold SB at hSx; go_simp; (try with_reducible rfl))
    (try simp only [Act.put, putA, putB, putC])
    refine ord_skip (i := 4) (preB 5 27) rfl (by kernel_rfl) (by kernel_rfl) (by kernel_rfl) (by kernel_rfl) (fun _ _ _ h => h) hHeld (by rfl) ?_
    (try simp only [Act.put, putA, putB, putC])
    refine ord_skip (i := 5) (preB 6 26) rfl (by kernel_rfl) (by kernel_rfl) (by kernel_rfl) (by kernel_rfl) (fun _ _ _ h => h) hHeld (by rfl) ?_
    (try simp only [Act.put, putA, putB, putC])
    refine ord_skip (i := 6) (preB 7 25) rfl (by kernel_rfl) (by kernel_rfl) (by kernel_rfl) (by kernel_rfl) (fun _ _ _ h => h) hHeld (by rfl) ?_
    (try simp only [Act.put, putA, putB, putC])
    refine ord_take (i := 7) (preB 8 24) ?_ rfl (by kernel_rfl) (by kernel_rfl) (by kernel_rfl) (by kernel_rfl) (fun _ _ _ h => h) hHeld (by rfl) (fun wx hSx => ?_) ?_
    rotate_left
    · (unfold SB at hSx; go_simp; (try with_reducible rfl))
    (try simp only [Act.put, putA, putB, putC])
    refine ord_take (i := 8) (preB 9 23) ?_ rfl (by kernel_rfl) (by kernel_rfl) (by kernel_rfl) (by kernel_rfl) (fun _ _ _ h => h) hHeld (by rfl) (fun wx hSx => ?_) ?_
    rotate_left
    · (unfold SB at hSx; go_simp; (try with_reducible rfl))
    (try simp only [Act.put, putA, putB, putC])
    refine ord_skip (i := 9) (preB 10 22) rfl (by kernel_rfl) (by kernel_rfl) (by kernel_rfl) (by kernel_rfl) (fun _ _ _ h => h) hHeld (by rfl) ?_
    (try simp only [Act.put, putA, putB, putC])
    refine ord_skip (i := 10) (preB 11 21) rfl (by kernel_rfl) (by kernel_rfl) (by kernel_rfl) (by kernel_rfl) (fun _ _ _ h => h) hHeld (by rfl) ?_
    (try simp only [Act.put, putA, putB, putC])
    refine ord_skip (i := 11) (preB 12 20) rfl (by kernel_rfl) (by kernel_rfl) (by kernel_rfl) (by kernel_rfl) (fun _ _ _ h => h) hHeld (by rfl) ?_
    (try simp only [Act.put, putA, putB, putC])
    refine ord_skip (i := 12) (preB 13 19) rfl (by kernel_rfl) (by kernel_rfl) (by kernel_rfl) (by kernel_rfl) (fun _ _ _ h => h) hHeld (by rfl) ?_
    (try simp only [Act.put, putA, putB, putC])
    refine ord_take (i := 13) (preB 14 18) ?_ rfl (by kernel_rfl) (by kernel_rfl) (by kernel_rfl) (by kernel_rfl) (fun _ _ _ h => h) hHeld (by rfl) (fun wx hSx => ?_) ?_
    rotate_left
    · (unfold SB at hSx; go_simp; (try with_reducible rfl))
    (try simp only [Act.put, putA, putB, putC])
    refine ord_take (i := 14) (preB 15 17) ?_ rfl (by kernel_rfl) (by kernel_rfl) (by kernel_rfl) (by kernel_rfl) (fun _ _ _ h => h) hHeld (by rfl) (fun wx hSx => ?_) ?_
    rotate_left
    · (unfold SB at hSx; go_simp; (try with_reducible rfl))
    (try simp only [Act.put, putA, putB, putC])
    refine ord_skip (i := 15) (preB 16 16) rfl (by kernel_rfl) (by kernel_rfl) (by kernel_rfl) (by kernel_rfl) (fun _ _ _ h => h) hHeld (by rfl) ?_
    (try simp only [Act.put, putA, putB, putC])
    refine ord_skip (i := 16) (preB 17 15) rfl (by kernel_rfl) (by kernel_rfl) (by kernel_rfl) (by kernel_rfl) (fun _ _ _ h => h) hHeld (by rfl) ?_
    (try simp only [Act.put, putA, putB, putC])
    refine ord_skip (i := 17) (preB 18 14) rfl (by kernel_rfl) (by kernel_rfl) (by kernel_rfl) (by kernel_rfl) (fun _ _ _ h => h) hHeld (by rfl) ?_
    (try simp only [Act.put, putA, putB, putC])
    refine ord_take (i := 18) (preB 19 13) ?_ rfl (by kernel_rfl) (by kernel_rfl) (by kernel_rfl) (by kernel_rfl) (fun _ _ _ h => h) hHeld (by rfl) (fun wx hSx => ?_) ?_
    rotate_left
    · (unfold SB at hSx; go_simp; (try with_reducible rfl))
    (try simp only [Act.put, putA, putB, putC])
    refine ord_take (i := 19) (preB 20 12) ?_ rfl (by kernel_rfl) (by kernel_rfl) (by kernel_rfl) (by kernel_rfl) (fun _ _ _ h => h) hHeld (by rfl) (fun wx hSx => ?_) ?_
    rotate_left
    · (unfold SB at hSx; go_simp; (try with_reducible rfl))
    (try simp only [Act.put, putA, putB, putC])
    refine ord_skip (i := 20) (preB 21 11) rfl (by kernel_rfl) (by kernel_rfl) (by kernel_rfl) (by kernel_rfl) (fun _ _ _ h => h) hHeld (by rfl) ?_
    (try simp only [Act.put, putA, putB, putC])
    refine ord_skip (i := 21) (preB 22 10) rfl (by kernel_rfl) (by kernel_rfl) (by kernel_rfl) (by kernel_rfl) (fun _ _ _ h => h) hHeld (by rfl) ?_
    (try simp only [Act.put, putA, putB, putC])
    refine ord_skip (i := 22) (preB 23 9) rfl (by kernel_rfl) (by kernel_rfl) (by kernel_rfl) (by kernel_rfl) (fun _ _ _ h => h) hHeld (by rfl) ?_
    (try simp only [Act.put, putA, putB, putC])
    refine ord_take (i := 23) (preB 24 8) ?_ rfl (by kernel_rfl) (by kernel_rfl) (by kernel_rfl) (by kernel_rfl) (fun _ _ _ h => h) hHeld (by rfl) (fun wx hSx => ?_) ?_
    rotate_left
    · (unfold SB at hSx; go_simp; (try with_reducible rfl))
    (try simp only [Act.put, putA, putB, putC])
    refine ord_take (i := 24) (preB 25 7) ?_ rfl (by kernel_rfl) (by kernel_rfl) (by kernel_rfl) (by kernel_rfl) (fun _ _ _ h => h) hHeld (by rfl) (fun wx hSx => ?_) ?_
    rotate_left
    · (unfold SB at hSx; go_simp; (try with_reducible rfl))
    (try simp only [Act.put, putA, putB, putC])
    refine ord_skip (i := 25) (preB 26 6) rfl (by kernel_rfl) (by kernel_rfl) (by kernel_rfl) (by kernel_rfl) (fun _ _ _ h => h) hHeld (by rfl) ?_
    (try simp only [Act.put, putA, putB, putC])
    refine ord_skip (i := 26) (preB 27 5) rfl (by kernel_rfl) (by kernel_rfl) (by kernel_rfl) (by kernel_rfl) (fun _ _ _ h => h) hHeld (by rfl) ?_
    (try simp only [Act.put, putA, putB, putC])
    refine ord_skip (i := 27) (preB 28 4) rfl (by kernel_rfl) (by kernel_rfl) (by kernel_rfl) (by kernel_rfl) (fun _ _ _ h => h) hHeld (by rfl) ?_
    (try simp only [Act.put, putA, putB, putC])
    refine ord_skip (i := 28) (preB 29 3) rfl (by kernel_rfl) (by kernel_rfl) (by kernel_rfl) (by kernel_rfl) (fun _ _ _ h => h) hHeld (by rfl) ?_
    (try simp only [Act.put, putA, putB, putC])
    refine ord_skip (i := 29) (preB 30 2) rfl (by kernel_rfl) (by kernel_rfl) (by kernel_rfl) (by kernel_rfl) (fun _ _ _ h => h) hHeld (by rfl) ?_
    (try simp only [Act.put, putA, putB, putC])
    refine ord_skip (i := 30) (preB 31 1) rfl (by kernel_rfl) (by kernel_rfl) (by kernel_rfl) (by kernel_rfl) (fun _ _ _ h => h) hHeld (by rfl) ?_
    (try simp only [Act.put, putA, putB, putC])
    refine ord_take (i := 31) (preB 32 0) ?_ rfl (by kernel_rfl) (by kernel_rfl) (by kernel_rfl) (by kernel_rfl) (fun _ _ _ h => h) hHeld (by rfl) (fun wx hSx => ?_) ?_
    rotate_left
    · (unfold SB at hSx; go_simp; (try with_reducible rfl))
    (try simp only [Act.put, putA, putB, putC])
    refine wpAnyH_done (by kernel_rfl) ?_ _
    go_wp2_with fail
    go_ret
    exact ⟨by rw [alw_1 (by rw [HVAL.out, HOB.out]; (try cases ob) <;> (try cases vo) <;> (try cases nb) <;> simp)]; rfl, by (repeat (first | (with_reducible first | exact Below.refl _ _ | assumption | refine Below.drew ?_) | ((with_reducible first | refine Below.alloc ?_ ?_ _ | refine Below.setCell ?_ ?_ _); rotate_left; (first | omega | (simp <;> omega)))))⟩
end Go.Proofs.YtdjhkhadjmndoaaDoor
