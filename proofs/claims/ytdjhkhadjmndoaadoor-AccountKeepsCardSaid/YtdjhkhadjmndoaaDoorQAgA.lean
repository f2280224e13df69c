/- Texts laid together: AgA. -/
import Derived.Test.YtdjhkhadjmndoaaDoorQNuA
import Derived.Test.YtdjhkhadjmndoaaDoorQStA
namespace Go.Proofs.YtdjhkhadjmndoaaDoor
set_option maxRecDepth 4000
set_option linter.unusedSimpArgs false
set_option linter.unusedVariables false
open Go.RowKit
def vday (day : Int) : Bool := decide (0 ≤ day ∧ day ≤ 73048)
/-- The number of an account is its own. -/
def nuB (x : LAcc) : Bool := x.nu.toList == (⟨(numI x.id).toArray⟩ : ByteArray).toList
def shB (x : LAcc) : Bool := okId x.id && (vday x.op && nuB x)
def clB (x : LAcc) : Bool := x.cl == 0 || (vday x.cl && decide (x.op ≤ x.cl))
def exB (x : LAcc) : Bool := decide (0 ≤ x.ex ∧ x.ex ≤ 1000000000000)
def rightB (x : LAcc) : Bool := shB x && (clB x && exB x)
/-- An account's cells. -/
def accA (x : LAcc) : Array Value := #[.int .i64 x.id, .int .i64 x.op, .int .i64 x.cl, .int .i64 x.ex, .string x.ow, .string x.pr, .string x.nu]
theorem valid_any (day : Int) (w : World) :
    Calls Tryd.prog 47 #[.int .i64 day] w fun e w' => e = .returned (.bool (vday day)) ∧ w = w' := by
  by_cases h1 : 0 ≤ day
  · by_cases h2 : day ≤ 73048
    · have HD := hide (show vday day = true from decide_eq_true ⟨h1, h2⟩)
      go_enter Tryd.func47, Tryd.ntmps47
      go_wp2_with fail
      go_ret
      exact ⟨by rw [HD.out]; rfl, rfl⟩
    · have HD := hide (show vday day = false from decide_eq_false (fun h => h2 h.2))
      go_enter Tryd.func47, Tryd.ntmps47
      go_wp2_with fail
      go_ret
      exact ⟨by rw [HD.out]; rfl, rfl⟩
  · have HD := hide (show vday day = false from decide_eq_false (fun h => h1 h.1))
    go_enter Tryd.func47, Tryd.ntmps47
    go_wp2_with fail
    go_ret
    exact ⟨by rw [HD.out]; rfl, rfl⟩
set_option maxRecDepth 20000 in
set_option maxHeartbeats 4000000 in
theorem right_any (x : LAcc) (w : World) (ht : Tab w) :
    Calls Tryd.prog 38 #[.agg #[.int .i64 x.id, .int .i64 x.op, .int .i64 x.cl, .int .i64 x.ex, .string x.ow, .string x.pr, .string x.nu]] w fun e w' => e = .returned (.bool (rightB x)) ∧ Below w.heap.size w w' := by
  obtain ⟨i, o, c, ex, ow, pr, nu⟩ := x
  obtain ⟨cb, hcb⟩ : ∃ cb, cb = clB ⟨i, o, c, ex, ow, pr, nu⟩ := ⟨_, rfl⟩
  have HT := hide ht
  clear ht
  obtain ⟨t, ht⟩ : ∃ t : ByteArray, t = ⟨(numI i).toArray⟩ := ⟨_, rfl⟩
  obtain ⟨nb, hnb⟩ : ∃ nb, nb = (nu.toList == t.toList) := ⟨_, rfl⟩
  obtain ⟨vo, hvo⟩ : ∃ vo, vo = vday o := ⟨_, rfl⟩
  obtain ⟨ob, hob⟩ : ∃ ob, ob = okId i := ⟨_, rfl⟩
  have HNB := hide (show nuB ⟨i, o, c, ex, ow, pr, nu⟩ = nb from by rw [hnb, ht]; rfl)
  have HVAL := hide (show rightB ⟨i, o, c, ex, ow, pr, nu⟩ = (ob && (vo && nb) && (cb && decide (0 ≤ ex ∧ ex ≤ 1000000000000))) from by unfold rightB; rw [show shB ⟨i, o, c, ex, ow, pr, nu⟩ = (ob && (vo && nb)) from by unfold shB; rw [HNB.out, ← hob, ← hvo]]; rw [hcb]; rfl)
  have HN := hide (fun (W : World) (hW : Tab W) => by have h := number_any i W hW; rw [← ht] at h; exact h)
  have HO := hide (fun (W : World) => by have h := valid_any o W; rw [← hvo] at h; exact h)
  clear ht hvo
  go_enter Tryd.func38, Tryd.ntmps38
  go_upto_region 1 with fail
  go_cut [3] (fun v3 wx => v3 = .bool cb ∧ wx = w.alloc (.cells #[.int .i64 i, .int .i64 o, .int .i64 c, .int .i64 ex, .string ow, .string pr, .string nu] 44))
  case first =>
    cases h1 : (c == 0) with
    | true =>
      have hc : cb = true := by rw [hcb]; unfold clB; rw [h1]; rfl
      clear hcb hob hnb
      go_wp2_with fail
      go_meet
      exact ⟨by rw [hc], rfl⟩
    | false =>
      obtain ⟨vc, hvc⟩ : ∃ vc, vc = vday c := ⟨_, rfl⟩
      have HV := hide (fun (W : World) => by have h := valid_any c W; rw [← hvc] at h; exact h)
      have hc0 : cb = (vc && decide (o ≤ c)) := by rw [hcb]; unfold clB; rw [h1, hvc]; rfl
      clear hcb hob hvc hnb
      have HC := hide hc0
      clear hc0
      cases vc with
      | false =>
        go_wp2_with fail
        refine (HV.out _).mono ?_
        rintro e w1 ⟨rfl, rfl⟩
        go_wp2_with fail
        go_meet
        exact ⟨by rw [HC.out]; rfl, rfl⟩
      | true =>
        by_cases h2 : o ≤ c
        · have d2 : decide (o ≤ c) = true := decide_eq_true h2
          go_wp2_with fail
          refine (HV.out _).mono ?_
          rintro e w1 ⟨rfl, rfl⟩
          go_wp2_with fail
          go_meet
          exact ⟨by rw [HC.out, d2]; rfl, rfl⟩
        · have d2 : decide (o ≤ c) = false := decide_eq_false h2
          have h3 := Int.not_le.1 h2
          clear h2
          go_wp2_with fail
          refine (HV.out _).mono ?_
          rintro e w1 ⟨rfl, rfl⟩
          go_wp2_with fail
          go_meet
          exact ⟨by rw [HC.out, d2]; rfl, rfl⟩
  case rest =>
    obtain ⟨rfl, rfl⟩ := hcut
    clear hcb
    by_cases g1 : 1000 ≤ i
    · have d1 : decide (1000 ≤ i) = true := decide_eq_true g1
      by_cases g2 : i ≤ 99999999
      · have d2 : decide (i ≤ 99999999) = true := decide_eq_true g2
        have HOB := hide (show ob = true from by rw [hob]; exact decide_eq_true ⟨g1, g2⟩)
        clear hob g1 g2
        cases vo with
        | false =>
          go_wp2_with fail
          refine ord_start (SB (w.heap.size + 1) [] _) 35 (preB 0 35) (by kernel_rfl) (by kernel_rfl) (by kernel_rfl) SB.refl.drew (fun hHeld => ?_)
          refine ord_take (i := 0) (preB 1 34) ?_ rfl (by kernel_rfl) (by kernel_rfl) (by kernel_rfl) (by kernel_rfl) (fun _ _ _ h => h) hHeld (by rfl) (fun wx hSx => ?_) ?_
          rotate_left
          · (unfold SB at hSx; go_simp; (try with_reducible rfl))
          (try simp only [Act.put, putA, putB, putC])
          refine ord_take (i := 1) (preB 2 33) ?_ rfl (by kernel_rfl) (by kernel_rfl) (by kernel_rfl) (by kernel_rfl) (fun _ _ _ h => h) hHeld (by rfl) (fun wx hSx => ?_) ?_
          rotate_left
          · (unfold SB at hSx; go_simp; (try with_reducible rfl))
          (try simp only [Act.put, putA, putB, putC])
          refine ord_take (i := 2) (preB 3 32) ?_ rfl (by kernel_rfl) (by kernel_rfl) (by kernel_rfl) (by kernel_rfl) (fun _ _ _ h => h) hHeld (by rfl) (fun wx hSx => ?_) ?_
          rotate_left
          · (unfold SB at hSx; go_simp; (try with_reducible rfl))
          (try simp only [Act.put, putA, putB, putC])
          refine ord_take (i := 3) (preB 4 31) ?_ rfl (by kernel_rfl) (by kernel_rfl) (by kernel_rfl) (by kernel_rfl) (fun _ _ _ h => h) hHeld (by rfl) (fun wx hSx => ?_) ?_
          rotate_left
          · (unfold SB at hSx; go_simp; (try with_reducible rfl))
          (try simp only [Act.put, putA, putB, putC])
          refine ord_take (i := 4) (preB 5 30) ?_ rfl (by kernel_rfl) (by kernel_rfl) (by kernel_rfl) (by kernel_rfl) (fun _ _ _ h => h) hHeld (by rfl) (fun wx hSx => ?_) ?_
          rotate_left
          · (unfold SB at hSx; go_simp; (try with_reducible rfl))
          (try simp only [Act.put, putA, putB, putC])
          refine ord_take (i := 5) (preB 6 29) ?_ rfl (by kernel_rfl) (by kernel_rfl) (by kernel_rfl) (by kernel_rfl) (fun _ _ _ h => h) hHeld (by rfl) (fun wx hSx => ?_) ?_
          rotate_left
          · (unfold SB at hSx; go_simp; (try with_reducible rfl))
          (try simp only [Act.put, putA, putB, putC])
          refine ord_take (i := 6) (preB 7 28) ?_ rfl (by kernel_rfl) (by kernel_rfl) (by kernel_rfl) (by kernel_rfl) (fun _ _ _ h => h) hHeld (by rfl) (fun wx hSx => ?_) ?_
          rotate_left
          · (unfold SB at hSx; go_simp; (try with_reducible rfl))
          (try simp only [Act.put, putA, putB, putC])
          refine ord_take (i := 7) (preB 8 27) ?_ rfl (by kernel_rfl) (by kernel_rfl) (by kernel_rfl) (by kernel_rfl) (fun _ _ _ h => h) hHeld (by rfl) (fun wx hSx => ?_) ?_
          rotate_left
          · (unfold SB at hSx; go_simp; (try with_reducible rfl))
          (try simp only [Act.put, putA, putB, putC])
          refine ord_take (i := 8) (preB 9 26) ?_ rfl (by kernel_rfl) (by kernel_rfl) (by kernel_rfl) (by kernel_rfl) (fun _ _ _ h => h) hHeld (by rfl) (fun wx hSx => ?_) ?_
          rotate_left
          · (unfold SB at hSx; go_simp; (try with_reducible rfl))
          (try simp only [Act.put, putA, putB, putC])
          refine ord_take (i := 9) (preB 10 25) ?_ rfl (by kernel_rfl) (by kernel_rfl) (by kernel_rfl) (by kernel_rfl) (fun _ _ _ h => h) hHeld (by rfl) (fun wx hSx => ?_) ?_
          rotate_left
          · (unfold SB at hSx; go_simp; (try with_reducible rfl))
          (try simp only [Act.put, putA, putB, putC])
          refine ord_take (i := 10) (preB 11 24) ?_ rfl (by kernel_rfl) (by kernel_rfl) (by kernel_rfl) (by kernel_rfl) (fun _ _ _ h => h) hHeld (by rfl) (fun wx hSx => ?_) ?_
          rotate_left
          · (unfold SB at hSx; go_simp; (try with_reducible rfl))
          (try simp only [Act.put, putA, putB, putC])
          refine wpAnyH_ready (rs := [11]) (by kernel_rfl) (by simp) ?_
          refine ord_run (i := 11) (preB 12 23) rfl (by kernel_rfl) (by rfl) (fun K hK => ?_) AllReadyH.nil
          go_simp
          go_wp2_with (go_at_call 47; refine (HO.out _).mono ?_; rintro e w1 ⟨rfl, rfl⟩)
          refine hK.out _ _ ?_ (fun hHeld => ?_)
          · (repeat (first | (with_reducible first | exact SB.refl | exact hHeld | refine SB.drew ?_ | refine SB.drewN ?_ _) | ((with_reducible first | refine SB.alloc ?_ ?_ _ | refine SB.below ?_ hbS ?_ | refine SB.below ?_ hbS1 ?_ | refine SB.below ?_ hbS2 ?_ | refine SB.below ?_ hbS3 ?_ | refine SB.below ?_ hbS4 ?_); rotate_left; (first | omega | (simp <;> omega))) | ((with_reducible refine SB.setCell ?_ ?_ _); rotate_left; (focus (first | (simp; done) | (right; first | omega | (simp <;> omega))))) | (with_reducible refine SB.undrew ?_) | ((with_reducible refine SB.congr ?_ ?_); rotate_left; (focus (simp; done))) | ((with_reducible refine SB.realloc ?_ ?_ ?_); rotate_left; (focus (simp; done)); (focus (simp; done)))))
          clear hK K
          (try simp only [Act.put, putA, putB, putC])
          refine ord_take (i := 12) (preB 13 22) ?_ rfl (by kernel_rfl) (by kernel_rfl) (by kernel_rfl) (by kernel_rfl) (fun _ _ _ h => h) hHeld (by rfl) (fun wx hSx => ?_) ?_
          rotate_left
          · (unfold SB at hSx; go_simp; (try with_reducible rfl))
          (try simp only [Act.put, putA, putB, putC])
          refine ord_take (i := 13) (preB 14 21) ?_ rfl (by kernel_rfl) (by kernel_rfl) (by kernel_rfl) (by kernel_rfl) (fun _ _ _ h => h) hHeld (by rfl) (fun wx hSx => ?_) ?_
          rotate_left
          · (unfold SB at hSx; go_simp; (try with_reducible rfl))
          (try simp only [Act.put, putA, putB, putC])
          refine ord_skip (i := 14) (preB 15 20) rfl (by kernel_rfl) (by kernel_rfl) (by kernel_rfl) (by kernel_rfl) (fun _ _ _ h => h) hHeld (by rfl) ?_
          (try simp only [Act.put, putA, putB, putC])
          refine ord_take (i := 15) (preB 16 19) ?_ rfl (by kernel_rfl) (by kernel_rfl) (by kernel_rfl) (by kernel_rfl) (fun _ _ _ h => h) hHeld (by rfl) (fun wx hSx => ?_) ?_
          rotate_left
          · (unfold SB at hSx; go_simp; (try with_reducible rfl))
          (try simp only [Act.put, putA, putB, putC])
          refine ord_take (i := 16) (preB 17 18) ?_ rfl (by kernel_rfl) (by kernel_rfl) (by kernel_rfl) (by kernel_rfl) (fun _ _ _ h => h) hHeld (by rfl) (fun wx hSx => ?_) ?_
          rotate_left
          · (unfold SB at hSx; go_simp; (try with_reducible rfl))
          (try simp only [Act.put, putA, putB, putC])
          refine ord_skip (i := 17) (preB 18 17) rfl (by kernel_rfl) (by kernel_rfl) (by kernel_rfl) (by kernel_rfl) (fun _ _ _ h => h) hHeld (by rfl) ?_
          (try simp only [Act.put, putA, putB, putC])
          refine ord_skip (i := 18) (preB 19 16) rfl (by kernel_rfl) (by kernel_rfl) (by kernel_rfl) (by kernel_rfl) (fun _ _ _ h => h) hHeld (by rfl) ?_
          (try simp only [Act.put, putA, putB, putC])
          refine ord_skip (i := 19) (preB 20 15) rfl (by kernel_rfl) (by kernel_rfl) (by kernel_rfl) (by kernel_rfl) (fun _ _ _ h => h) hHeld (by rfl) ?_
          (try simp only [Act.put, putA, putB, putC])
          refine ord_take (i := 20) (preB 21 14) ?_ rfl (by kernel_rfl) (by kernel_rfl) (by kernel_rfl) (by kernel_rfl) (fun _ _ _ h => h) hHeld (by rfl) (fun wx hSx => ?_) ?_
          rotate_left
          · (unfold SB at hSx; go_simp; (try with_reducible rfl))
          (try simp only [Act.put, putA, putB, putC])
          refine ord_take (i := 21) (preB 22 13) ?_ rfl (by kernel_rfl) (by kernel_rfl) (by kernel_rfl) (by kernel_rfl) (fun _ _ _ h => h) hHeld (by rfl) (fun wx hSx => ?_) ?_
          rotate_left
          · (unfold SB at hSx; go_simp; (try with_reducible rfl))
          (try simp only [Act.put, putA, putB, putC])
          refine ord_skip (i := 22) (preB 23 12) rfl (by kernel_rfl) (by kernel_rfl) (by kernel_rfl) (by kernel_rfl) (fun _ _ _ h => h) hHeld (by rfl) ?_
          (try simp only [Act.put, putA, putB, putC])
          refine ord_skip (i := 23) (preB 24 11) rfl (by kernel_rfl) (by kernel_rfl) (by kernel_rfl) (by kernel_rfl) (fun _ _ _ h => h) hHeld (by rfl) ?_
          (try simp only [Act.put, putA, putB, putC])
          refine ord_skip (i := 24) (preB 25 10) rfl (by kernel_rfl) (by kernel_rfl) (by kernel_rfl) (by kernel_rfl) (fun _ _ _ h => h) hHeld (by rfl) ?_
          (try simp only [Act.put, putA, putB, putC])
          refine ord_take (i := 25) (preB 26 9) ?_ rfl (by kernel_rfl) (by kernel_rfl) (by kernel_rfl) (by kernel_rfl) (fun _ _ _ h => h) hHeld (by rfl) (fun wx hSx => ?_) ?_
          rotate_left
          · (unfold SB at hSx; go_simp; (try with_reducible rfl))
          (try simp only [Act.put, putA, putB, putC])
          refine ord_take (i := 26) (preB 27 8) ?_ rfl (by kernel_rfl) (by kernel_rfl) (by kernel_rfl) (by kernel_rfl) (fun _ _ _ h => h) hHeld (by rfl) (fun wx hSx => ?_) ?_
          rotate_left
          · (unfold SB at hSx; go_simp; (try with_reducible rfl))
          (try simp only [Act.put, putA, putB, putC])
          refine ord_skip (i := 27) (preB 28 7) rfl (by kernel_rfl) (by kernel_rfl) (by kernel_rfl) (by kernel_rfl) (fun _ _ _ h => h) hHeld (by rfl) ?_
          (try simp only [Act.put, putA, putB, putC])
          refine ord_skip (i := 28) (preB 29 6) rfl (by kernel_rfl) (by kernel_rfl) (by kernel_rfl) (by kernel_rfl) (fun _ _ _ h => h) hHeld (by rfl) ?_
          (try simp only [Act.put, putA, putB, putC])
          refine ord_skip (i := 29) (preB 30 5) rfl (by kernel_rfl) (by kernel_rfl) (by kernel_rfl) (by kernel_rfl) (fun _ _ _ h => h) hHeld (by rfl) ?_
          (try simp only [Act.put, putA, putB, putC])
          refine ord_skip (i := 30) (preB 31 4) rfl (by kernel_rfl) (by kernel_rfl) (by kernel_rfl) (by kernel_rfl) (fun _ _ _ h => h) hHeld (by rfl) ?_
          (try simp only [Act.put, putA, putB, putC])
          refine ord_skip (i := 31) (preB 32 3) rfl (by kernel_rfl) (by kernel_rfl) (by kernel_rfl) (by kernel_rfl) (fun _ _ _ h => h) hHeld (by rfl) ?_
          (try simp only [Act.put, putA, putB, putC])
          refine ord_skip (i := 32) (preB 33 2) rfl (by kernel_rfl) (by kernel_rfl) (by kernel_rfl) (by kernel_rfl) (fun _ _ _ h => h) hHeld (by rfl) ?_
          (try simp only [Act.put, putA, putB, putC])
          refine ord_take (i := 33) (preB 34 1) ?_ rfl (by kernel_rfl) (by kernel_rfl) (by kernel_rfl) (by kernel_rfl) (fun _ _ _ h => h) hHeld (by rfl) (fun wx hSx => ?_) ?_
          rotate_left
          · (unfold SB at hSx; go_simp; (try with_reducible rfl))
          (try simp only [Act.put, putA, putB, putC])
          refine ord_take (i := 34) (preB 35 0) ?_ rfl (by kernel_rfl) (by kernel_rfl) (by kernel_rfl) (by kernel_rfl) (fun _ _ _ h => h) hHeld (by rfl) (fun wx hSx => ?_) ?_
          rotate_left
          · (unfold SB at hSx; go_simp; (try with_reducible rfl))
          (try simp only [Act.put, putA, putB, putC])
          refine wpAnyH_done (by kernel_rfl) ?_ _
          go_wp2_with fail
          go_ret
          exact ⟨by rw [HVAL.out, HOB.out]; (try cases vo) <;> (try cases nb) <;> (try cases cb) <;> simp, by (repeat (first | (with_reducible first | exact Below.refl _ _ | assumption | refine Below.drew ?_) | ((with_reducible first | refine Below.alloc ?_ ?_ _ | refine Below.setCell ?_ ?_ _); rotate_left; (first | omega | (simp <;> omega)))))⟩
        | true =>
          cases cb with
          | false =>
            go_wp2_with fail
            refine ord_start (SB (w.heap.size + 1) [] _) 35 (preB 0 35) (by kernel_rfl) (by kernel_rfl) (by kernel_rfl) SB.refl.drew (fun hHeld => ?_)
            refine ord_take (i := 0) (preB 1 34) ?_ rfl (by kernel_rfl) (by kernel_rfl) (by kernel_rfl) (by kernel_rfl) (fun _ _ _ h => h) hHeld (by rfl) (fun wx hSx => ?_) ?_
            rotate_left
            · (unfold SB at hSx; go_simp; (try with_reducible rfl))
            (try simp only [Act.put, putA, putB, putC])
            refine ord_take (i := 1) (preB 2 33) ?_ rfl (by kernel_rfl) (by kernel_rfl) (by kernel_rfl) (by kernel_rfl) (fun _ _ _ h => h) hHeld (by rfl) (fun wx hSx => ?_) ?_
            rotate_left
            · (unfold SB at hSx; go_simp; (try with_reducible rfl))
            (try simp only [Act.put, putA, putB, putC])
            refine ord_take (i := 2) (preB 3 32) ?_ rfl (by kernel_rfl) (by kernel_rfl) (by kernel_rfl) (by kernel_rfl) (fun _ _ _ h => h) hHeld (by rfl) (fun wx hSx => ?_) ?_
            rotate_left
            · (unfold SB at hSx; go_simp; (try with_reducible rfl))
            (try simp only [Act.put, putA, putB, putC])
            refine ord_take (i := 3) (preB 4 31) ?_ rfl (by kernel_rfl) (by kernel_rfl) (by kernel_rfl) (by kernel_rfl) (fun _ _ _ h => h) hHeld (by rfl) (fun wx hSx => ?_) ?_
            rotate_left
            · (unfold SB at hSx; go_simp; (try with_reducible rfl))
            (try simp only [Act.put, putA, putB, putC])
            refine ord_take (i := 4) (preB 5 30) ?_ rfl (by kernel_rfl) (by kernel_rfl) (by kernel_rfl) (by kernel_rfl) (fun _ _ _ h => h) hHeld (by rfl) (fun wx hSx => ?_) ?_
            rotate_left
            · (unfold SB at hSx; go_simp; (try with_reducible rfl))
            (try simp only [Act.put, putA, putB, putC])
            refine ord_take (i := 5) (preB 6 29) ?_ rfl (by kernel_rfl) (by kernel_rfl) (by kernel_rfl) (by kernel_rfl) (fun _ _ _ h => h) hHeld (by rfl) (fun wx hSx => ?_) ?_
            rotate_left
            · (unfold SB at hSx; go_simp; (try with_reducible rfl))
            (try simp only [Act.put, putA, putB, putC])
            refine ord_take (i := 6) (preB 7 28) ?_ rfl (by kernel_rfl) (by kernel_rfl) (by kernel_rfl) (by kernel_rfl) (fun _ _ _ h => h) hHeld (by rfl) (fun wx hSx => ?_) ?_
            rotate_left
            · (unfold SB at hSx; go_simp; (try with_reducible rfl))
            (try simp only [Act.put, putA, putB, putC])
            refine ord_take (i := 7) (preB 8 27) ?_ rfl (by kernel_rfl) (by kernel_rfl) (by kernel_rfl) (by kernel_rfl) (fun _ _ _ h => h) hHeld (by rfl) (fun wx hSx => ?_) ?_
            rotate_left
            · (unfold SB at hSx; go_simp; (try with_reducible rfl))
            (try simp only [Act.put, putA, putB, putC])
            refine ord_take (i := 8) (preB 9 26) ?_ rfl (by kernel_rfl) (by kernel_rfl) (by kernel_rfl) (by kernel_rfl) (fun _ _ _ h => h) hHeld (by rfl) (fun wx hSx => ?_) ?_
            rotate_left
            · (unfold SB at hSx; go_simp; (try with_reducible rfl))
            (try simp only [Act.put, putA, putB, putC])
            refine ord_take (i := 9) (preB 10 25) ?_ rfl (by kernel_rfl) (by kernel_rfl) (by kernel_rfl) (by kernel_rfl) (fun _ _ _ h => h) hHeld (by rfl) (fun wx hSx => ?_) ?_
            rotate_left
            · (unfold SB at hSx; go_simp; (try with_reducible rfl))
            (try simp only [Act.put, putA, putB, putC])
            refine ord_take (i := 10) (preB 11 24) ?_ rfl (by kernel_rfl) (by kernel_rfl) (by kernel_rfl) (by kernel_rfl) (fun _ _ _ h => h) hHeld (by rfl) (fun wx hSx => ?_) ?_
            rotate_left
            · (unfold SB at hSx; go_simp; (try with_reducible rfl))
            (try simp only [Act.put, putA, putB, putC])
            refine wpAnyH_ready (rs := [11]) (by kernel_rfl) (by simp) ?_
            refine ord_run (i := 11) (preB 12 23) rfl (by kernel_rfl) (by rfl) (fun K hK => ?_) AllReadyH.nil
            go_simp
            go_wp2_with (go_at_call 47; refine (HO.out _).mono ?_; rintro e w1 ⟨rfl, rfl⟩)
            refine hK.out _ _ ?_ (fun hHeld => ?_)
            · (repeat (first | (with_reducible first | exact SB.refl | exact hHeld | refine SB.drew ?_ | refine SB.drewN ?_ _) | ((with_reducible first | refine SB.alloc ?_ ?_ _ | refine SB.below ?_ hbS ?_ | refine SB.below ?_ hbS1 ?_ | refine SB.below ?_ hbS2 ?_ | refine SB.below ?_ hbS3 ?_ | refine SB.below ?_ hbS4 ?_); rotate_left; (first | omega | (simp <;> omega))) | ((with_reducible refine SB.setCell ?_ ?_ _); rotate_left; (focus (first | (simp; done) | (right; first | omega | (simp <;> omega))))) | (with_reducible refine SB.undrew ?_) | ((with_reducible refine SB.congr ?_ ?_); rotate_left; (focus (simp; done))) | ((with_reducible refine SB.realloc ?_ ?_ ?_); rotate_left; (focus (simp; done)); (focus (simp; done)))))
            clear hK K
            (try simp only [Act.put, putA, putB, putC])
            refine ord_take (i := 12) (preB 13 22) ?_ rfl (by kernel_rfl) (by kernel_rfl) (by kernel_rfl) (by kernel_rfl) (fun _ _ _ h => h) hHeld (by rfl) (fun wx hSx => ?_) ?_
            rotate_left
            · (unfold SB at hSx; go_simp; (try with_reducible rfl))
            (try simp only [Act.put, putA, putB, putC])
            refine ord_take (i := 13) (preB 14 21) ?_ rfl (by kernel_rfl) (by kernel_rfl) (by kernel_rfl) (by kernel_rfl) (fun _ _ _ h => h) hHeld (by rfl) (fun wx hSx => ?_) ?_
            rotate_left
            · (unfold SB at hSx; go_simp; (try with_reducible rfl))
            (try simp only [Act.put, putA, putB, putC])
            refine ord_take (i := 14) (preB 15 20) ?_ rfl (by kernel_rfl) (by kernel_rfl) (by kernel_rfl) (by kernel_rfl) (fun _ _ _ h => h) hHeld (by rfl) (fun wx hSx => ?_) ?_
            rotate_left
            · (unfold SB at hSx; go_simp; (try with_reducible rfl))
            (try simp only [Act.put, putA, putB, putC])
            refine ord_take (i := 15) (preB 16 19) ?_ rfl (by kernel_rfl) (by kernel_rfl) (by kernel_rfl) (by kernel_rfl) (fun _ _ _ h => h) hHeld (by rfl) (fun wx hSx => ?_) ?_
            rotate_left
            · (unfold SB at hSx; go_simp; (try with_reducible rfl))
            (try simp only [Act.put, putA, putB, putC])
            refine ord_take (i := 16) (preB 17 18) ?_ rfl (by kernel_rfl) (by kernel_rfl) (by kernel_rfl) (by kernel_rfl) (fun _ _ _ h => h) hHeld (by rfl) (fun wx hSx => ?_) ?_
            rotate_left
            · (unfold SB at hSx; go_simp; (try with_reducible rfl))
            (try simp only [Act.put, putA, putB, putC])
            refine ord_skip (i := 17) (preB 18 17) rfl (by kernel_rfl) (by kernel_rfl) (by kernel_rfl) (by kernel_rfl) (fun _ _ _ h => h) hHeld (by rfl) ?_
            (try simp only [Act.put, putA, putB, putC])
            refine ord_skip (i := 18) (preB 19 16) rfl (by kernel_rfl) (by kernel_rfl) (by kernel_rfl) (by kernel_rfl) (fun _ _ _ h => h) hHeld (by rfl) ?_
            (try simp only [Act.put, putA, putB, putC])
            refine ord_skip (i := 19) (preB 20 15) rfl (by kernel_rfl) (by kernel_rfl) (by kernel_rfl) (by kernel_rfl) (fun _ _ _ h => h) hHeld (by rfl) ?_
            (try simp only [Act.put, putA, putB, putC])
            refine ord_take (i := 20) (preB 21 14) ?_ rfl (by kernel_rfl) (by kernel_rfl) (by kernel_rfl) (by kernel_rfl) (fun _ _ _ h => h) hHeld (by rfl) (fun wx hSx => ?_) ?_
            rotate_left
            · (unfold SB at hSx; go_simp; (try with_reducible rfl))
            (try simp only [Act.put, putA, putB, putC])
            refine ord_take (i := 21) (preB 22 13) ?_ rfl (by kernel_rfl) (by kernel_rfl) (by kernel_rfl) (by kernel_rfl) (fun _ _ _ h => h) hHeld (by rfl) (fun wx hSx => ?_) ?_
            rotate_left
            · (unfold SB at hSx; go_simp; (try with_reducible rfl))
            (try simp only [Act.put, putA, putB, putC])
            refine ord_skip (i := 22) (preB 23 12) rfl (by kernel_rfl) (by kernel_rfl) (by kernel_rfl) (by kernel_rfl) (fun _ _ _ h => h) hHeld (by rfl) ?_
            (try simp only [Act.put, putA, putB, putC])
            refine ord_skip (i := 23) (preB 24 11) rfl (by kernel_rfl) (by kernel_rfl) (by kernel_rfl) (by kernel_rfl) (fun _ _ _ h => h) hHeld (by rfl) ?_
            (try simp only [Act.put, putA, putB, putC])
            refine ord_skip (i := 24) (preB 25 10) rfl (by kernel_rfl) (by kernel_rfl) (by kernel_rfl) (by kernel_rfl) (fun _ _ _ h => h) hHeld (by rfl) ?_
            (try simp only [Act.put, putA, putB, putC])
            refine ord_take (i := 25) (preB 26 9) ?_ rfl (by kernel_rfl) (by kernel_rfl) (by kernel_rfl) (by kernel_rfl) (fun _ _ _ h => h) hHeld (by rfl) (fun wx hSx => ?_) ?_
            rotate_left
            · (unfold SB at hSx; go_simp; (try with_reducible rfl))
            (try simp only [Act.put, putA, putB, putC])
            refine ord_take (i := 26) (preB 27 8) ?_ rfl (by kernel_rfl) (by kernel_rfl) (by kernel_rfl) (by kernel_rfl) (fun _ _ _ h => h) hHeld (by rfl) (fun wx hSx => ?_) ?_
            rotate_left
            · (unfold SB at hSx; go_simp; (try with_reducible rfl))
            (try simp only [Act.put, putA, putB, putC])
            refine ord_skip (i := 27) (preB 28 7) rfl (by kernel_rfl) (by kernel_rfl) (by kernel_rfl) (by kernel_rfl) (fun _ _ _ h => h) hHeld (by rfl) ?_
            (try simp only [Act.put, putA, putB, putC])
            refine ord_skip (i := 28) (preB 29 6) rfl (by kernel_rfl) (by kernel_rfl) (by kernel_rfl) (by kernel_rfl) (fun _ _ _ h => h) hHeld (by rfl) ?_
            (try simp only [Act.put, putA, putB, putC])
            refine ord_skip (i := 29) (preB 30 5) rfl (by kernel_rfl) (by kernel_rfl) (by kernel_rfl) (by kernel_rfl) (fun _ _ _ h => h) hHeld (by rfl) ?_
            (try simp only [Act.put, putA, putB, putC])
            refine ord_skip (i := 30) (preB 31 4) rfl (by kernel_rfl) (by kernel_rfl) (by kernel_rfl) (by kernel_rfl) (fun _ _ _ h => h) hHeld (by rfl) ?_
            (try simp only [Act.put, putA, putB, putC])
            refine ord_skip (i := 31) (preB 32 3) rfl (by kernel_rfl) (by kernel_rfl) (by kernel_rfl) (by kernel_rfl) (fun _ _ _ h => h) hHeld (by rfl) ?_
            (try simp only [Act.put, putA, putB, putC])
            refine ord_skip (i := 32) (preB 33 2) rfl (by kernel_rfl) (by kernel_rfl) (by kernel_rfl) (by kernel_rfl) (fun _ _ _ h => h) hHeld (by rfl) ?_
            (try simp only [Act.put, putA, putB, putC])
            refine ord_take (i := 33) (preB 34 1) ?_ rfl (by kernel_rfl) (by kernel_rfl) (by kernel_rfl) (by kernel_rfl) (fun _ _ _ h => h) hHeld (by rfl) (fun wx hSx => ?_) ?_
            rotate_left
            · (unfold SB at hSx; go_simp; (try with_reducible rfl))
            (try simp only [Act.put, putA, putB, putC])
            refine ord_take (i := 34) (preB 35 0) ?_ rfl (by kernel_rfl) (by kernel_rfl) (by kernel_rfl) (by kernel_rfl) (fun _ _ _ h => h) hHeld (by rfl) (fun wx hSx => ?_) ?_
            rotate_left
            · (unfold SB at hSx; go_simp; (try with_reducible rfl))
            (try simp only [Act.put, putA, putB, putC])
            refine wpAnyH_done (by kernel_rfl) ?_ _
            go_wp2_with fail
            go_ret
            exact ⟨by rw [HVAL.out, HOB.out]; (try cases vo) <;> (try cases nb) <;> (try cases cb) <;> simp, by (repeat (first | (with_reducible first | exact Below.refl _ _ | assumption | refine Below.drew ?_) | ((with_reducible first | refine Below.alloc ?_ ?_ _ | refine Below.setCell ?_ ?_ _); rotate_left; (first | omega | (simp <;> omega)))))⟩
          | true =>
            by_cases g5 : 0 ≤ ex
            · have d5 : decide (0 ≤ ex) = true := decide_eq_true g5
              by_cases g6 : ex ≤ 1000000000000
              · have d6 : decide (ex ≤ 1000000000000) = true := decide_eq_true g6
                have HEX := hide (show decide (0 ≤ ex ∧ ex ≤ 1000000000000) = true from decide_eq_true ⟨g5, g6⟩)
                clear g5 g6
                cases nb with
                | false =>
                  replace hnb := hnb.symm
                  go_wp2_with fail
                  refine ord_start (SB (w.heap.size + 1) [] _) 35 (preB 0 35) (by kernel_rfl) (by kernel_rfl) (by kernel_rfl) SB.refl.drew (fun hHeld => ?_)
                  refine ord_take (i := 0) (preB 1 34) ?_ rfl (by kernel_rfl) (by kernel_rfl) (by kernel_rfl) (by kernel_rfl) (fun _ _ _ h => h) hHeld (by rfl) (fun wx hSx => ?_) ?_
                  rotate_left
                  · (unfold SB at hSx; go_simp; (try with_reducible rfl))
                  (try simp only [Act.put, putA, putB, putC])
                  refine ord_take (i := 1) (preB 2 33) ?_ rfl (by kernel_rfl) (by kernel_rfl) (by kernel_rfl) (by kernel_rfl) (fun _ _ _ h => h) hHeld (by rfl) (fun wx hSx => ?_) ?_
                  rotate_left
                  · (unfold SB at hSx; go_simp; (try with_reducible rfl))
                  (try simp only [Act.put, putA, putB, putC])
                  refine ord_take (i := 2) (preB 3 32) ?_ rfl (by kernel_rfl) (by kernel_rfl) (by kernel_rfl) (by kernel_rfl) (fun _ _ _ h => h) hHeld (by rfl) (fun wx hSx => ?_) ?_
                  rotate_left
                  · (unfold SB at hSx; go_simp; (try with_reducible rfl))
                  (try simp only [Act.put, putA, putB, putC])
                  refine ord_take (i := 3) (preB 4 31) ?_ rfl (by kernel_rfl) (by kernel_rfl) (by kernel_rfl) (by kernel_rfl) (fun _ _ _ h => h) hHeld (by rfl) (fun wx hSx => ?_) ?_
                  rotate_left
                  · (unfold SB at hSx; go_simp; (try with_reducible rfl))
                  (try simp only [Act.put, putA, putB, putC])
                  refine ord_take (i := 4) (preB 5 30) ?_ rfl (by kernel_rfl) (by kernel_rfl) (by kernel_rfl) (by kernel_rfl) (fun _ _ _ h => h) hHeld (by rfl) (fun wx hSx => ?_) ?_
                  rotate_left
                  · (unfold SB at hSx; go_simp; (try with_reducible rfl))
                  (try simp only [Act.put, putA, putB, putC])
                  refine ord_take (i := 5) (preB 6 29) ?_ rfl (by kernel_rfl) (by kernel_rfl) (by kernel_rfl) (by kernel_rfl) (fun _ _ _ h => h) hHeld (by rfl) (fun wx hSx => ?_) ?_
                  rotate_left
                  · (unfold SB at hSx; go_simp; (try with_reducible rfl))
                  (try simp only [Act.put, putA, putB, putC])
                  refine ord_take (i := 6) (preB 7 28) ?_ rfl (by kernel_rfl) (by kernel_rfl) (by kernel_rfl) (by kernel_rfl) (fun _ _ _ h => h) hHeld (by rfl) (fun wx hSx => ?_) ?_
                  rotate_left
                  · (unfold SB at hSx; go_simp; (try with_reducible rfl))
                  (try simp only [Act.put, putA, putB, putC])
                  refine ord_take (i := 7) (preB 8 27) ?_ rfl (by kernel_rfl) (by kernel_rfl) (by kernel_rfl) (by kernel_rfl) (fun _ _ _ h => h) hHeld (by rfl) (fun wx hSx => ?_) ?_
                  rotate_left
                  · (unfold SB at hSx; go_simp; (try with_reducible rfl))
                  (try simp only [Act.put, putA, putB, putC])
                  refine ord_take (i := 8) (preB 9 26) ?_ rfl (by kernel_rfl) (by kernel_rfl) (by kernel_rfl) (by kernel_rfl) (fun _ _ _ h => h) hHeld (by rfl) (fun wx hSx => ?_) ?_
                  rotate_left
                  · (unfold SB at hSx; go_simp; (try with_reducible rfl))
                  (try simp only [Act.put, putA, putB, putC])
                  refine ord_take (i := 9) (preB 10 25) ?_ rfl (by kernel_rfl) (by kernel_rfl) (by kernel_rfl) (by kernel_rfl) (fun _ _ _ h => h) hHeld (by rfl) (fun wx hSx => ?_) ?_
                  rotate_left
                  · (unfold SB at hSx; go_simp; (try with_reducible rfl))
                  (try simp only [Act.put, putA, putB, putC])
                  refine ord_take (i := 10) (preB 11 24) ?_ rfl (by kernel_rfl) (by kernel_rfl) (by kernel_rfl) (by kernel_rfl) (fun _ _ _ h => h) hHeld (by rfl) (fun wx hSx => ?_) ?_
                  rotate_left
                  · (unfold SB at hSx; go_simp; (try with_reducible rfl))
                  (try simp only [Act.put, putA, putB, putC])
                  refine wpAnyH_ready (rs := [11]) (by kernel_rfl) (by simp) ?_
                  refine ord_run (i := 11) (preB 12 23) rfl (by kernel_rfl) (by rfl) (fun K hK => ?_) AllReadyH.nil
                  go_simp
                  go_wp2_with (go_at_call 47; refine (HO.out _).mono ?_; rintro e w1 ⟨rfl, rfl⟩)
                  refine hK.out _ _ ?_ (fun hHeld => ?_)
                  · (repeat (first | (with_reducible first | exact SB.refl | exact hHeld | refine SB.drew ?_ | refine SB.drewN ?_ _) | ((with_reducible first | refine SB.alloc ?_ ?_ _ | refine SB.below ?_ hbS ?_ | refine SB.below ?_ hbS1 ?_ | refine SB.below ?_ hbS2 ?_ | refine SB.below ?_ hbS3 ?_ | refine SB.below ?_ hbS4 ?_); rotate_left; (first | omega | (simp <;> omega))) | ((with_reducible refine SB.setCell ?_ ?_ _); rotate_left; (focus (first | (simp; done) | (right; first | omega | (simp <;> omega))))) | (with_reducible refine SB.undrew ?_) | ((with_reducible refine SB.congr ?_ ?_); rotate_left; (focus (simp; done))) | ((with_reducible refine SB.realloc ?_ ?_ ?_); rotate_left; (focus (simp; done)); (focus (simp; done)))))
                  clear hK K
                  (try simp only [Act.put, putA, putB, putC])
                  refine ord_take (i := 12) (preB 13 22) ?_ rfl (by kernel_rfl) (by kernel_rfl) (by kernel_rfl) (by kernel_rfl) (fun _ _ _ h => h) hHeld (by rfl) (fun wx hSx => ?_) ?_
                  rotate_left
                  · (unfold SB at hSx; go_simp; (try with_reducible rfl))
                  (try simp only [Act.put, putA, putB, putC])
                  refine ord_take (i := 13) (preB 14 21) ?_ rfl (by kernel_rfl) (by kernel_rfl) (by kernel_rfl) (by kernel_rfl) (fun _ _ _ h => h) hHeld (by rfl) (fun wx hSx => ?_) ?_
                  rotate_left
                  · (unfold SB at hSx; go_simp; (try with_reducible rfl))
                  (try simp only [Act.put, putA, putB, putC])
                  refine ord_take (i := 14) (preB 15 20) ?_ rfl (by kernel_rfl) (by kernel_rfl) (by kernel_rfl) (by kernel_rfl) (fun _ _ _ h => h) hHeld (by rfl) (fun wx hSx => ?_) ?_
                  rotate_left
                  · (unfold SB at hSx; go_simp; (try with_reducible rfl))
                  (try simp only [Act.put, putA, putB, putC])
                  refine ord_take (i := 15) (preB 16 19) ?_ rfl (by kernel_rfl) (by kernel_rfl) (by kernel_rfl) (by kernel_rfl) (fun _ _ _ h => h) hHeld (by rfl) (fun wx hSx => ?_) ?_
                  rotate_left
                  · (unfold SB at hSx; go_simp; (try with_reducible rfl))
                  (try simp only [Act.put, putA, putB, putC])
                  refine ord_take (i := 16) (preB 17 18) ?_ rfl (by kernel_rfl) (by kernel_rfl) (by kernel_rfl) (by kernel_rfl) (fun _ _ _ h => h) hHeld (by rfl) (fun wx hSx => ?_) ?_
                  rotate_left
                  · (unfold SB at hSx; go_simp; (try with_reducible rfl))
                  (try simp only [Act.put, putA, putB, putC])
                  refine ord_take (i := 17) (preB 18 17) ?_ rfl (by kernel_rfl) (by kernel_rfl) (by kernel_rfl) (by kernel_rfl) (fun _ _ _ h => h) hHeld (by rfl) (fun wx hSx => ?_) ?_
                  rotate_left
                  · (unfold SB at hSx; go_simp; (try with_reducible rfl))
                  (try simp only [Act.put, putA, putB, putC])
                  refine ord_take (i := 18) (preB 19 16) ?_ rfl (by kernel_rfl) (by kernel_rfl) (by kernel_rfl) (by kernel_rfl) (fun _ _ _ h => h) hHeld (by rfl) (fun wx hSx => ?_) ?_
                  rotate_left
                  · (unfold SB at hSx; go_simp; (try with_reducible rfl))
                  (try simp only [Act.put, putA, putB, putC])
                  refine ord_take (i := 19) (preB 20 15) ?_ rfl (by kernel_rfl) (by kernel_rfl) (by kernel_rfl) (by kernel_rfl) (fun _ _ _ h => h) hHeld (by rfl) (fun wx hSx => ?_) ?_
                  rotate_left
                  · (unfold SB at hSx; go_simp; (try with_reducible rfl))
                  (try simp only [Act.put, putA, putB, putC])
                  refine ord_take (i := 20) (preB 21 14) ?_ rfl (by kernel_rfl) (by kernel_rfl) (by kernel_rfl) (by kernel_rfl) (fun _ _ _ h => h) hHeld (by rfl) (fun wx hSx => ?_) ?_
                  rotate_left
                  · (unfold SB at hSx; go_simp; (try with_reducible rfl))
                  (try simp only [Act.put, putA, putB, putC])
                  refine ord_take (i := 21) (preB 22 13) ?_ rfl (by kernel_rfl) (by kernel_rfl) (by kernel_rfl) (by kernel_rfl) (fun _ _ _ h => h) hHeld (by rfl) (fun wx hSx => ?_) ?_
                  rotate_left
                  · (unfold SB at hSx; go_simp; (try with_reducible rfl))
                  (try simp only [Act.put, putA, putB, putC])
                  refine ord_take (i := 22) (preB 23 12) ?_ rfl (by kernel_rfl) (by kernel_rfl) (by kernel_rfl) (by kernel_rfl) (fun _ _ _ h => h) hHeld (by rfl) (fun wx hSx => ?_) ?_
                  rotate_left
                  · (unfold SB at hSx; go_simp; (try with_reducible rfl))
                  (try simp only [Act.put, putA, putB, putC])
                  refine ord_take (i := 23) (preB 24 11) ?_ rfl (by kernel_rfl) (by kernel_rfl) (by kernel_rfl) (by kernel_rfl) (fun _ _ _ h => h) hHeld (by rfl) (fun wx hSx => ?_) ?_
                  rotate_left
                  · (unfold SB at hSx; go_simp; (try with_reducible rfl))
                  (try simp only [Act.put, putA, putB, putC])
                  refine ord_take (i := 24) (preB 25 10) ?_ rfl (by kernel_rfl) (by kernel_rfl) (by kernel_rfl) (by kernel_rfl) (fun _ _ _ h => h) hHeld (by rfl) (fun wx hSx => ?_) ?_
                  rotate_left
                  · (unfold SB at hSx; go_simp; (try with_reducible rfl))
                  (try simp only [Act.put, putA, putB, putC])
                  refine ord_take (i := 25) (preB 26 9) ?_ rfl (by kernel_rfl) (by kernel_rfl) (by kernel_rfl) (by kernel_rfl) (fun _ _ _ h => h) hHeld (by rfl) (fun wx hSx => ?_) ?_
                  rotate_left
                  · (unfold SB at hSx; go_simp; (try with_reducible rfl))
                  (try simp only [Act.put, putA, putB, putC])
                  refine ord_take (i := 26) (preB 27 8) ?_ rfl (by kernel_rfl) (by kernel_rfl) (by kernel_rfl) (by kernel_rfl) (fun _ _ _ h => h) hHeld (by rfl) (fun wx hSx => ?_) ?_
                  rotate_left
                  · (unfold SB at hSx; go_simp; (try with_reducible rfl))
                  (try simp only [Act.put, putA, putB, putC])
                  refine ord_take (i := 27) (preB 28 7) ?_ rfl (by kernel_rfl) (by kernel_rfl) (by kernel_rfl) (by kernel_rfl) (fun _ _ _ h => h) hHeld (by rfl) (fun wx hSx => ?_) ?_
                  rotate_left
                  · (unfold SB at hSx; go_simp; (try with_reducible rfl))
                  (try simp only [Act.put, putA, putB, putC])
                  refine ord_take (i := 28) (preB 29 6) ?_ rfl (by kernel_rfl) (by kernel_rfl) (by kernel_rfl) (by kernel_rfl) (fun _ _ _ h => h) hHeld (by rfl) (fun wx hSx => ?_) ?_
                  rotate_left
                  · (unfold SB at hSx; go_simp; (try with_reducible rfl))
                  (try simp only [Act.put, putA, putB, putC])
                  refine ord_take (i := 29) (preB 30 5) ?_ rfl (by kernel_rfl) (by kernel_rfl) (by kernel_rfl) (by kernel_rfl) (fun _ _ _ h => h) hHeld (by rfl) (fun wx hSx => ?_) ?_
                  rotate_left
                  · (unfold SB at hSx; go_simp; (try with_reducible rfl))
                  (try simp only [Act.put, putA, putB, putC])
                  refine ord_take (i := 30) (preB 31 4) ?_ rfl (by kernel_rfl) (by kernel_rfl) (by kernel_rfl) (by kernel_rfl) (fun _ _ _ h => h) hHeld (by rfl) (fun wx hSx => ?_) ?_
                  rotate_left
                  · (unfold SB at hSx; go_simp; (try with_reducible rfl))
                  (try simp only [Act.put, putA, putB, putC])
                  refine wpAnyH_ready (rs := [31]) (by kernel_rfl) (by simp) ?_
                  refine ord_run (i := 31) (preB 32 3) rfl (by kernel_rfl) (by rfl) (fun K hK => ?_) AllReadyH.nil
                  go_simp
                  go_wp2_with (go_at_call 8; refine (HN.out _ (HT.out.below (by (repeat (first | (with_reducible first | exact Below.refl _ _ | assumption | refine Below.drew ?_) | ((with_reducible first | refine Below.alloc ?_ ?_ _ | refine Below.setCell ?_ ?_ _); rotate_left; (first | omega | (simp <;> omega)))))))).mono ?_; rintro e w1 ⟨rfl, hb⟩; have hbS := hb; have hbS1 := hb; have J1 := hide (show Below w.heap.size w w1 from Below.trans (by (repeat (first | (with_reducible first | exact Below.refl _ _ | assumption | refine Below.drew ?_) | ((with_reducible first | refine Below.alloc ?_ ?_ _ | refine Below.setCell ?_ ?_ _); rotate_left; (first | omega | (simp <;> omega)))))) (hb.mono (by first | omega | (simp <;> omega)))); have zJ1 := J1.out.size; clear hb)
                  refine hK.out _ _ ?_ (fun hHeld => ?_)
                  · (repeat (first | (with_reducible first | exact SB.refl | exact hHeld | refine SB.drew ?_ | refine SB.drewN ?_ _) | ((with_reducible first | refine SB.alloc ?_ ?_ _ | refine SB.below ?_ hbS ?_ | refine SB.below ?_ hbS1 ?_ | refine SB.below ?_ hbS2 ?_ | refine SB.below ?_ hbS3 ?_ | refine SB.below ?_ hbS4 ?_); rotate_left; (first | omega | (simp <;> omega))) | ((with_reducible refine SB.setCell ?_ ?_ _); rotate_left; (focus (first | (simp; done) | (right; first | omega | (simp <;> omega))))) | (with_reducible refine SB.undrew ?_) | ((with_reducible refine SB.congr ?_ ?_); rotate_left; (focus (simp; done))) | ((with_reducible refine SB.realloc ?_ ?_ ?_); rotate_left; (focus (simp; done)); (focus (simp; done)))))
                  clear hK K
                  (try simp only [Act.put, putA, putB, putC])
                  refine ord_take (i := 32) (preB 33 2) ?_ rfl (by kernel_rfl) (by kernel_rfl) (by kernel_rfl) (by kernel_rfl) (fun _ _ _ h => h) hHeld (by rfl) (fun wx hSx => ?_) ?_
                  rotate_left
                  · (unfold SB at hSx; go_simp; (try with_reducible rfl))
                  (try simp only [Act.put, putA, putB, putC])
                  refine ord_take (i := 33) (preB 34 1) ?_ rfl (by kernel_rfl) (by kernel_rfl) (by kernel_rfl) (by kernel_rfl) (fun _ _ _ h => h) hHeld (by rfl) (fun wx hSx => ?_) ?_
                  rotate_left
                  · (unfold SB at hSx; go_simp; (try with_reducible rfl))
                  (try simp only [Act.put, putA, putB, putC])
                  refine ord_take (i := 34) (preB 35 0) ?_ rfl (by kernel_rfl) (by kernel_rfl) (by kernel_rfl) (by kernel_rfl) (fun _ _ _ h => h) hHeld (by rfl) (fun wx hSx => ?_) ?_
                  rotate_left
                  · (unfold SB at hSx; go_simp; (try with_reducible rfl))
                  (try simp only [Act.put, putA, putB, putC])
                  refine wpAnyH_done (by kernel_rfl) ?_ _
                  go_wp2_with fail
                  go_ret
                  exact ⟨by rw [HVAL.out, HOB.out]; (try cases vo) <;> (try cases nb) <;> (try cases cb) <;> simp, J1.out.trans (by (repeat (first | (with_reducible first | exact Below.refl _ _ | assumption | refine Below.drew ?_) | ((with_reducible first | refine Below.alloc ?_ ?_ _ | refine Below.setCell ?_ ?_ _); rotate_left; (first | omega | (simp <;> omega))))))⟩
                | true =>
                  replace hnb := hnb.symm
                  go_wp2_with fail
                  refine ord_start (SB (w.heap.size + 1) [] _) 35 (preB 0 35) (by kernel_rfl) (by kernel_rfl) (by kernel_rfl) SB.refl.drew (fun hHeld => ?_)
                  refine ord_take (i := 0) (preB 1 34) ?_ rfl (by kernel_rfl) (by kernel_rfl) (by kernel_rfl) (by kernel_rfl) (fun _ _ _ h => h) hHeld (by rfl) (fun wx hSx => ?_) ?_
                  rotate_left
                  · (unfold SB at hSx; go_simp; (try with_reducible rfl))
                  (try simp only [Act.put, putA, putB, putC])
                  refine ord_take (i := 1) (preB 2 33) ?_ rfl (by kernel_rfl) (by kernel_rfl) (by kernel_rfl) (by kernel_rfl) (fun _ _ _ h => h) hHeld (by rfl) (fun wx hSx => ?_) ?_
                  rotate_left
                  · (unfold SB at hSx; go_simp; (try with_reducible rfl))
                  (try simp only [Act.put, putA, putB, putC])
                  refine ord_take (i := 2) (preB 3 32) ?_ rfl (by kernel_rfl) (by kernel_rfl) (by kernel_rfl) (by kernel_rfl) (fun _ _ _ h => h) hHeld (by rfl) (fun wx hSx => ?_) ?_
                  rotate_left
                  · (unfold SB at hSx; go_simp; (try with_reducible rfl))
                  (try simp only [Act.put, putA, putB, putC])
                  refine ord_take (i := 3) (preB 4 31) ?_ rfl (by kernel_rfl) (by kernel_rfl) (by kernel_rfl) (by kernel_rfl) (fun _ _ _ h => h) hHeld (by rfl) (fun wx hSx => ?_) ?_
                  rotate_left
                  · (unfold SB at hSx; go_simp; (try with_reducible rfl))
                  (try simp only [Act.put, putA, putB, putC])
                  refine ord_take (i := 4) (preB 5 30) ?_ rfl (by kernel_rfl) (by kernel_rfl) (by kernel_rfl) (by kernel_rfl) (fun _ _ _ h => h) hHeld (by rfl) (fun wx hSx => ?_) ?_
                  rotate_left
                  · (unfold SB at hSx; go_simp; (try with_reducible rfl))
                  (try simp only [Act.put, putA, putB, putC])
                  refine ord_take (i := 5) (preB 6 29) ?_ rfl (by kernel_rfl) (by kernel_rfl) (by kernel_rfl) (by kernel_rfl) (fun _ _ _ h => h) hHeld (by rfl) (fun wx hSx => ?_) ?_
                  rotate_left
                  · (unfold SB at hSx; go_simp; (try with_reducible rfl))
                  (try simp only [Act.put, putA, putB, putC])
                  refine ord_take (i := 6) (preB 7 28) ?_ rfl (by kernel_rfl) (by kernel_rfl) (by kernel_rfl) (by kernel_rfl) (fun _ _ _ h => h) hHeld (by rfl) (fun wx hSx => ?_) ?_
                  rotate_left
                  · (unfold SB at hSx; go_simp; (try with_reducible rfl))
                  (try simp only [Act.put, putA, putB, putC])
                  refine ord_take (i := 7) (preB 8 27) ?_ rfl (by kernel_rfl) (by kernel_rfl) (by kernel_rfl) (by kernel_rfl) (fun _ _ _ h => h) hHeld (by rfl) (fun wx hSx => ?_) ?_
                  rotate_left
                  · (unfold SB at hSx; go_simp; (try with_reducible rfl))
                  (try simp only [Act.put, putA, putB, putC])
                  refine ord_take (i := 8) (preB 9 26) ?_ rfl (by kernel_rfl) (by kernel_rfl) (by kernel_rfl) (by kernel_rfl) (fun _ _ _ h => h) hHeld (by rfl) (fun wx hSx => ?_) ?_
                  rotate_left
                  · (unfold SB at hSx; go_simp; (try with_reducible rfl))
                  (try simp only [Act.put, putA, putB, putC])
                  refine ord_take (i := 9) (preB 10 25) ?_ rfl (by kernel_rfl) (by kernel_rfl) (by kernel_rfl) (by kernel_rfl) (fun _ _ _ h => h) hHeld (by rfl) (fun wx hSx => ?_) ?_
                  rotate_left
                  · (unfold SB at hSx; go_simp; (try with_reducible rfl))
                  (try simp only [Act.put, putA, putB, putC])
                  refine ord_take (i := 10) (preB 11 24) ?_ rfl (by kernel_rfl) (by kernel_rfl) (by kernel_rfl) (by kernel_rfl) (fun _ _ _ h => h) hHeld (by rfl) (fun wx hSx => ?_) ?_
                  rotate_left
                  · (unfold SB at hSx; go_simp; (try with_reducible rfl))
                  (try simp only [Act.put, putA, putB, putC])
                  refine wpAnyH_ready (rs := [11]) (by kernel_rfl) (by simp) ?_
                  refine ord_run (i := 11) (preB 12 23) rfl (by kernel_rfl) (by rfl) (fun K hK => ?_) AllReadyH.nil
                  go_simp
                  go_wp2_with (go_at_call 47; refine (HO.out _).mono ?_; rintro e w1 ⟨rfl, rfl⟩)
                  refine hK.out _ _ ?_ (fun hHeld => ?_)
                  · (repeat (first | (with_reducible first | exact SB.refl | exact hHeld | refine SB.drew ?_ | refine SB.drewN ?_ _) | ((with_reducible first | refine SB.alloc ?_ ?_ _ | refine SB.below ?_ hbS ?_ | refine SB.below ?_ hbS1 ?_ | refine SB.below ?_ hbS2 ?_ | refine SB.below ?_ hbS3 ?_ | refine SB.below ?_ hbS4 ?_); rotate_left; (first | omega | (simp <;> omega))) | ((with_reducible refine SB.setCell ?_ ?_ _); rotate_left; (focus (first | (simp; done) | (right; first | omega | (simp <;> omega))))) | (with_reducible refine SB.undrew ?_) | ((with_reducible refine SB.congr ?_ ?_); rotate_left; (focus (simp; done))) | ((with_reducible refine SB.realloc ?_ ?_ ?_); rotate_left; (focus (simp; done)); (focus (simp; done)))))
                  clear hK K
                  (try simp only [Act.put, putA, putB, putC])
                  refine ord_take (i := 12) (preB 13 22) ?_ rfl (by kernel_rfl) (by kernel_rfl) (by kernel_rfl) (by kernel_rfl) (fun _ _ _ h => h) hHeld (by rfl) (fun wx hSx => ?_) ?_
                  rotate_left
                  · (unfold SB at hSx; go_simp; (try with_reducible rfl))
                  (try simp only [Act.put, putA, putB, putC])
                  refine ord_take (i := 13) (preB 14 21) ?_ rfl (by kernel_rfl) (by kernel_rfl) (by kernel_rfl) (by kernel_rfl) (fun _ _ _ h => h) hHeld (by rfl) (fun wx hSx => ?_) ?_
                  rotate_left
                  · (unfold SB at hSx; go_simp; (try with_reducible rfl))
                  (try simp only [Act.put, putA, putB, putC])
                  refine ord_take (i := 14) (preB 15 20) ?_ rfl (by kernel_rfl) (by kernel_rfl) (by kernel_rfl) (by kernel_rfl) (fun _ _ _ h => h) hHeld (by rfl) (fun wx hSx => ?_) ?_
                  rotate_left
                  · (unfold SB at hSx; go_simp; (try with_reducible rfl))
                  (try simp only [Act.put, putA, putB, putC])
                  refine ord_take (i := 15) (preB 16 19) ?_ rfl (by kernel_rfl) (by kernel_rfl) (by kernel_rfl) (by kernel_rfl) (fun _ _ _ h => h) hHeld (by rfl) (fun wx hSx => ?_) ?_
                  rotate_left
                  · (unfold SB at hSx; go_simp; (try with_reducible rfl))
                  (try simp only [Act.put, putA, putB, putC])
                  refine ord_take (i := 16) (preB 17 18) ?_ rfl (by kernel_rfl) (by kernel_rfl) (by kernel_rfl) (by kernel_rfl) (fun _ _ _ h => h) hHeld (by rfl) (fun wx hSx => ?_) ?_
                  rotate_left
                  · (unfold SB at hSx; go_simp; (try with_reducible rfl))
                  (try simp only [Act.put, putA, putB, putC])
                  refine ord_take (i := 17) (preB 18 17) ?_ rfl (by kernel_rfl) (by kernel_rfl) (by kernel_rfl) (by kernel_rfl) (fun _ _ _ h => h) hHeld (by rfl) (fun wx hSx => ?_) ?_
                  rotate_left
                  · (unfold SB at hSx; go_simp; (try with_reducible rfl))
                  (try simp only [Act.put, putA, putB, putC])
                  refine ord_take (i := 18) (preB 19 16) ?_ rfl (by kernel_rfl) (by kernel_rfl) (by kernel_rfl) (by kernel_rfl) (fun _ _ _ h => h) hHeld (by rfl) (fun wx hSx => ?_) ?_
                  rotate_left
                  · (unfold SB at hSx; go_simp; (try with_reducible rfl))
                  (try simp only [Act.put, putA, putB, putC])
                  refine ord_take (i := 19) (preB 20 15) ?_ rfl (by kernel_rfl) (by kernel_rfl) (by kernel_rfl) (by kernel_rfl) (fun _ _ _ h => h) hHeld (by rfl) (fun wx hSx => ?_) ?_
                  rotate_left
                  · (unfold SB at hSx; go_simp; (try with_reducible rfl))
                  (try simp only [Act.put, putA, putB, putC])
                  refine ord_take (i := 20) (preB 21 14) ?_ rfl (by kernel_rfl) (by kernel_rfl) (by kernel_rfl) (by kernel_rfl) (fun _ _ _ h => h) hHeld (by rfl) (fun wx hSx => ?_) ?_
                  rotate_left
                  · (unfold SB at hSx; go_simp; (try with_reducible rfl))
                  (try simp only [Act.put, putA, putB, putC])
                  refine ord_take (i := 21) (preB 22 13) ?_ rfl (by kernel_rfl) (by kernel_rfl) (by kernel_rfl) (by kernel_rfl) (fun _ _ _ h => h) hHeld (by rfl) (fun wx hSx => ?_) ?_
                  rotate_left
                  · (unfold SB at hSx; go_simp; (try with_reducible rfl))
                  (try simp only [Act.put, putA, putB, putC])
                  refine ord_take (i := 22) (preB 23 12) ?_ rfl (by kernel_rfl) (by kernel_rfl) (by kernel_rfl) (by kernel_rfl) (fun _ _ _ h => h) hHeld (by rfl) (fun wx hSx => ?_) ?_
                  rotate_left
                  · (unfold SB at hSx; go_simp; (try with_reducible rfl))
                  (try simp only [Act.put, putA, putB, putC])
                  refine ord_take (i := 23) (preB 24 11) ?_ rfl (by kernel_rfl) (by kernel_rfl) (by kernel_rfl) (by kernel_rfl) (fun _ _ _ h => h) hHeld (by rfl) (fun wx hSx => ?_) ?_
                  rotate_left
                  · (unfold SB at hSx; go_simp; (try with_reducible rfl))
                  (try simp only [Act.put, putA, putB, putC])
                  refine ord_take (i := 24) (preB 25 10) ?_ rfl (by kernel_rfl) (by kernel_rfl) (by kernel_rfl) (by kernel_rfl) (fun _ _ _ h => h) hHeld (by rfl) (fun wx hSx => ?_) ?_
                  rotate_left
                  · (unfold SB at hSx; go_simp; (try with_reducible rfl))
                  (try simp only [Act.put, putA, putB, putC])
                  refine ord_take (i := 25) (preB 26 9) ?_ rfl (by kernel_rfl) (by kernel_rfl) (by kernel_rfl) (by kernel_rfl) (fun _ _ _ h => h) hHeld (by rfl) (fun wx hSx => ?_) ?_
                  rotate_left
                  · (unfold SB at hSx; go_simp; (try with_reducible rfl))
                  (try simp only [Act.put, putA, putB, putC])
                  refine ord_take (i := 26) (preB 27 8) ?_ rfl (by kernel_rfl) (by kernel_rfl) (by kernel_rfl) (by kernel_rfl) (fun _ _ _ h => h) hHeld (by rfl) (fun wx hSx => ?_) ?_
                  rotate_left
                  · (unfold SB at hSx; go_simp; (try with_reducible rfl))
                  (try simp only [Act.put, putA, putB, putC])
                  refine ord_take (i := 27) (preB 28 7) ?_ rfl (by kernel_rfl) (by kernel_rfl) (by kernel_rfl) (by kernel_rfl) (fun _ _ _ h => h) hHeld (by rfl) (fun wx hSx => ?_) ?_
                  rotate_left
                  · (unfold SB at hSx; go_simp; (try with_reducible rfl))
                  (try simp only [Act.put, putA, putB, putC])
                  refine ord_take (i := 28) (preB 29 6) ?_ rfl (by kernel_rfl) (by kernel_rfl) (by kernel_rfl) (by kernel_rfl) (fun _ _ _ h => h) hHeld (by rfl) (fun wx hSx => ?_) ?_
                  rotate_left
                  · (unfold SB at hSx; go_simp; (try with_reducible rfl))
                  (try simp only [Act.put, putA, putB, putC])
                  refine ord_take (i := 29) (preB 30 5) ?_ rfl (by kernel_rfl) (by kernel_rfl) (by kernel_rfl) (by kernel_rfl) (fun _ _ _ h => h) hHeld (by rfl) (fun wx hSx => ?_) ?_
                  rotate_left
                  · (unfold SB at hSx; go_simp; (try with_reducible rfl))
                  (try simp only [Act.put, putA, putB, putC])
                  refine ord_take (i := 30) (preB 31 4) ?_ rfl (by kernel_rfl) (by kernel_rfl) (by kernel_rfl) (by kernel_rfl) (fun _ _ _ h => h) hHeld (by rfl) (fun wx hSx => ?_) ?_
                  rotate_left
                  · (unfold SB at hSx; go_simp; (try with_reducible rfl))
                  (try simp only [Act.put, putA, putB, putC])
                  refine wpAnyH_ready (rs := [31]) (by kernel_rfl) (by simp) ?_
                  refine ord_run (i := 31) (preB 32 3) rfl (by kernel_rfl) (by rfl) (fun K hK => ?_) AllReadyH.nil
                  go_simp
                  go_wp2_with (go_at_call 8; refine (HN.out _ (HT.out.below (by (repeat (first | (with_reducible first | exact Below.refl _ _ | assumption | refine Below.drew ?_) | ((with_reducible first | refine Below.alloc ?_ ?_ _ | refine Below.setCell ?_ ?_ _); rotate_left; (first | omega | (simp <;> omega)))))))).mono ?_; rintro e w1 ⟨rfl, hb⟩; have hbS := hb; have hbS1 := hb; have J1 := hide (show Below w.heap.size w w1 from Below.trans (by (repeat (first | (with_reducible first | exact Below.refl _ _ | assumption | refine Below.drew ?_) | ((with_reducible first | refine Below.alloc ?_ ?_ _ | refine Below.setCell ?_ ?_ _); rotate_left; (first | omega | (simp <;> omega)))))) (hb.mono (by first | omega | (simp <;> omega)))); have zJ1 := J1.out.size; clear hb)
                  refine hK.out _ _ ?_ (fun hHeld => ?_)
                  · (repeat (first | (with_reducible first | exact SB.refl | exact hHeld | refine SB.drew ?_ | refine SB.drewN ?_ _) | ((with_reducible first | refine SB.alloc ?_ ?_ _ | refine SB.below ?_ hbS ?_ | refine SB.below ?_ hbS1 ?_ | refine SB.below ?_ hbS2 ?_ | refine SB.below ?_ hbS3 ?_ | refine SB.below ?_ hbS4 ?_); rotate_left; (first | omega | (simp <;> omega))) | ((with_reducible refine SB.setCell ?_ ?_ _); rotate_left; (focus (first | (simp; done) | (right; first | omega | (simp <;> omega))))) | (with_reducible refine SB.undrew ?_) | ((with_reducible refine SB.congr ?_ ?_); rotate_left; (focus (simp; done))) | ((with_reducible refine SB.realloc ?_ ?_ ?_); rotate_left; (focus (simp; done)); (focus (simp; done)))))
                  clear hK K
                  (try simp only [Act.put, putA, putB, putC])
                  refine ord_take (i := 32) (preB 33 2) ?_ rfl (by kernel_rfl) (by kernel_rfl) (by kernel_rfl) (by kernel_rfl) (fun _ _ _ h => h) hHeld (by rfl) (fun wx hSx => ?_) ?_
                  rotate_left
                  · (unfold SB at hSx; go_simp; (try with_reducible rfl))
                  (try simp only [Act.put, putA, putB, putC])
                  refine ord_take (i := 33) (preB 34 1) ?_ rfl (by kernel_rfl) (by kernel_rfl) (by kernel_rfl) (by kernel_rfl) (fun _ _ _ h => h) hHeld (by rfl) (fun wx hSx => ?_) ?_
                  rotate_left
                  · (unfold SB at hSx; go_simp; (try with_reducible rfl))
                  (try simp only [Act.put, putA, putB, putC])
                  refine ord_take (i := 34) (preB 35 0) ?_ rfl (by kernel_rfl) (by kernel_rfl) (by kernel_rfl) (by kernel_rfl) (fun _ _ _ h => h) hHeld (by rfl) (fun wx hSx => ?_) ?_
                  rotate_left
                  · (unfold SB at hSx; go_simp; (try with_reducible rfl))
                  (try simp only [Act.put, putA, putB, putC])
                  refine wpAnyH_done (by kernel_rfl) ?_ _
                  go_wp2_with fail
                  go_ret
                  exact ⟨by rw [HVAL.out, HOB.out, HEX.out]; (try cases vo) <;> (try cases nb) <;> (try cases cb) <;> rfl, J1.out.trans (by (repeat (first | (with_reducible first | exact Below.refl _ _ | assumption | refine Below.drew ?_) | ((with_reducible first | refine Below.alloc ?_ ?_ _ | refine Below.setCell ?_ ?_ _); rotate_left; (first | omega | (simp <;> omega))))))⟩
              · have d6 : decide (ex ≤ 1000000000000) = false := decide_eq_false g6
                have HEX := hide (show decide (0 ≤ ex ∧ ex ≤ 1000000000000) = false from decide_eq_false (fun h => g6 h.2))
                clear g5 g6
                go_wp2_with fail
                refine ord_start (SB (w.heap.size + 1) [] _) 35 (preB 0 35) (by kernel_rfl) (by kernel_rfl) (by kernel_rfl) SB.refl.drew (fun hHeld => ?_)
                refine ord_take (i := 0) (preB 1 34) ?_ rfl (by kernel_rfl) (by kernel_rfl) (by kernel_rfl) (by kernel_rfl) (fun _ _ _ h => h) hHeld (by rfl) (fun wx hSx => ?_) ?_
                rotate_left
                · (unfold SB at hSx; go_simp; (try with_reducible rfl))
                (try simp only [Act.put, putA, putB, putC])
                refine ord_take (i := 1) (preB 2 33) ?_ rfl (by kernel_rfl) (by kernel_rfl) (by kernel_rfl) (by kernel_rfl) (fun _ _ _ h => h) hHeld (by rfl) (fun wx hSx => ?_) ?_
                rotate_left
                · (unfold SB at hSx; go_simp; (try with_reducible rfl))
                (try simp only [Act.put, putA, putB, putC])
                refine ord_take (i := 2) (preB 3 32) ?_ rfl (by kernel_rfl) (by kernel_rfl) (by kernel_rfl) (by kernel_rfl) (fun _ _ _ h => h) hHeld (by rfl) (fun wx hSx => ?_) ?_
                rotate_left
                · (unfold SB at hSx; go_simp; (try with_reducible rfl))
                (try simp only [Act.put, putA, putB, putC])
                refine ord_take (i := 3) (preB 4 31) ?_ rfl (by kernel_rfl) (by kernel_rfl) (by kernel_rfl) (by kernel_rfl) (fun _ _ _ h => h) hHeld (by rfl) (fun wx hSx => ?_) ?_
                rotate_left
                · (unfold SB at hSx; go_simp; (try with_reducible rfl))
                (try simp only [Act.put, putA, putB, putC])
                refine ord_take (i := 4) (preB 5 30) ?_ rfl (by kernel_rfl) (by kernel_rfl) (by kernel_rfl) (by kernel_rfl) (fun _ _ _ h => h) hHeld (by rfl) (fun wx hSx => ?_) ?_
                rotate_left
                · (unfold SB at hSx; go_simp; (try with_reducible rfl))
                (try simp only [Act.put, putA, putB, putC])
                refine ord_take (i := 5) (preB 6 29) ?_ rfl (by kernel_rfl) (by kernel_rfl) (by kernel_rfl) (by kernel_rfl) (fun _ _ _ h => h) hHeld (by rfl) (fun wx hSx => ?_) ?_
                rotate_left
                · (unfold SB at hSx; go_simp; (try with_reducible rfl))
                (try simp only [Act.put, putA, putB, putC])
                refine ord_take (i := 6) (preB 7 28) ?_ rfl (by kernel_rfl) (by kernel_rfl) (by kernel_rfl) (by kernel_rfl) (fun _ _ _ h => h) hHeld (by rfl) (fun wx hSx => ?_) ?_
                rotate_left
                · (unfold SB at hSx; go_simp; (try with_reducible rfl))
                (try simp only [Act.put, putA, putB, putC])
                refine ord_take (i := 7) (preB 8 27) ?_ rfl (by kernel_rfl) (by kernel_rfl) (by kernel_rfl) (by kernel_rfl) (fun _ _ _ h => h) hHeld (by rfl) (fun wx hSx => ?_) ?_
                rotate_left
                · (unfold SB at hSx; go_simp; (try with_reducible rfl))
                (try simp only [Act.put, putA, putB, putC])
                refine ord_take (i := 8) (preB 9 26) ?_ rfl (by kernel_rfl) (by kernel_rfl) (by kernel_rfl) (by kernel_rfl) (fun _ _ _ h => h) hHeld (by rfl) (fun wx hSx => ?_) ?_
                rotate_left
                · (unfold SB at hSx; go_simp; (try with_reducible rfl))
                (try simp only [Act.put, putA, putB, putC])
                refine ord_take (i := 9) (preB 10 25) ?_ rfl (by kernel_rfl) (by kernel_rfl) (by kernel_rfl) (by kernel_rfl) (fun _ _ _ h => h) hHeld (by rfl) (fun wx hSx => ?_) ?_
                rotate_left
                · (unfold SB at hSx; go_simp; (try with_reducible rfl))
                (try simp only [Act.put, putA, putB, putC])
                refine ord_take (i := 10) (preB 11 24) ?_ rfl (by kernel_rfl) (by kernel_rfl) (by kernel_rfl) (by kernel_rfl) (fun _ _ _ h => h) hHeld (by rfl) (fun wx hSx => ?_) ?_
                rotate_left
                · (unfold SB at hSx; go_simp; (try with_reducible rfl))
                (try simp only [Act.put, putA, putB, putC])
                refine wpAnyH_ready (rs := [11]) (by kernel_rfl) (by simp) ?_
                refine ord_run (i := 11) (preB 12 23) rfl (by kernel_rfl) (by rfl) (fun K hK => ?_) AllReadyH.nil
                go_simp
                go_wp2_with (go_at_call 47; refine (HO.out _).mono ?_; rintro e w1 ⟨rfl, rfl⟩)
                refine hK.out _ _ ?_ (fun hHeld => ?_)
                · (repeat (first | (with_reducible first | exact SB.refl | exact hHeld | refine SB.drew ?_ | refine SB.drewN ?_ _) | ((with_reducible first | refine SB.alloc ?_ ?_ _ | refine SB.below ?_ hbS ?_ | refine SB.below ?_ hbS1 ?_ | refine SB.below ?_ hbS2 ?_ | refine SB.below ?_ hbS3 ?_ | refine SB.below ?_ hbS4 ?_); rotate_left; (first | omega | (simp <;> omega))) | ((with_reducible refine SB.setCell ?_ ?_ _); rotate_left; (focus (first | (simp; done) | (right; first | omega | (simp <;> omega))))) | (with_reducible refine SB.undrew ?_) | ((with_reducible refine SB.congr ?_ ?_); rotate_left; (focus (simp; done))) | ((with_reducible refine SB.realloc ?_ ?_ ?_); rotate_left; (focus (simp; done)); (focus (simp; done)))))
                clear hK K
                (try simp only [Act.put, putA, putB, putC])
                refine ord_take (i := 12) (preB 13 22) ?_ rfl (by kernel_rfl) (by kernel_rfl) (by kernel_rfl) (by kernel_rfl) (fun _ _ _ h => h) hHeld (by rfl) (fun wx hSx => ?_) ?_
                rotate_left
                · (unfold SB at hSx; go_simp; (try with_reducible rfl))
                (try simp only [Act.put, putA, putB, putC])
                refine ord_take (i := 13) (preB 14 21) ?_ rfl (by kernel_rfl) (by kernel_rfl) (by kernel_rfl) (by kernel_rfl) (fun _ _ _ h => h) hHeld (by rfl) (fun wx hSx => ?_) ?_
                rotate_left
                · (unfold SB at hSx; go_simp; (try with_reducible rfl))
                (try simp only [Act.put, putA, putB, putC])
                refine ord_take (i := 14) (preB 15 20) ?_ rfl (by kernel_rfl) (by kernel_rfl) (by kernel_rfl) (by kernel_rfl) (fun _ _ _ h => h) hHeld (by rfl) (fun wx hSx => ?_) ?_
                rotate_left
                · (unfold SB at hSx; go_simp; (try with_reducible rfl))
                (try simp only [Act.put, putA, putB, putC])
                refine ord_take (i := 15) (preB 16 19) ?_ rfl (by kernel_rfl) (by kernel_rfl) (by kernel_rfl) (by kernel_rfl) (fun _ _ _ h => h) hHeld (by rfl) (fun wx hSx => ?_) ?_
                rotate_left
                · (unfold SB at hSx; go_simp; (try with_reducible rfl))
                (try simp only [Act.put, putA, putB, putC])
                refine ord_take (i := 16) (preB 17 18) ?_ rfl (by kernel_rfl) (by kernel_rfl) (by kernel_rfl) (by kernel_rfl) (fun _ _ _ h => h) hHeld (by rfl) (fun wx hSx => ?_) ?_
                rotate_left
                · (unfold SB at hSx; go_simp; (try with_reducible rfl))
                (try simp only [Act.put, putA, putB, putC])
                refine ord_take (i := 17) (preB 18 17) ?_ rfl (by kernel_rfl) (by kernel_rfl) (by kernel_rfl) (by kernel_rfl) (fun _ _ _ h => h) hHeld (by rfl) (fun wx hSx => ?_) ?_
                rotate_left
                · (unfold SB at hSx; go_simp; (try with_reducible rfl))
                (try simp only [Act.put, putA, putB, putC])
                refine ord_take (i := 18) (preB 19 16) ?_ rfl (by kernel_rfl) (by kernel_rfl) (by kernel_rfl) (by kernel_rfl) (fun _ _ _ h => h) hHeld (by rfl) (fun wx hSx => ?_) ?_
                rotate_left
                · (unfold SB at hSx; go_simp; (try with_reducible rfl))
                (try simp only [Act.put, putA, putB, putC])
                refine ord_take (i := 19) (preB 20 15) ?_ rfl (by kernel_rfl) (by kernel_rfl) (by kernel_rfl) (by kernel_rfl) (fun _ _ _ h => h) hHeld (by rfl) (fun wx hSx => ?_) ?_
                rotate_left
                · (unfold SB at hSx; go_simp; (try with_reducible rfl))
                (try simp only [Act.put, putA, putB, putC])
                refine ord_take (i := 20) (preB 21 14) ?_ rfl (by kernel_rfl) (by kernel_rfl) (by kernel_rfl) (by kernel_rfl) (fun _ _ _ h => h) hHeld (by rfl) (fun wx hSx => ?_) ?_
                rotate_left
                · (unfold SB at hSx; go_simp; (try with_reducible rfl))
                (try simp only [Act.put, putA, putB, putC])
                refine ord_take (i := 21) (preB 22 13) ?_ rfl (by kernel_rfl) (by kernel_rfl) (by kernel_rfl) (by kernel_rfl) (fun _ _ _ h => h) hHeld (by rfl) (fun wx hSx => ?_) ?_
                rotate_left
                · (unfold SB at hSx; go_simp; (try with_reducible rfl))
                (try simp only [Act.put, putA, putB, putC])
                refine ord_take (i := 22) (preB 23 12) ?_ rfl (by kernel_rfl) (by kernel_rfl) (by kernel_rfl) (by kernel_rfl) (fun _ _ _ h => h) hHeld (by rfl) (fun wx hSx => ?_) ?_
                rotate_left
                · (unfold SB at hSx; go_simp; (try with_reducible rfl))
                (try simp only [Act.put, putA, putB, putC])
                refine ord_take (i := 23) (preB 24 11) ?_ rfl (by kernel_rfl) (by kernel_rfl) (by kernel_rfl) (by kernel_rfl) (fun _ _ _ h => h) hHeld (by rfl) (fun wx hSx => ?_) ?_
                rotate_left
                · (unfold SB at hSx; go_simp; (try with_reducible rfl))
                (try simp only [Act.put, putA, putB, putC])
                refine ord_take (i := 24) (preB 25 10) ?_ rfl (by kernel_rfl) (by kernel_rfl) (by kernel_rfl) (by kernel_rfl) (fun _ _ _ h => h) hHeld (by rfl) (fun wx hSx => ?_) ?_
                rotate_left
                · (unfold SB at hSx; go_simp; (try with_reducible rfl))
                (try simp only [Act.put, putA, putB, putC])
                refine ord_take (i := 25) (preB 26 9) ?_ rfl (by kernel_rfl) (by kernel_rfl) (by kernel_rfl) (by kernel_rfl) (fun _ _ _ h => h) hHeld (by rfl) (fun wx hSx => ?_) ?_
                rotate_left
                · (unfold SB at hSx; go_simp; (try with_reducible rfl))
                (try simp only [Act.put, putA, putB, putC])
                refine ord_take (i := 26) (preB 27 8) ?_ rfl (by kernel_rfl) (by kernel_rfl) (by kernel_rfl) (by kernel_rfl) (fun _ _ _ h => h) hHeld (by rfl) (fun wx hSx => ?_) ?_
                rotate_left
                · (unfold SB at hSx; go_simp; (try with_reducible rfl))
                (try simp only [Act.put, putA, putB, putC])
                refine ord_skip (i := 27) (preB 28 7) rfl (by kernel_rfl) (by kernel_rfl) (by kernel_rfl) (by kernel_rfl) (fun _ _ _ h => h) hHeld (by rfl) ?_
                (try simp only [Act.put, putA, putB, putC])
                refine ord_skip (i := 28) (preB 29 6) rfl (by kernel_rfl) (by kernel_rfl) (by kernel_rfl) (by kernel_rfl) (fun _ _ _ h => h) hHeld (by rfl) ?_
                (try simp only [Act.put, putA, putB, putC])
                refine ord_skip (i := 29) (preB 30 5) rfl (by kernel_rfl) (by kernel_rfl) (by kernel_rfl) (by kernel_rfl) (fun _ _ _ h => h) hHeld (by rfl) ?_
                (try simp only [Act.put, putA, putB, putC])
                refine ord_skip (i := 30) (preB 31 4) rfl (by kernel_rfl) (by kernel_rfl) (by kernel_rfl) (by kernel_rfl) (fun _ _ _ h => h) hHeld (by rfl) ?_
                (try simp only [Act.put, putA, putB, putC])
                refine ord_skip (i := 31) (preB 32 3) rfl (by kernel_rfl) (by kernel_rfl) (by kernel_rfl) (by kernel_rfl) (fun _ _ _ h => h) hHeld (by rfl) ?_
                (try simp only [Act.put, putA, putB, putC])
                refine ord_skip (i := 32) (preB 33 2) rfl (by kernel_rfl) (by kernel_rfl) (by kernel_rfl) (by kernel_rfl) (fun _ _ _ h => h) hHeld (by rfl) ?_
                (try simp only [Act.put, putA, putB, putC])
                refine ord_take (i := 33) (preB 34 1) ?_ rfl (by kernel_rfl) (by kernel_rfl) (by kernel_rfl) (by kernel_rfl) (fun _ _ _ h => h) hHeld (by rfl) (fun wx hSx => ?_) ?_
                rotate_left
                · (unfold SB at hSx; go_simp; (try with_reducible rfl))
                (try simp only [Act.put, putA, putB, putC])
                refine ord_take (i := 34) (preB 35 0) ?_ rfl (by kernel_rfl) (by kernel_rfl) (by kernel_rfl) (by kernel_rfl) (fun _ _ _ h => h) hHeld (by rfl) (fun wx hSx => ?_) ?_
                rotate_left
                · (unfold SB at hSx; go_simp; (try with_reducible rfl))
                (try simp only [Act.put, putA, putB, putC])
                refine wpAnyH_done (by kernel_rfl) ?_ _
                go_wp2_with fail
                go_ret
                exact ⟨by rw [HVAL.out, HOB.out, HEX.out]; (try cases vo) <;> (try cases nb) <;> (try cases cb) <;> rfl, by (repeat (first | (with_reducible first | exact Below.refl _ _ | assumption | refine Below.drew ?_) | ((with_reducible first | refine Below.alloc ?_ ?_ _ | refine Below.setCell ?_ ?_ _); rotate_left; (first | omega | (simp <;> omega)))))⟩
            · have d5 : decide (0 ≤ ex) = false := decide_eq_false g5
              have HEX := hide (show decide (0 ≤ ex ∧ ex ≤ 1000000000000) = false from decide_eq_false (fun h => g5 h.1))
              clear g5
              go_wp2_with fail
              refine ord_start (SB (w.heap.size + 1) [] _) 35 (preB 0 35) (by kernel_rfl) (by kernel_rfl) (by kernel_rfl) SB.refl.drew (fun hHeld => ?_)
              refine ord_take (i := 0) (preB 1 34) ?_ rfl (by kernel_rfl) (by kernel_rfl) (by kernel_rfl) (by kernel_rfl) (fun _ _ _ h => h) hHeld (by rfl) (fun wx hSx => ?_) ?_
              rotate_left
              · (unfold SB at hSx; go_simp; (try with_reducible rfl))
              (try simp only [Act.put, putA, putB, putC])
              refine ord_take (i := 1) (preB 2 33) ?_ rfl (by kernel_rfl) (by kernel_rfl) (by kernel_rfl) (by kernel_rfl) (fun _ _ _ h => h) hHeld (by rfl) (fun wx hSx => ?_) ?_
              rotate_left
              · (unfold SB at hSx; go_simp; (try with_reducible rfl))
              (try simp only [Act.put, putA, putB, putC])
              refine ord_take (i := 2) (preB 3 32) ?_ rfl (by kernel_rfl) (by kernel_rfl) (by kernel_rfl) (by kernel_rfl) (fun _ _ _ h => h) hHeld (by rfl) (fun wx hSx => ?_) ?_
              rotate_left
              · (unfold SB at hSx; go_simp; (try with_reducible rfl))
              (try simp only [Act.put, putA, putB, putC])
              refine ord_take (i := 3) (preB 4 31) ?_ rfl (by kernel_rfl) (by kernel_rfl) (by kernel_rfl) (by kernel_rfl) (fun _ _ _ h => h) hHeld (by rfl) (fun wx hSx => ?_) ?_
              rotate_left
              · (unfold SB at hSx; go_simp; (try with_reducible rfl))
              (try simp only [Act.put, putA, putB, putC])
              refine ord_take (i := 4) (preB 5 30) ?_ rfl (by kernel_rfl) (by kernel_rfl) (by kernel_rfl) (by kernel_rfl) (fun _ _ _ h => h) hHeld (by rfl) (fun wx hSx => ?_) ?_
              rotate_left
              · (unfold SB at hSx; go_simp; (try with_reducible rfl))
              (try simp only [Act.put, putA, putB, putC])
              refine ord_take (i := 5) (preB 6 29) ?_ rfl (by kernel_rfl) (by kernel_rfl) (by kernel_rfl) (by kernel_rfl) (fun _ _ _ h => h) hHeld (by rfl) (fun wx hSx => ?_) ?_
              rotate_left
              · (unfold SB at hSx; go_simp; (try with_reducible rfl))
              (try simp only [Act.put, putA, putB, putC])
              refine ord_take (i := 6) (preB 7 28) ?_ rfl (by kernel_rfl) (by kernel_rfl) (by kernel_rfl) (by kernel_rfl) (fun _ _ _ h => h) hHeld (by rfl) (fun wx hSx => ?_) ?_
              rotate_left
              · (unfold SB at hSx; go_simp; (try with_reducible rfl))
              (try simp only [Act.put, putA, putB, putC])
              refine ord_take (i := 7) (preB 8 27) ?_ rfl (by kernel_rfl) (by kernel_rfl) (by kernel_rfl) (by kernel_rfl) (fun _ _ _ h => h) hHeld (by rfl) (fun wx hSx => ?_) ?_
              rotate_left
              · (unfold SB at hSx; go_simp; (try with_reducible rfl))
              (try simp only [Act.put, putA, putB, putC])
              refine ord_take (i := 8) (preB 9 26) ?_ rfl (by kernel_rfl) (by kernel_rfl) (by kernel_rfl) (by kernel_rfl) (fun _ _ _ h => h) hHeld (by rfl) (fun wx hSx => ?_) ?_
              rotate_left
              · (unfold SB at hSx; go_simp; (try with_reducible rfl))
              (try simp only [Act.put, putA, putB, putC])
              refine ord_take (i := 9) (preB 10 25) ?_ rfl (by kernel_rfl) (by kernel_rfl) (by kernel_rfl) (by kernel_rfl) (fun _ _ _ h => h) hHeld (by rfl) (fun wx hSx => ?_) ?_
              rotate_left
              · (unfold SB at hSx; go_simp; (try with_reducible rfl))
              (try simp only [Act.put, putA, putB, putC])
              refine ord_take (i := 10) (preB 11 24) ?_ rfl (by kernel_rfl) (by kernel_rfl) (by kernel_rfl) (by kernel_rfl) (fun _ _ _ h => h) hHeld (by rfl) (fun wx hSx => ?_) ?_
              rotate_left
              · (unfold SB at hSx; go_simp; (try with_reducible rfl))
              (try simp only [Act.put, putA, putB, putC])
              refine wpAnyH_ready (rs := [11]) (by kernel_rfl) (by simp) ?_
              refine ord_run (i := 11) (preB 12 23) rfl (by kernel_rfl) (by rfl) (fun K hK => ?_) AllReadyH.nil
              go_simp
              go_wp2_with (go_at_call 47; refine (HO.out _).mono ?_; rintro e w1 ⟨rfl, rfl⟩)
              refine hK.out _ _ ?_ (fun hHeld => ?_)
              · (repeat (first | (with_reducible first | exact SB.refl | exact hHeld | refine SB.drew ?_ | refine SB.drewN ?_ _) | ((with_reducible first | refine SB.alloc ?_ ?_ _ | refine SB.below ?_ hbS ?_ | refine SB.below ?_ hbS1 ?_ | refine SB.below ?_ hbS2 ?_ | refine SB.below ?_ hbS3 ?_ | refine SB.below ?_ hbS4 ?_); rotate_left; (first | omega | (simp <;> omega))) | ((with_reducible refine SB.setCell ?_ ?_ _); rotate_left; (focus (first | (simp; done) | (right; first | omega | (simp <;> omega))))) | (with_reducible refine SB.undrew ?_) | ((with_reducible refine SB.congr ?_ ?_); rotate_left; (focus (simp; done))) | ((with_reducible refine SB.realloc ?_ ?_ ?_); rotate_left; (focus (simp; done)); (focus (simp; done)))))
              clear hK K
              (try simp only [Act.put, putA, putB, putC])
              refine ord_take (i := 12) (preB 13 22) ?_ rfl (by kernel_rfl) (by kernel_rfl) (by kernel_rfl) (by kernel_rfl) (fun _ _ _ h => h) hHeld (by rfl) (fun wx hSx => ?_) ?_
              rotate_left
              · (unfold SB at hSx; go_simp; (try with_reducible rfl))
              (try simp only [Act.put, putA, putB, putC])
              refine ord_take (i := 13) (preB 14 21) ?_ rfl (by kernel_rfl) (by kernel_rfl) (by kernel_rfl) (by kernel_rfl) (fun _ _ _ h => h) hHeld (by rfl) (fun wx hSx => ?_) ?_
              rotate_left
              · (unfold SB at hSx; go_simp; (try with_reducible rfl))
              (try simp only [Act.put, putA, putB, putC])
              refine ord_take (i := 14) (preB 15 20) ?_ rfl (by kernel_rfl) (by kernel_rfl) (by kernel_rfl) (by kernel_rfl) (fun _ _ _ h => h) hHeld (by rfl) (fun wx hSx => ?_) ?_
              rotate_left
              · (unfold SB at hSx; go_simp; (try with_reducible rfl))
              (try simp only [Act.put, putA, putB, putC])
              refine ord_take (i := 15) (preB 16 19) ?_ rfl (by kernel_rfl) (by kernel_rfl) (by kernel_rfl) (by kernel_rfl) (fun _ _ _ h => h) hHeld (by rfl) (fun wx hSx => ?_) ?_
              rotate_left
              · (unfold SB at hSx; go_simp; (try with_reducible rfl))
              (try simp only [Act.put, putA, putB, putC])
              refine ord_take (i := 16) (preB 17 18) ?_ rfl (by kernel_rfl) (by kernel_rfl) (by kernel_rfl) (by kernel_rfl) (fun _ _ _ h => h) hHeld (by rfl) (fun wx hSx => ?_) ?_
              rotate_left
              · (unfold SB at hSx; go_simp; (try with_reducible rfl))
              (try simp only [Act.put, putA, putB, putC])
              refine ord_take (i := 17) (preB 18 17) ?_ rfl (by kernel_rfl) (by kernel_rfl) (by kernel_rfl) (by kernel_rfl) (fun _ _ _ h => h) hHeld (by rfl) (fun wx hSx => ?_) ?_
              rotate_left
              · (unfold SB at hSx; go_simp; (try with_reducible rfl))
              (try simp only [Act.put, putA, putB, putC])
              refine ord_take (i := 18) (preB 19 16) ?_ rfl (by kernel_rfl) (by kernel_rfl) (by kernel_rfl) (by kernel_rfl) (fun _ _ _ h => h) hHeld (by rfl) (fun wx hSx => ?_) ?_
              rotate_left
              · (unfold SB at hSx; go_simp; (try with_reducible rfl))
              (try simp only [Act.put, putA, putB, putC])
              refine ord_take (i := 19) (preB 20 15) ?_ rfl (by kernel_rfl) (by kernel_rfl) (by kernel_rfl) (by kernel_rfl) (fun _ _ _ h => h) hHeld (by rfl) (fun wx hSx => ?_) ?_
              rotate_left
              · (unfold SB at hSx; go_simp; (try with_reducible rfl))
              (try simp only [Act.put, putA, putB, putC])
              refine ord_take (i := 20) (preB 21 14) ?_ rfl (by kernel_rfl) (by kernel_rfl) (by kernel_rfl) (by kernel_rfl) (fun _ _ _ h => h) hHeld (by rfl) (fun wx hSx => ?_) ?_
              rotate_left
              · (unfold SB at hSx; go_simp; (try with_reducible rfl))
              (try simp only [Act.put, putA, putB, putC])
              refine ord_take (i := 21) (preB 22 13) ?_ rfl (by kernel_rfl) (by kernel_rfl) (by kernel_rfl) (by kernel_rfl) (fun _ _ _ h => h) hHeld (by rfl) (fun wx hSx => ?_) ?_
              rotate_left
              · (unfold SB at hSx; go_simp; (try with_reducible rfl))
              (try simp only [Act.put, putA, putB, putC])
              refine ord_skip (i := 22) (preB 23 12) rfl (by kernel_rfl) (by kernel_rfl) (by kernel_rfl) (by kernel_rfl) (fun _ _ _ h => h) hHeld (by rfl) ?_
              (try simp only [Act.put, putA, putB, putC])
              refine ord_skip (i := 23) (preB 24 11) rfl (by kernel_rfl) (by kernel_rfl) (by kernel_rfl) (by kernel_rfl) (fun _ _ _ h => h) hHeld (by rfl) ?_
              (try simp only [Act.put, putA, putB, putC])
              refine ord_skip (i := 24) (preB 25 10) rfl (by kernel_rfl) (by kernel_rfl) (by kernel_rfl) (by kernel_rfl) (fun _ _ _ h => h) hHeld (by rfl) ?_
              (try simp only [Act.put, putA, putB, putC])
              refine ord_take (i := 25) (preB 26 9) ?_ rfl (by kernel_rfl) (by kernel_rfl) (by kernel_rfl) (by kernel_rfl) (fun _ _ _ h => h) hHeld (by rfl) (fun wx hSx => ?_) ?_
              rotate_left
              · (unfold SB at hSx; go_simp; (try with_reducible rfl))
              (try simp only [Act.put, putA, putB, putC])
              refine ord_take (i := 26) (preB 27 8) ?_ rfl (by kernel_rfl) (by kernel_rfl) (by kernel_rfl) (by kernel_rfl) (fun _ _ _ h => h) hHeld (by rfl) (fun wx hSx => ?_) ?_
              rotate_left
              · (unfold SB at hSx; go_simp; (try with_reducible rfl))
              (try simp only [Act.put, putA, putB, putC])
              refine ord_skip (i := 27) (preB 28 7) rfl (by kernel_rfl) (by kernel_rfl) (by kernel_rfl) (by kernel_rfl) (fun _ _ _ h => h) hHeld (by rfl) ?_
              (try simp only [Act.put, putA, putB, putC])
              refine ord_skip (i := 28) (preB 29 6) rfl (by kernel_rfl) (by kernel_rfl) (by kernel_rfl) (by kernel_rfl) (fun _ _ _ h => h) hHeld (by rfl) ?_
              (try simp only [Act.put, putA, putB, putC])
              refine ord_skip (i := 29) (preB 30 5) rfl (by kernel_rfl) (by kernel_rfl) (by kernel_rfl) (by kernel_rfl) (fun _ _ _ h => h) hHeld (by rfl) ?_
              (try simp only [Act.put, putA, putB, putC])
              refine ord_skip (i := 30) (preB 31 4) rfl (by kernel_rfl) (by kernel_rfl) (by kernel_rfl) (by kernel_rfl) (fun _ _ _ h => h) hHeld (by rfl) ?_
              (try simp only [Act.put, putA, putB, putC])
              refine ord_skip (i := 31) (preB 32 3) rfl (by kernel_rfl) (by kernel_rfl) (by kernel_rfl) (by kernel_rfl) (fun _ _ _ h => h) hHeld (by rfl) ?_
              (try simp only [Act.put, putA, putB, putC])
              refine ord_skip (i := 32) (preB 33 2) rfl (by kernel_rfl) (by kernel_rfl) (by kernel_rfl) (by kernel_rfl) (fun _ _ _ h => h) hHeld (by rfl) ?_
              (try simp only [Act.put, putA, putB, putC])
              refine ord_take (i := 33) (preB 34 1) ?_ rfl (by kernel_rfl) (by kernel_rfl) (by kernel_rfl) (by kernel_rfl) (fun _ _ _ h => h) hHeld (by rfl) (fun wx hSx => ?_) ?_
              rotate_left
              · (unfold SB at hSx; go_simp; (try with_reducible rfl))
              (try simp only [Act.put, putA, putB, putC])
              refine ord_take (i := 34) (preB 35 0) ?_ rfl (by kernel_rfl) (by kernel_rfl) (by kernel_rfl) (by kernel_rfl) (fun _ _ _ h => h) hHeld (by rfl) (fun wx hSx => ?_) ?_
              rotate_left
              · (unfold SB at hSx; go_simp; (try with_reducible rfl))
              (try simp only [Act.put, putA, putB, putC])
              refine wpAnyH_done (by kernel_rfl) ?_ _
              go_wp2_with fail
              go_ret
              exact ⟨by rw [HVAL.out, HOB.out, HEX.out]; (try cases vo) <;> (try cases nb) <;> (try cases cb) <;> rfl, by (repeat (first | (with_reducible first | exact Below.refl _ _ | assumption | refine Below.drew ?_) | ((with_reducible first | refine Below.alloc ?_ ?_ _ | refine Below.setCell ?_ ?_ _); rotate_left; (first | omega | (simp <;> omega)))))⟩
      · have d2 : decide (i ≤ 99999999) = false := decide_eq_false g2
        have HOB := hide (show ob = false from by rw [hob]; exact decide_eq_false (fun h => g2 h.2))
        clear hob g1 g2
        go_wp2_with fail
        refine ord_start (SB (w.heap.size + 1) [] _) 35 (preB 0 35) (by kernel_rfl) (by kernel_rfl) (by kernel_rfl) SB.refl.drew (fun hHeld => ?_)
        refine ord_take (i := 0) (preB 1 34) ?_ rfl (by kernel_rfl) (by kernel_rfl) (by kernel_rfl) (by kernel_rfl) (fun _ _ _ h => h) hHeld (by rfl) (fun wx hSx => ?_) ?_
        rotate_left
        · (unfold SB at hSx; go_simp; (try with_reducible rfl))
        (try simp only [Act.put, putA, putB, putC])
        refine ord_take (i := 1) (preB 2 33) ?_ rfl (by kernel_rfl) (by kernel_rfl) (by kernel_rfl) (by kernel_rfl) (fun _ _ _ h => h) hHeld (by rfl) (fun wx hSx => ?_) ?_
        rotate_left
        · (unfold SB at hSx; go_simp; (try with_reducible rfl))
        (try simp only [Act.put, putA, putB, putC])
        refine ord_take (i := 2) (preB 3 32) ?_ rfl (by kernel_rfl) (by kernel_rfl) (by kernel_rfl) (by kernel_rfl) (fun _ _ _ h => h) hHeld (by rfl) (fun wx hSx => ?_) ?_
        rotate_left
        · (unfold SB at hSx; go_simp; (try with_reducible rfl))
        (try simp only [Act.put, putA, putB, putC])
        refine ord_take (i := 3) (preB 4 31) ?_ rfl (by kernel_rfl) (by kernel_rfl) (by kernel_rfl) (by kernel_rfl) (fun _ _ _ h => h) hHeld (by rfl) (fun wx hSx => ?_) ?_
        rotate_left
        · (unfold SB at hSx; go_simp; (try with_reducible rfl))
        (try simp only [Act.put, putA, putB, putC])
        refine ord_take (i := 4) (preB 5 30) ?_ rfl (by kernel_rfl) (by kernel_rfl) (by kernel_rfl) (by kernel_rfl) (fun _ _ _ h => h) hHeld (by rfl) (fun wx hSx => ?_) ?_
        rotate_left
        · (unfold SB at hSx; go_simp; (try with_reducible rfl))
        (try simp only [Act.put, putA, putB, putC])
        refine ord_take (i := 5) (preB 6 29) ?_ rfl (by kernel_rfl) (by kernel_rfl) (by kernel_rfl) (by kernel_rfl) (fun _ _ _ h => h) hHeld (by rfl) (fun wx hSx => ?_) ?_
        rotate_left
        · (unfold SB at hSx; go_simp; (try with_reducible rfl))
        (try simp only [Act.put, putA, putB, putC])
        refine ord_take (i := 6) (preB 7 28) ?_ rfl (by kernel_rfl) (by kernel_rfl) (by kernel_rfl) (by kernel_rfl) (fun _ _ _ h => h) hHeld (by rfl) (fun wx hSx => ?_) ?_
        rotate_left
        · (unfold SB at hSx; go_simp; (try with_reducible rfl))
        (try simp only [Act.put, putA, putB, putC])
        refine ord_take (i := 7) (preB 8 27) ?_ rfl (by kernel_rfl) (by kernel_rfl) (by kernel_rfl) (by kernel_rfl) (fun _ _ _ h => h) hHeld (by rfl) (fun wx hSx => ?_) ?_
        rotate_left
        · (unfold SB at hSx; go_simp; (try with_reducible rfl))
        (try simp only [Act.put, putA, putB, putC])
        refine ord_take (i := 8) (preB 9 26) ?_ rfl (by kernel_rfl) (by kernel_rfl) (by kernel_rfl) (by kernel_rfl) (fun _ _ _ h => h) hHeld (by rfl) (fun wx hSx => ?_) ?_
        rotate_left
        · (unfold SB at hSx; go_simp; (try with_reducible rfl))
        (try simp only [Act.put, putA, putB, putC])
        refine ord_skip (i := 9) (preB 10 25) rfl (by kernel_rfl) (by kernel_rfl) (by kernel_rfl) (by kernel_rfl) (fun _ _ _ h => h) hHeld (by rfl) ?_
        (try simp only [Act.put, putA, putB, putC])
        refine ord_skip (i := 10) (preB 11 24) rfl (by kernel_rfl) (by kernel_rfl) (by kernel_rfl) (by kernel_rfl) (fun _ _ _ h => h) hHeld (by rfl) ?_
        (try simp only [Act.put, putA, putB, putC])
        refine ord_skip (i := 11) (preB 12 23) rfl (by kernel_rfl) (by kernel_rfl) (by kernel_rfl) (by kernel_rfl) (fun _ _ _ h => h) hHeld (by rfl) ?_
        (try simp only [Act.put, putA, putB, putC])
        refine ord_take (i := 12) (preB 13 22) ?_ rfl (by kernel_rfl) (by kernel_rfl) (by kernel_rfl) (by kernel_rfl) (fun _ _ _ h => h) hHeld (by rfl) (fun wx hSx => ?_) ?_
        rotate_left
        · (unfold SB at hSx; go_simp; (try with_reducible rfl))
        (try simp only [Act.put, putA, putB, putC])
        refine ord_take (i := 13) (preB 14 21) ?_ rfl (by kernel_rfl) (by kernel_rfl) (by kernel_rfl) (by kernel_rfl) (fun _ _ _ h => h) hHeld (by rfl) (fun wx hSx => ?_) ?_
        rotate_left
        · (unfold SB at hSx; go_simp; (try with_reducible rfl))
        (try simp only [Act.put, putA, putB, putC])
        refine ord_skip (i := 14) (preB 15 20) rfl (by kernel_rfl) (by kernel_rfl) (by kernel_rfl) (by kernel_rfl) (fun _ _ _ h => h) hHeld (by rfl) ?_
        (try simp only [Act.put, putA, putB, putC])
        refine ord_take (i := 15) (preB 16 19) ?_ rfl (by kernel_rfl) (by kernel_rfl) (by kernel_rfl) (by kernel_rfl) (fun _ _ _ h => h) hHeld (by rfl) (fun wx hSx => ?_) ?_
        rotate_left
        · (unfold SB at hSx; go_simp; (try with_reducible rfl))
        (try simp only [Act.put, putA, putB, putC])
        refine ord_take (i := 16) (preB 17 18) ?_ rfl (by kernel_rfl) (by kernel_rfl) (by kernel_rfl) (by kernel_rfl) (fun _ _ _ h => h) hHeld (by rfl) (fun wx hSx => ?_) ?_
        rotate_left
        · (unfold SB at hSx; go_simp; (try with_reducible rfl))
        (try simp only [Act.put, putA, putB, putC])
        refine ord_skip (i := 17) (preB 18 17) rfl (by kernel_rfl) (by kernel_rfl) (by kernel_rfl) (by kernel_rfl) (fun _ _ _ h => h) hHeld (by rfl) ?_
        (try simp only [Act.put, putA, putB, putC])
        refine ord_skip (i := 18) (preB 19 16) rfl (by kernel_rfl) (by kernel_rfl) (by kernel_rfl) (by kernel_rfl) (fun _ _ _ h => h) hHeld (by rfl) ?_
        (try simp only [Act.put, putA, putB, putC])
        refine ord_skip (i := 19) (preB 20 15) rfl (by kernel_rfl) (by kernel_rfl) (by kernel_rfl) (by kernel_rfl) (fun _ _ _ h => h) hHeld (by rfl) ?_
        (try simp only [Act.put, putA, putB, putC])
        refine ord_take (i := 20) (preB 21 14) ?_ rfl (by kernel_rfl) (by kernel_rfl) (by kernel_rfl) (by kernel_rfl) (fun _ _ _ h => h) hHeld (by rfl) (fun wx hSx => ?_) ?_
        rotate_left
        · (unfold SB at hSx; go_simp; (try with_reducible rfl))
        (try simp only [Act.put, putA, putB, putC])
        refine ord_take (i := 21) (preB 22 13) ?_ rfl (by kernel_rfl) (by kernel_rfl) (by kernel_rfl) (by kernel_rfl) (fun _ _ _ h => h) hHeld (by rfl) (fun wx hSx => ?_) ?_
        rotate_left
        · (unfold SB at hSx; go_simp; (try with_reducible rfl))
        (try simp only [Act.put, putA, putB, putC])
        refine ord_skip (i := 22) (preB 23 12) rfl (by kernel_rfl) (by kernel_rfl) (by kernel_rfl) (by kernel_rfl) (fun _ _ _ h => h) hHeld (by rfl) ?_
        (try simp only [Act.put, putA, putB, putC])
        refine ord_skip (i := 23) (preB 24 11) rfl (by kernel_rfl) (by kernel_rfl) (by kernel_rfl) (by kernel_rfl) (fun _ _ _ h => h) hHeld (by rfl) ?_
        (try simp only [Act.put, putA, putB, putC])
        refine ord_skip (i := 24) (preB 25 10) rfl (by kernel_rfl) (by kernel_rfl) (by kernel_rfl) (by kernel_rfl) (fun _ _ _ h => h) hHeld (by rfl) ?_
        (try simp only [Act.put, putA, putB, putC])
        refine ord_take (i := 25) (preB 26 9) ?_ rfl (by kernel_rfl) (by kernel_rfl) (by kernel_rfl) (by kernel_rfl) (fun _ _ _ h => h) hHeld (by rfl) (fun wx hSx => ?_) ?_
        rotate_left
        · (unfold SB at hSx; go_simp; (try with_reducible rfl))
        (try simp only [Act.put, putA, putB, putC])
        refine ord_take (i := 26) (preB 27 8) ?_ rfl (by kernel_rfl) (by kernel_rfl) (by kernel_rfl) (by kernel_rfl) (fun _ _ _ h => h) hHeld (by rfl) (fun wx hSx => ?_) ?_
        rotate_left
        · (unfold SB at hSx; go_simp; (try with_reducible rfl))
        (try simp only [Act.put, putA, putB, putC])
        refine ord_skip (i := 27) (preB 28 7) rfl (by kernel_rfl) (by kernel_rfl) (by kernel_rfl) (by kernel_rfl) (fun _ _ _ h => h) hHeld (by rfl) ?_
        (try simp only [Act.put, putA, putB, putC])
        refine ord_skip (i := 28) (preB 29 6) rfl (by kernel_rfl) (by kernel_rfl) (by kernel_rfl) (by kernel_rfl) (fun _ _ _ h => h) hHeld (by rfl) ?_
        (try simp only [Act.put, putA, putB, putC])
        refine ord_skip (i := 29) (preB 30 5) rfl (by kernel_rfl) (by kernel_rfl) (by kernel_rfl) (by kernel_rfl) (fun _ _ _ h => h) hHeld (by rfl) ?_
        (try simp only [Act.put, putA, putB, putC])
        refine ord_skip (i := 30) (preB 31 4) rfl (by kernel_rfl) (by kernel_rfl) (by kernel_rfl) (by kernel_rfl) (fun _ _ _ h => h) hHeld (by rfl) ?_
        (try simp only [Act.put, putA, putB, putC])
        refine ord_skip (i := 31) (preB 32 3) rfl (by kernel_rfl) (by kernel_rfl) (by kernel_rfl) (by kernel_rfl) (fun _ _ _ h => h) hHeld (by rfl) ?_
        (try simp only [Act.put, putA, putB, putC])
        refine ord_skip (i := 32) (preB 33 2) rfl (by kernel_rfl) (by kernel_rfl) (by kernel_rfl) (by kernel_rfl) (fun _ _ _ h => h) hHeld (by rfl) ?_
        (try simp only [Act.put, putA, putB, putC])
        refine ord_take (i := 33) (preB 34 1) ?_ rfl (by kernel_rfl) (by kernel_rfl) (by kernel_rfl) (by kernel_rfl) (fun _ _ _ h => h) hHeld (by rfl) (fun wx hSx => ?_) ?_
        rotate_left
        · (unfold SB at hSx; go_simp; (try with_reducible rfl))
        (try simp only [Act.put, putA, putB, putC])
        refine ord_take (i := 34) (preB 35 0) ?_ rfl (by kernel_rfl) (by kernel_rfl) (by kernel_rfl) (by kernel_rfl) (fun _ _ _ h => h) hHeld (by rfl) (fun wx hSx => ?_) ?_
        rotate_left
        · (unfold SB at hSx; go_simp; (try with_reducible rfl))
        (try simp only [Act.put, putA, putB, putC])
        refine wpAnyH_done (by kernel_rfl) ?_ _
        go_wp2_with fail
        go_ret
        exact ⟨by rw [HVAL.out, HOB.out]; (try cases vo) <;> (try cases nb) <;> (try cases cb) <;> simp, by (repeat (first | (with_reducible first | exact Below.refl _ _ | assumption | refine Below.drew ?_) | ((with_reducible first | refine Below.alloc ?_ ?_ _ | refine Below.setCell ?_ ?_ _); rotate_left; (first | omega | (simp <;> omega)))))⟩
    · have d1 : decide (1000 ≤ i) = false := decide_eq_false g1
      have HOB := hide (show ob = false from by rw [hob]; exact decide_eq_false (fun h => g1 h.1))
      clear hob g1
      go_wp2_with fail
      refine ord_start (SB (w.heap.size + 1) [] _) 35 (preB 0 35) (by kernel_rfl) (by kernel_rfl) (by kernel_rfl) SB.refl.drew (fun hHeld => ?_)
      refine ord_take (i := 0) (preB 1 34) ?_ rfl (by kernel_rfl) (by kernel_rfl) (by kernel_rfl) (by kernel_rfl) (fun _ _ _ h => h) hHeld (by rfl) (fun wx hSx => ?_) ?_
      rotate_left
      · (unfold SB at hSx; go_simp; (try with_reducible rfl))
      (try simp only [Act.put, putA, putB, putC])
      refine ord_take (i := 1) (preB 2 33) ?_ rfl (by kernel_rfl) (by kernel_rfl) (by kernel_rfl) (by kernel_rfl) (fun _ _ _ h => h) hHeld (by rfl) (fun wx hSx => ?_) ?_
      rotate_left
      · (unfold SB at hSx; go_simp; (try with_reducible rfl))
      (try simp only [Act.put, putA, putB, putC])
      refine ord_take (i := 2) (preB 3 32) ?_ rfl (by kernel_rfl) (by kernel_rfl) (by kernel_rfl) (by kernel_rfl) (fun _ _ _ h => h) hHeld (by rfl) (fun wx hSx => ?_) ?_
      rotate_left
      · (unfold SB at hSx; go_simp; (try with_reducible rfl))
      (try simp only [Act.put, putA, putB, putC])
      refine ord_take (i := 3) (preB 4 31) ?_ rfl (by kernel_rfl) (by kernel_rfl) (by kernel_rfl) (by kernel_rfl) (fun _ _ _ h => h) hHeld (by rfl) (fun wx hSx => ?_) ?_
      rotate_left
      · (unfold SB at hSx; go_simp; (try with_reducible rfl))
      (try simp only [Act.put, putA, putB, putC])
      refine ord_skip (i := 4) (preB 5 30) rfl (by kernel_rfl) (by kernel_rfl) (by kernel_rfl) (by kernel_rfl) (fun _ _ _ h => h) hHeld (by rfl) ?_
      (try simp only [Act.put, putA, putB, putC])
      refine ord_skip (i := 5) (preB 6 29) rfl (by kernel_rfl) (by kernel_rfl) (by kernel_rfl) (by kernel_rfl) (fun _ _ _ h => h) hHeld (by rfl) ?_
      (try simp only [Act.put, putA, putB, putC])
      refine ord_skip (i := 6) (preB 7 28) rfl (by kernel_rfl) (by kernel_rfl) (by kernel_rfl) (by kernel_rfl) (fun _ _ _ h => h) hHeld (by rfl) ?_
      (try simp only [Act.put, putA, putB, putC])
      refine ord_take (i := 7) (preB 8 27) ?_ rfl (by kernel_rfl) (by kernel_rfl) (by kernel_rfl) (by kernel_rfl) (fun _ _ _ h => h) hHeld (by rfl) (fun wx hSx => ?_) ?_
      rotate_left
      · (unfold SB at hSx; go_simp; (try with_reducible rfl))
      (try simp only [Act.put, putA, putB, putC])
      refine ord_take (i := 8) (preB 9 26) ?_ rfl (by kernel_rfl) (by kernel_rfl) (by kernel_rfl) (by kernel_rfl) (fun _ _ _ h => h) hHeld (by rfl) (fun wx hSx => ?_) ?_
      rotate_left
      · (unfold SB at hSx; go_simp; (try with_reducible rfl))
      (try simp only [Act.put, putA, putB, putC])
      refine ord_skip (i := 9) (preB 10 25) rfl (by kernel_rfl) (by kernel_rfl) (by kernel_rfl) (by kernel_rfl) (fun _ _ _ h => h) hHeld (by rfl) ?_
      (try simp only [Act.put, putA, putB, putC])
      refine ord_skip (i := 10) (preB 11 24) rfl (by kernel_rfl) (by kernel_rfl) (by kernel_rfl) (by kernel_rfl) (fun _ _ _ h => h) hHeld (by rfl) ?_
      (try simp only [Act.put, putA, putB, putC])
      refine ord_skip (i := 11) (preB 12 23) rfl (by kernel_rfl) (by kernel_rfl) (by kernel_rfl) (by kernel_rfl) (fun _ _ _ h => h) hHeld (by rfl) ?_
      (try simp only [Act.put, putA, putB, putC])
      refine ord_take (i := 12) (preB 13 22) ?_ rfl (by kernel_rfl) (by kernel_rfl) (by kernel_rfl) (by kernel_rfl) (fun _ _ _ h => h) hHeld (by rfl) (fun wx hSx => ?_) ?_
      rotate_left
      · (unfold SB at hSx; go_simp; (try with_reducible rfl))
      (try simp only [Act.put, putA, putB, putC])
      refine ord_take (i := 13) (preB 14 21) ?_ rfl (by kernel_rfl) (by kernel_rfl) (by kernel_rfl) (by kernel_rfl) (fun _ _ _ h => h) hHeld (by rfl) (fun wx hSx => ?_) ?_
      rotate_left
      · (unfold SB at hSx; go_simp; (try with_reducible rfl))
      (try simp only [Act.put, putA, putB, putC])
      refine ord_skip (i := 14) (preB 15 20) rfl (by kernel_rfl) (by kernel_rfl) (by kernel_rfl) (by kernel_rfl) (fun _ _ _ h => h) hHeld (by rfl) ?_
      (try simp only [Act.put, putA, putB, putC])
      refine ord_take (i := 15) (preB 16 19) ?_ rfl (by kernel_rfl) (by kernel_rfl) (by kernel_rfl) (by kernel_rfl) (fun _ _ _ h => h) hHeld (by rfl) (fun wx hSx => ?_) ?_
      rotate_left
      · (unfold SB at hSx; go_simp; (try with_reducible rfl))
      (try simp only [Act.put, putA, putB, putC])
      refine ord_take (i := 16) (preB 17 18) ?_ rfl (by kernel_rfl) (by kernel_rfl) (by kernel_rfl) (by kernel_rfl) (fun _ _ _ h => h) hHeld (by rfl) (fun wx hSx => ?_) ?_
      rotate_left
      · (unfold SB at hSx; go_simp; (try with_reducible rfl))
      (try simp only [Act.put, putA, putB, putC])
      refine ord_skip (i := 17) (preB 18 17) rfl (by kernel_rfl) (by kernel_rfl) (by kernel_rfl) (by kernel_rfl) (fun _ _ _ h => h) hHeld (by rfl) ?_
      (try simp only [Act.put, putA, putB, putC])
      refine ord_skip (i := 18) (preB 19 16) rfl (by kernel_rfl) (by kernel_rfl) (by kernel_rfl) (by kernel_rfl) (fun _ _ _ h => h) hHeld (by rfl) ?_
      (try simp only [Act.put, putA, putB, putC])
      refine ord_skip (i := 19) (preB 20 15) rfl (by kernel_rfl) (by kernel_rfl) (by kernel_rfl) (by kernel_rfl) (fun _ _ _ h => h) hHeld (by rfl) ?_
      (try simp only [Act.put, putA, putB, putC])
      refine ord_take (i := 20) (preB 21 14) ?_ rfl (by kernel_rfl) (by kernel_rfl) (by kernel_rfl) (by kernel_rfl) (fun _ _ _ h => h) hHeld (by rfl) (fun wx hSx => ?_) ?_
      rotate_left
      · (unfold SB at hSx; go_simp; (try with_reducible rfl))
      (try simp only [Act.put, putA, putB, putC])
      refine ord_take (i := 21) (preB 22 13) ?_ rfl (by kernel_rfl) (by kernel_rfl) (by kernel_rfl) (by kernel_rfl) (fun _ _ _ h => h) hHeld (by rfl) (fun wx hSx => ?_) ?_
      rotate_left
      · (unfold SB at hSx; go_simp; (try with_reducible rfl))
      (try simp only [Act.put, putA, putB, putC])
      refine ord_skip (i := 22) (preB 23 12) rfl (by kernel_rfl) (by kernel_rfl) (by kernel_rfl) (by kernel_rfl) (fun _ _ _ h => h) hHeld (by rfl) ?_
      (try simp only [Act.put, putA, putB, putC])
      refine ord_skip (i := 23) (preB 24 11) rfl (by kernel_rfl) (by kernel_rfl) (by kernel_rfl) (by kernel_rfl) (fun _ _ _ h => h) hHeld (by rfl) ?_
      (try simp only [Act.put, putA, putB, putC])
      refine ord_skip (i := 24) (preB 25 10) rfl (by kernel_rfl) (by kernel_rfl) (by kernel_rfl) (by kernel_rfl) (fun _ _ _ h => h) hHeld (by rfl) ?_
      (try simp only [Act.put, putA, putB, putC])
      refine ord_take (i := 25) (preB 26 9) ?_ rfl (by kernel_rfl) (by kernel_rfl) (by kernel_rfl) (by kernel_rfl) (fun _ _ _ h => h) hHeld (by rfl) (fun wx hSx => ?_) ?_
      rotate_left
      · (unfold SB at hSx; go_simp; (try with_reducible rfl))
      (try simp only [Act.put, putA, putB, putC])
      refine ord_take (i := 26) (preB 27 8) ?_ rfl (by kernel_rfl) (by kernel_rfl) (by kernel_rfl) (by kernel_rfl) (fun _ _ _ h => h) hHeld (by rfl) (fun wx hSx => ?_) ?_
      rotate_left
      · (unfold SB at hSx; go_simp; (try with_reducible rfl))
      (try simp only [Act.put, putA, putB, putC])
      refine ord_skip (i := 27) (preB 28 7) rfl (by kernel_rfl) (by kernel_rfl) (by kernel_rfl) (by kernel_rfl) (fun _ _ _ h => h) hHeld (by rfl) ?_
      (try simp only [Act.put, putA, putB, putC])
      refine ord_skip (i := 28) (preB 29 6) rfl (by kernel_rfl) (by kernel_rfl) (by kernel_rfl) (by kernel_rfl) (fun _ _ _ h => h) hHeld (by rfl) ?_
      (try simp only [Act.put, putA, putB, putC])
      refine ord_skip (i := 29) (preB 30 5) rfl (by kernel_rfl) (by kernel_rfl) (by kernel_rfl) (by kernel_rfl) (fun _ _ _ h => h) hHeld (by rfl) ?_
      (try simp only [Act.put, putA, putB, putC])
      refine ord_skip (i := 30) (preB 31 4) rfl (by kernel_rfl) (by kernel_rfl) (by kernel_rfl) (by kernel_rfl) (fun _ _ _ h => h) hHeld (by rfl) ?_
      (try simp only [Act.put, putA, putB, putC])
      refine ord_skip (i := 31) (preB 32 3) rfl (by kernel_rfl) (by kernel_rfl) (by kernel_rfl) (by kernel_rfl) (fun _ _ _ h => h) hHeld (by rfl) ?_
      (try simp only [Act.put, putA, putB, putC])
      refine ord_skip (i := 32) (preB 33 2) rfl (by kernel_rfl) (by kernel_rfl) (by kernel_rfl) (by kernel_rfl) (fun _ _ _ h => h) hHeld (by rfl) ?_
      (try simp only [Act.put, putA, putB, putC])
      refine ord_take (i := 33) (preB 34 1) ?_ rfl (by kernel_rfl) (by kernel_rfl) (by kernel_rfl) (by kernel_rfl) (fun _ _ _ h => h) hHeld (by rfl) (fun wx hSx => ?_) ?_
      rotate_left
      · (unfold SB at hSx; go_simp; (try with_reducible rfl))
      (try simp only [Act.put, putA, putB, putC])
      refine ord_take (i := 34) (preB 35 0) ?_ rfl (by kernel_rfl) (by kernel_rfl) (by kernel_rfl) (by kernel_rfl) (fun _ _ _ h => h) hHeld (by rfl) (fun wx hSx => ?_) ?_
      rotate_left
      · (unfold SB at hSx; go_simp; (try with_reducible rfl))
      (try simp only [Act.put, putA, putB, putC])
      refine wpAnyH_done (by kernel_rfl) ?_ _
      go_wp2_with fail
      go_ret
      exact ⟨by rw [HVAL.out, HOB.out]; (try cases vo) <;> (try cases nb) <;> (try cases cb) <;> simp, by (repeat (first | (with_reducible first | exact Below.refl _ _ | assumption | refine Below.drew ?_) | ((with_reducible first | refine Below.alloc ?_ ?_ _ | refine Below.setCell ?_ ?_ _); rotate_left; (first | omega | (simp <;> omega)))))⟩
end Go.Proofs.YtdjhkhadjmndoaaDoor
