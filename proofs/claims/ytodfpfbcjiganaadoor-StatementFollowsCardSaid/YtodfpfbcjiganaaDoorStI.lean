/- statement.Follows, R45.Follows. -/
import Derived.Test.YtodfpfbcjiganaaDoorStF
namespace Go.Proofs.YtodfpfbcjiganaaDoor
set_option linter.unusedSimpArgs false
set_option linter.unusedVariables false
open Go.RowKit

/-- One statement continues another. -/
def fol (ac no t cl bac bno bf bop : Int) : Bool := decide (bac = ac ∧ bno = no + 1 ∧ bf = t + 1 ∧ bop = cl)
theorem fol_no {ac no t cl bac bno bf bop : Int} (h : ¬ (bac = ac ∧ bno = no + 1 ∧ bf = t + 1 ∧ bop = cl)) : fol ac no t cl bac bno bf bop = false := decide_eq_false h
theorem fol_yes {ac no t cl bac bno bf bop : Int} (h1 : bac = ac) (h2 : bno = no + 1) (h3 : bf = t + 1) (h4 : bop = cl) : fol ac no t cl bac bno bf bop = true := decide_eq_true ⟨h1, h2, h3, h4⟩
set_option maxRecDepth 4000 in
set_option maxHeartbeats 2000000 in
theorem follows_any (ac no f t op cl bac bno bf bt bop bcl : Int) (lA mA : Option Addr) (ln lc mn mc : Nat) (i1 : IIn no) (i2 : IIn t) (i3 : IIn bno) (i4 : IIn bf) (w : World) :
    Calls Tryd.prog 16 #[.agg #[.int .i64 ac, .int .i64 no, .int .i64 f, .int .i64 t, .int .i64 op, .int .i64 cl, .slice lA ln lc], .agg #[.int .i64 bac, .int .i64 bno, .int .i64 bf, .int .i64 bt, .int .i64 bop, .int .i64 bcl, .slice mA mn mc]] w fun e w' => e = .returned (.bool (fol ac no t cl bac bno bf bop)) ∧ Below w.heap.size w w' := by
  unfold IIn at i1 i2 i3 i4
  by_cases h1 : bac = ac
  · have e1 : (bac == ac) = true := beq_iff_eq.2 h1
    have H1 := hide h1
    clear h1
    by_cases h2 : no = 9223372036854775807
    · have e2 : (no != 9223372036854775807) = false := by rw [h2]; rfl
      have HD := hide (fol_no (ac := ac) (no := no) (t := t) (cl := cl) (bac := bac) (bno := bno) (bf := bf) (bop := bop) (by omega))
      clear h2 i1 i2 i3 i4
      go_enter Tryd.func16, Tryd.ntmps16
      go_wp2_with fail
      go_ret
      exact ⟨by rw [HD.out]; rfl, by (repeat (first | (with_reducible exact Below.refl _ _) | (with_reducible assumption) | ((with_reducible refine Below.alloc ?_ ?_ _); (rotate_left); (first | omega | (simp <;> omega))) | ((with_reducible refine Below.setCell ?_ ?_ _); (rotate_left); (first | omega | (simp <;> omega))) | (with_reducible refine Below.drew ?_) | (with_reducible refine below_drewN ?_ _)))⟩
    · have e2 : (no != 9223372036854775807) = true := by unfold bne; rw [beq_eq_false_iff_ne.2 h2]; rfl
      have n1 : -9223372036854775808 ≤ no + 1 := by omega
      have n2 : no + 1 ≤ 9223372036854775807 := by omega
      clear h2
      by_cases h3 : bno = no + 1
      · have e3 : (bno == no + 1) = true := beq_iff_eq.2 h3
        have H3 := hide h3
        clear h3
        by_cases h4 : t = 9223372036854775807
        · have e4 : (t != 9223372036854775807) = false := by rw [h4]; rfl
          have HD := hide (fol_no (ac := ac) (no := no) (t := t) (cl := cl) (bac := bac) (bno := bno) (bf := bf) (bop := bop) (by omega))
          clear h4 i1 i2 i3 i4
          go_enter Tryd.func16, Tryd.ntmps16
          go_wp2_with fail
          go_ret
          exact ⟨by rw [HD.out]; rfl, by (repeat (first | (with_reducible exact Below.refl _ _) | (with_reducible assumption) | ((with_reducible refine Below.alloc ?_ ?_ _); (rotate_left); (first | omega | (simp <;> omega))) | ((with_reducible refine Below.setCell ?_ ?_ _); (rotate_left); (first | omega | (simp <;> omega))) | (with_reducible refine Below.drew ?_) | (with_reducible refine below_drewN ?_ _)))⟩
        · have e4 : (t != 9223372036854775807) = true := by unfold bne; rw [beq_eq_false_iff_ne.2 h4]; rfl
          have t1 : -9223372036854775808 ≤ t + 1 := by omega
          have t2 : t + 1 ≤ 9223372036854775807 := by omega
          clear h4
          by_cases h5 : bf = t + 1
          · have e5 : (bf == t + 1) = true := beq_iff_eq.2 h5
            have H5 := hide h5
            clear h5 i1 i2 i3 i4
            cases h6 : (bop == cl) with
            | true =>
              have HD := hide (fol_yes H1.out H3.out H5.out (beq_iff_eq.1 h6))
              go_enter Tryd.func16, Tryd.ntmps16
              go_wp2_with fail
              go_ret
              exact ⟨by rw [HD.out]; rfl, by (repeat (first | (with_reducible exact Below.refl _ _) | (with_reducible assumption) | ((with_reducible refine Below.alloc ?_ ?_ _); (rotate_left); (first | omega | (simp <;> omega))) | ((with_reducible refine Below.setCell ?_ ?_ _); (rotate_left); (first | omega | (simp <;> omega))) | (with_reducible refine Below.drew ?_) | (with_reducible refine below_drewN ?_ _)))⟩
            | false =>
              have HD := hide (fol_no (ac := ac) (no := no) (t := t) (cl := cl) (bac := bac) (bno := bno) (bf := bf) (bop := bop) (fun h => beq_eq_false_iff_ne.1 h6 h.2.2.2))
              go_enter Tryd.func16, Tryd.ntmps16
              go_wp2_with fail
              go_ret
              exact ⟨by rw [HD.out]; rfl, by (repeat (first | (with_reducible exact Below.refl _ _) | (with_reducible assumption) | ((with_reducible refine Below.alloc ?_ ?_ _); (rotate_left); (first | omega | (simp <;> omega))) | ((with_reducible refine Below.setCell ?_ ?_ _); (rotate_left); (first | omega | (simp <;> omega))) | (with_reducible refine Below.drew ?_) | (with_reducible refine below_drewN ?_ _)))⟩
          · have e5 : (bf == t + 1) = false := beq_eq_false_iff_ne.2 h5
            have HD := hide (fol_no (ac := ac) (no := no) (t := t) (cl := cl) (bac := bac) (bno := bno) (bf := bf) (bop := bop) (by omega))
            clear h5 i1 i2 i3 i4
            go_enter Tryd.func16, Tryd.ntmps16
            go_wp2_with fail
            go_ret
            exact ⟨by rw [HD.out]; rfl, by (repeat (first | (with_reducible exact Below.refl _ _) | (with_reducible assumption) | ((with_reducible refine Below.alloc ?_ ?_ _); (rotate_left); (first | omega | (simp <;> omega))) | ((with_reducible refine Below.setCell ?_ ?_ _); (rotate_left); (first | omega | (simp <;> omega))) | (with_reducible refine Below.drew ?_) | (with_reducible refine below_drewN ?_ _)))⟩
      · have e3 : (bno == no + 1) = false := beq_eq_false_iff_ne.2 h3
        have HD := hide (fol_no (ac := ac) (no := no) (t := t) (cl := cl) (bac := bac) (bno := bno) (bf := bf) (bop := bop) (by omega))
        clear h3 i1 i2 i3 i4
        go_enter Tryd.func16, Tryd.ntmps16
        go_wp2_with fail
        go_ret
        exact ⟨by rw [HD.out]; rfl, by (repeat (first | (with_reducible exact Below.refl _ _) | (with_reducible assumption) | ((with_reducible refine Below.alloc ?_ ?_ _); (rotate_left); (first | omega | (simp <;> omega))) | ((with_reducible refine Below.setCell ?_ ?_ _); (rotate_left); (first | omega | (simp <;> omega))) | (with_reducible refine Below.drew ?_) | (with_reducible refine below_drewN ?_ _)))⟩
  · have e1 : (bac == ac) = false := beq_eq_false_iff_ne.2 h1
    have HD := hide (fol_no (ac := ac) (no := no) (t := t) (cl := cl) (bac := bac) (bno := bno) (bf := bf) (bop := bop) (by omega))
    clear h1 i1 i2 i3 i4
    go_enter Tryd.func16, Tryd.ntmps16
    go_wp2_with fail
    go_ret
    exact ⟨by rw [HD.out]; rfl, by (repeat (first | (with_reducible exact Below.refl _ _) | (with_reducible assumption) | ((with_reducible refine Below.alloc ?_ ?_ _); (rotate_left); (first | omega | (simp <;> omega))) | ((with_reducible refine Below.setCell ?_ ?_ _); (rotate_left); (first | omega | (simp <;> omega))) | (with_reducible refine Below.drew ?_) | (with_reducible refine below_drewN ?_ _)))⟩
set_option maxRecDepth 4000 in
set_option maxHeartbeats 2000000 in
theorem rfollows_any (ac no f t op cl bac bno bf bt bop bcl : Int) (lA mA : Option Addr) (ln lc mn mc : Nat) (i1 : IIn no) (i2 : IIn t) (i3 : IIn bno) (i4 : IIn bf) (w : World) :
    Calls Tryd.prog 17 #[.agg #[.int .i64 ac, .int .i64 no, .int .i64 f, .int .i64 t, .int .i64 op, .int .i64 cl, .slice lA ln lc], .agg #[.int .i64 bac, .int .i64 bno, .int .i64 bf, .int .i64 bt, .int .i64 bop, .int .i64 bcl, .slice mA mn mc]] w fun e w' => e = .returned (.bool (fol ac no t cl bac bno bf bop)) ∧ Below w.heap.size w w' := by
  unfold IIn at i1 i2 i3 i4
  by_cases h1 : ac = bac
  · have e1 : (ac == bac) = true := beq_iff_eq.2 h1
    have H1 := hide h1
    clear h1
    by_cases h2 : no < bno
    · have n1 : -9223372036854775808 ≤ bno - 1 := by omega
      have n2 : bno - 1 ≤ 9223372036854775807 := by omega
      have H2 := hide h2
      by_cases h3 : bno - 1 = no
      · have e3 : (bno - 1 == no) = true := beq_iff_eq.2 h3
        have H3 := hide h3
        clear h3
        by_cases h4 : t < bf
        · have t1 : -9223372036854775808 ≤ bf - 1 := by omega
          have t2 : bf - 1 ≤ 9223372036854775807 := by omega
          by_cases h5 : bf - 1 = t
          · have e5 : (bf - 1 == t) = true := beq_iff_eq.2 h5
            have H5 := hide h5
            clear h5 i1 i2 i3 i4
            cases h6 : (cl == bop) with
            | true =>
              have HD := hide (fol_yes (ac := ac) (no := no) (t := t) (cl := cl) (bac := bac) (bno := bno) (bf := bf) (bop := bop) H1.out.symm (by have := H3.out; omega) (by have := H5.out; omega) (beq_iff_eq.1 h6).symm)
              go_enter Tryd.func17, Tryd.ntmps17
              go_wp2_with fail
              go_ret
              exact ⟨by rw [HD.out]; rfl, by (repeat (first | (with_reducible exact Below.refl _ _) | (with_reducible assumption) | ((with_reducible refine Below.alloc ?_ ?_ _); (rotate_left); (first | omega | (simp <;> omega))) | ((with_reducible refine Below.setCell ?_ ?_ _); (rotate_left); (first | omega | (simp <;> omega))) | (with_reducible refine Below.drew ?_) | (with_reducible refine below_drewN ?_ _)))⟩
            | false =>
              have HD := hide (fol_no (ac := ac) (no := no) (t := t) (cl := cl) (bac := bac) (bno := bno) (bf := bf) (bop := bop) (fun h => beq_eq_false_iff_ne.1 h6 h.2.2.2.symm))
              go_enter Tryd.func17, Tryd.ntmps17
              go_wp2_with fail
              go_ret
              exact ⟨by rw [HD.out]; rfl, by (repeat (first | (with_reducible exact Below.refl _ _) | (with_reducible assumption) | ((with_reducible refine Below.alloc ?_ ?_ _); (rotate_left); (first | omega | (simp <;> omega))) | ((with_reducible refine Below.setCell ?_ ?_ _); (rotate_left); (first | omega | (simp <;> omega))) | (with_reducible refine Below.drew ?_) | (with_reducible refine below_drewN ?_ _)))⟩
          · have e5 : (bf - 1 == t) = false := beq_eq_false_iff_ne.2 h5
            have HD := hide (fol_no (ac := ac) (no := no) (t := t) (cl := cl) (bac := bac) (bno := bno) (bf := bf) (bop := bop) (by omega))
            clear h5 i1 i2 i3 i4
            go_enter Tryd.func17, Tryd.ntmps17
            go_wp2_with fail
            go_ret
            exact ⟨by rw [HD.out]; rfl, by (repeat (first | (with_reducible exact Below.refl _ _) | (with_reducible assumption) | ((with_reducible refine Below.alloc ?_ ?_ _); (rotate_left); (first | omega | (simp <;> omega))) | ((with_reducible refine Below.setCell ?_ ?_ _); (rotate_left); (first | omega | (simp <;> omega))) | (with_reducible refine Below.drew ?_) | (with_reducible refine below_drewN ?_ _)))⟩
        · have h4' := Int.not_lt.1 h4
          have HD := hide (fol_no (ac := ac) (no := no) (t := t) (cl := cl) (bac := bac) (bno := bno) (bf := bf) (bop := bop) (by omega))
          clear h4 i1 i2 i3 i4
          go_enter Tryd.func17, Tryd.ntmps17
          go_wp2_with fail
          go_ret
          exact ⟨by rw [HD.out]; rfl, by (repeat (first | (with_reducible exact Below.refl _ _) | (with_reducible assumption) | ((with_reducible refine Below.alloc ?_ ?_ _); (rotate_left); (first | omega | (simp <;> omega))) | ((with_reducible refine Below.setCell ?_ ?_ _); (rotate_left); (first | omega | (simp <;> omega))) | (with_reducible refine Below.drew ?_) | (with_reducible refine below_drewN ?_ _)))⟩
      · have e3 : (bno - 1 == no) = false := beq_eq_false_iff_ne.2 h3
        have HD := hide (fol_no (ac := ac) (no := no) (t := t) (cl := cl) (bac := bac) (bno := bno) (bf := bf) (bop := bop) (by omega))
        clear h3 i1 i2 i3 i4
        go_enter Tryd.func17, Tryd.ntmps17
        go_wp2_with fail
        go_ret
        exact ⟨by rw [HD.out]; rfl, by (repeat (first | (with_reducible exact Below.refl _ _) | (with_reducible assumption) | ((with_reducible refine Below.alloc ?_ ?_ _); (rotate_left); (first | omega | (simp <;> omega))) | ((with_reducible refine Below.setCell ?_ ?_ _); (rotate_left); (first | omega | (simp <;> omega))) | (with_reducible refine Below.drew ?_) | (with_reducible refine below_drewN ?_ _)))⟩
    · have h2' := Int.not_lt.1 h2
      have HD := hide (fol_no (ac := ac) (no := no) (t := t) (cl := cl) (bac := bac) (bno := bno) (bf := bf) (bop := bop) (by omega))
      clear h2 i1 i2 i3 i4
      go_enter Tryd.func17, Tryd.ntmps17
      go_wp2_with fail
      go_ret
      exact ⟨by rw [HD.out]; rfl, by (repeat (first | (with_reducible exact Below.refl _ _) | (with_reducible assumption) | ((with_reducible refine Below.alloc ?_ ?_ _); (rotate_left); (first | omega | (simp <;> omega))) | ((with_reducible refine Below.setCell ?_ ?_ _); (rotate_left); (first | omega | (simp <;> omega))) | (with_reducible refine Below.drew ?_) | (with_reducible refine below_drewN ?_ _)))⟩
  · have e1 : (ac == bac) = false := beq_eq_false_iff_ne.2 h1
    have HD := hide (fol_no (ac := ac) (no := no) (t := t) (cl := cl) (bac := bac) (bno := bno) (bf := bf) (bop := bop) (by omega))
    clear h1 i1 i2 i3 i4
    go_enter Tryd.func17, Tryd.ntmps17
    go_wp2_with fail
    go_ret
    exact ⟨by rw [HD.out]; rfl, by (repeat (first | (with_reducible exact Below.refl _ _) | (with_reducible assumption) | ((with_reducible refine Below.alloc ?_ ?_ _); (rotate_left); (first | omega | (simp <;> omega))) | ((with_reducible refine Below.setCell ?_ ?_ _); (rotate_left); (first | omega | (simp <;> omega))) | (with_reducible refine Below.drew ?_) | (with_reducible refine below_drewN ?_ _)))⟩
end Go.Proofs.YtodfpfbcjiganaaDoor
