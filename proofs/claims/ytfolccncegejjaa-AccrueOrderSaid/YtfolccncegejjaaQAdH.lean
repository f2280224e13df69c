/- Texts laid together: AdH AdL. -/
import Derived.Test.YtfolccncegejjaaQAcZ
import Derived.Test.YtfolccncegejjaaQAcW
namespace Go.Proofs.Ytfolccncegejjaa
set_option maxRecDepth 4000
set_option linter.unusedSimpArgs false
set_option linter.unusedVariables false
open Go.RowKit
theorem BkArg.below {w w' : World} {B : LBk} (h : BkArg w B) (hb : Below w.heap.size w w') : BkArg w' B :=
  ⟨h.bks, h.pro, h.ones, h.acc.below hb, ⟨h.ent.1.below hb, fun k hk => (h.ent.2 k hk).below hb⟩, h.row.below hb, h.cells, h.entIn⟩
end Go.Proofs.Ytfolccncegejjaa
namespace Go.Proofs.Ytfolccncegejjaa
set_option maxRecDepth 4000
set_option linter.unusedSimpArgs false
set_option linter.unusedVariables false
open Go.RowKit
theorem grn_bd {x : LInt} {b day : Int} (hb : IIn b) : 0 ≤ grn x b day ∧ grn x b day ≤ 354859277876187696016453440000000000 := by
  have hg := slices_sl (x := x) hb
  unfold grn
  generalize slices x.tn x.f x.g x.mg b (rate x.tn x.f x.g b) = l at hg ⊢
  unfold grR
  split
  · rename_i h
    have t := gsum_bd l.length h.1 (fun j hj => (hg.2.2 j hj).1) h.2.1 h.2.2
    refine ⟨t.1, Int.le_trans t.2 ?_⟩
    have : 59143212979364616002742240000000000 * (l.length : Int) ≤ 59143212979364616002742240000000000 * 6 := Int.mul_le_mul_of_nonneg_left (by have := h.1; omega) (by decide)
    omega
  · exact ⟨Int.le_refl _, by decide⟩
/-- What an accrual obeys. -/
structure AcrOk (V : LAcr) : Prop where
  c0 : 0 ≤ V.cr
  c1 : V.cr ≤ 354859277876187696016453440000000000
  d0 : 0 ≤ V.db
  d1 : V.db ≤ 354859277876187696016453440000000000
  cb : V.bl ≤ 0 → V.cr = 0
  db : 0 ≤ V.bl → V.db = 0
theorem acr_ok (B : LBk) (id day : Int) : AcrOk (acr B id day) ∧ (acr B id day).ac = id ∧ (acr B id day).dy = day ∧ (actB B id day = true ∨ (acr B id day).bl = 0) := by
  cases ha : actB B id day with
  | false =>
    rw [acr_no ha]
    exact ⟨⟨by show (0 : Int) ≤ 0; decide, by show (0 : Int) ≤ _; decide, by show (0 : Int) ≤ 0; decide, by show (0 : Int) ≤ _; decide, fun _ => rfl, fun _ => rfl⟩, rfl, rfl, .inr rfl⟩
  | true =>
    cases hp : prdB B id day with
    | none =>
      rw [acr_none ha hp]
      exact ⟨⟨by show (0 : Int) ≤ 0; decide, by show (0 : Int) ≤ _; decide, by show (0 : Int) ≤ 0; decide, by show (0 : Int) ≤ _; decide, fun _ => rfl, fun _ => rfl⟩, rfl, rfl, .inl rfl⟩
    | some k =>
      have h1 := grn_bd (x := (B.P k).cr) (day := day) (balB_in B id day)
      have h2 := grn_bd (x := (B.P k).db) (day := day) (balB_in B id day)
      by_cases c : 0 < balB B id day
      · rw [acr_pos ha hp c]
        exact ⟨⟨h1.1, h1.2, by show (0 : Int) ≤ 0; decide, by show (0 : Int) ≤ _; decide, fun h => absurd c (by exact Int.not_lt.2 h), fun _ => rfl⟩, rfl, rfl, .inl rfl⟩
      · by_cases c2 : balB B id day < 0
        · rw [acr_neg ha hp c2]
          exact ⟨⟨by show (0 : Int) ≤ 0; decide, by show (0 : Int) ≤ _; decide, h2.1, h2.2, fun _ => rfl, fun h => absurd c2 (by exact Int.not_lt.2 h)⟩, rfl, rfl, .inl rfl⟩
        · rw [acr_zero ha hp (by omega)]
          exact ⟨⟨by show (0 : Int) ≤ 0; decide, by show (0 : Int) ≤ _; decide, by show (0 : Int) ≤ 0; decide, by show (0 : Int) ≤ _; decide, fun _ => rfl, fun _ => rfl⟩, rfl, rfl, .inl rfl⟩
theorem acr_is (B : LBk) (id day : Int) : ∃ bal cr db, acr B id day = ⟨id, day, bal, cr, db⟩ ∧ AcrOk ⟨id, day, bal, cr, db⟩ ∧ (actB B id day = true ∨ bal = 0) := by
  have h := acr_ok B id day
  refine ⟨(acr B id day).bl, (acr B id day).cr, (acr B id day).db, ?_, ?_, h.2.2.2⟩
  · have h1 := h.2.1
    have h2 := h.2.2.1
    generalize acr B id day = V at h1 h2
    subst h1 h2
    rfl
  · exact ⟨h.1.c0, h.1.c1, h.1.d0, h.1.d1, h.1.cb, h.1.db⟩
theorem day_cases (B : LBk) (id day : Int) : (dayE B id day = 0 ∧ dayV B id day = acr B id day) ∨ ((dayE B id day = 11 ∨ dayE B id day = 1) ∧ dayV B id day = zAcr) := by
  unfold dayV
  by_cases h : dayE B id day = 0
  · rw [if_pos h]
    exact .inl ⟨h, rfl⟩
  · rw [if_neg h]
    refine .inr ⟨?_, rfl⟩
    unfold dayE at h ⊢
    split
    · exact .inl rfl
    · split
      · exact .inr rfl
      · rename_i h1 h2
        rw [if_neg h1, if_neg h2] at h
        exact absurd rfl h
theorem hi_nonneg {z : Int} (h0 : 0 ≤ z) (h1 : z ≤ 354859277876187696016453440000000000) : 0 ≤ hiW z ∧ 0 ≤ loW z := by
  unfold hiW loW
  omega
end Go.Proofs.Ytfolccncegejjaa
