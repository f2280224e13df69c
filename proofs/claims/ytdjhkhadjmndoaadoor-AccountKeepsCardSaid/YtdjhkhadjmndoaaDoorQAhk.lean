/- Texts laid together: Ahk. -/
import Derived.Test.YtdjhkhadjmndoaaDoorQAgW
namespace Go.Proofs.YtdjhkhadjmndoaaDoor
set_option maxRecDepth 4000
set_option linter.unusedSimpArgs false
set_option linter.unusedVariables false
open Go.RowKit
theorem alw_inv {P : Nat → LPro} {pn : Nat} {a : Nat → LAcc} {an : Nat} {x : LAcc} (h : alwE P pn a an x = 0) : opB x = true ∧ geB a x.id an = false ∧ ownE P pn x = 0 ∧ an < 64 := by
  unfold alwE at h
  split at h
  · cases h
  · rename_i h1
    split at h
    · cases h
    · rename_i h2
      split at h
      · rename_i h3; exact absurd h h3
      · rename_i h3
        split at h
        · cases h
        · rename_i h4
          exact ⟨by cases hh : opB x with | true => rfl | false => exact absurd hh h1, by cases hh : geB a x.id an with | false => rfl | true => exact absurd hh h2, by omega, by omega⟩
theorem chkU_all {P : Nat → LPro} {pn : Nat} {a : Nat → LAcc} : ∀ {n : Nat}, chkU P pn a n = 0 → ∀ k, k < n → stpE P pn a k = 0
  | 0, _, k, hk => by omega
  | n + 1, h, k, hk => by
    unfold chkU at h
    split at h
    · rename_i h0
      rcases Nat.lt_succ_iff_lt_or_eq.1 hk with h1 | rfl
      · exact chkU_all h0 k h1
      · exact h
    · rename_i h0; exact absurd h h0
theorem chkU_of {P : Nat → LPro} {pn : Nat} {a : Nat → LAcc} : ∀ {n : Nat}, (∀ k, k < n → stpE P pn a k = 0) → chkU P pn a n = 0
  | 0, _ => rfl
  | n + 1, h => chkU_next (chkU_of fun k hk => h k (by omega)) (h n (by omega))
theorem chk_inv {P : Nat → LPro} {pn : Nat} {a : Nat → LAcc} {an : Nat} (h : chkE P pn a an = 0) : chkU P pn a an = 0 := by
  unfold chkE at h
  split at h
  · cases h
  · exact h
theorem chk_of {P : Nat → LPro} {pn : Nat} {a : Nat → LAcc} {an : Nat} (h : an ≤ 64) (h2 : ∀ k, k < an → stpE P pn a k = 0) : chkE P pn a an = 0 := by
  unfold chkE
  rw [if_neg (by omega)]; exact chkU_of h2
theorem stp_congr {P Q : Nat → LPro} {pn : Nat} {a b : Nat → LAcc} {k : Nat} (h1 : a k = b k) (h2 : 0 < k → a (k - 1) = b (k - 1)) (hp : P = Q) : stpE P pn a k = stpE Q pn b k := by
  subst hp
  unfold stpE
  rw [h1]
  by_cases hk : 0 < k
  · rw [h2 hk]
  · have e : (0 < k ∧ (b k).id ≤ (a (k - 1)).id) ↔ (0 < k ∧ (b k).id ≤ (b (k - 1)).id) := ⟨fun h => absurd h.1 hk, fun h => absurd h.1 hk⟩
    simp only [e]
theorem acK_op_lt {ck : Nat → Tr} {x : LAcc} {k : Nat} (h : k < (ck 18).n) : acK (opT ck x) k = acK ck k := by
  unfold acK
  rw [op_18]
  show accOf (fun j => lfv ((if k < (ck 18).n then (ck 18).c k else accT x) j)) = _
  rw [if_pos h]
theorem acK_op_n {ck : Nat → Tr} {x : LAcc} : acK (opT ck x) (ck 18).n = x := by
  unfold acK
  rw [op_18]
  show accOf (fun j => lfv ((if (ck 18).n < (ck 18).n then (ck 18).c (ck 18).n else accT x) j)) = _
  rw [if_neg (Nat.lt_irrefl _)]
  rfl
theorem acK_cl_ne {ck : Nat → Tr} {k i : Nat} {day : Int} (h : i ≠ k) : acK (clT ck k day) i = acK ck i := by
  unfold acK
  rw [cl_18]
  show accOf (fun j => lfv (if i = k ∧ j = 2 then Tr.lf (.int .i64 day) else (ck 18).c i j)) = _
  congr 1
  funext j
  rw [if_neg (fun hh => h hh.1)]
def clX (x : LAcc) (day : Int) : LAcc := ⟨x.id, x.op, day, x.ex, x.ow, x.pr, x.nu⟩
theorem acK_cl_eq {ck : Nat → Tr} {k : Nat} {day : Int} : acK (clT ck k day) k = clX (acK ck k) day := by
  unfold acK
  rw [cl_18]
  show accOf (fun j => lfv (if k = k ∧ j = 2 then Tr.lf (.int .i64 day) else (ck 18).c k j)) = _
  unfold accOf clX
  simp [lfv]
  rfl
theorem prK_op (ck : Nat → Tr) (x : LAcc) : prK (opT ck x) = prK ck := by funext k; unfold prK; rw [op_ne ck x (by decide)]
theorem prK_cl (ck : Nat → Tr) (k : Nat) (day : Int) : prK (clT ck k day) = prK ck := by funext i; unfold prK; rw [cl_ne ck k day (by decide)]
theorem op_right {x : LAcc} (h : opB x = true) : shB x = true ∧ x.cl = 0 ∧ x.ex = 0 ∧ rightB x = true := by
  unfold opB at h
  simp only [Bool.and_eq_true, beq_iff_eq] at h
  obtain ⟨h1, h2, h3⟩ := h
  refine ⟨h1, h2, h3, ?_⟩
  unfold rightB clB exB
  rw [h1, h2, h3]
  rfl
theorem keep_open {ck : Nat → Tr} {x : LAcc} (hc : chkK ck = 0) (ha : alwK ck x = 0) : chkK (opT ck x) = 0 := by
  obtain ⟨h1, h2, h3, h4⟩ := alw_inv ha
  have hu := chkU_all (chk_inv hc)
  unfold chkK
  rw [prK_op, op_ne ck x (show 17 ≠ 18 by decide), op_18]
  refine chk_of (by show (ck 18).n + 1 ≤ 64; omega) (fun k hk => ?_)
  have hk : k < (ck 18).n + 1 := hk
  rcases Nat.lt_succ_iff_lt_or_eq.1 hk with hl | rfl
  · rw [stp_congr (acK_op_lt hl) (fun h0 => acK_op_lt (by omega)) rfl]
    exact hu k hl
  · rw [stp_own (by rw [acK_op_n]; exact (op_right h1).2.2.2) (fun h => by
      have h5 := h.2
      rw [acK_op_n, acK_op_lt (by omega)] at h5
      have := geB_lt h2 ((ck 18).n - 1) (by omega)
      omega), acK_op_n]
    exact h3
theorem fnd_op {ck : Nat → Tr} {x : LAcc} (ha : alwK ck x = 0) : fndA (acK (opT ck x)) x.id ((ck 18).n + 1) = some (ck 18).n := by
  obtain ⟨_, h2, _, _⟩ := alw_inv ha
  refine fndA_first (Nat.lt_succ_self _) (by rw [acK_op_n]) (fun j hj => ?_)
  rw [acK_op_lt hj]
  have := geB_lt h2 j hj
  omega
theorem idx_op {ck : Nat → Tr} {x : LAcc} (ha : alwK ck x = 0) : idxK (opT ck x) x.id = (ck 18).n := by
  have h := fnd_op ha
  unfold idxK idxN
  rw [op_18]
  show (match fndA (acK (opT ck x)) x.id ((ck 18).n + 1) with | some k => k | none => 0) = _
  rw [h]
theorem cls_inv {ck : Nat → Tr} {x : LAcc} {day : Int} (ha : alwK ck x = 0) (hf : clsK (opT ck x) x.id day = 0) : 1 ≤ day ∧ vday day = true ∧ x.op ≤ day := by
  obtain ⟨g1, g2, _⟩ := getA_yes (fnd_op ha)
  unfold clsK at hf
  rw [op_18] at hf
  have hf : clsE (acK (opT ck x)) ((ck 18).n + 1) (enK (opT ck x)) (opT ck x 19).n (hlK (opT ck x)) (opT ck x 20).n x.id day = 0 := hf
  unfold clsE at hf
  rw [g1, g2, acK_op_n, if_neg (by decide)] at hf
  split at hf
  · cases hf
  · split at hf
    · cases hf
    · rename_i h
      refine ⟨by omega, ?_, by omega⟩
      cases hv : vday day with
      | true => rfl
      | false => exact absurd (.inr (.inl hv)) h
theorem keep_close {ck : Nat → Tr} {x : LAcc} {day : Int} (hc : chkK ck = 0) (ha : alwK ck x = 0) (hf : clsK (opT ck x) x.id day = 0) : chkK (clT (opT ck x) (ck 18).n day) = 0 := by
  obtain ⟨h1, h2, h3, h4⟩ := alw_inv ha
  obtain ⟨d1, d2, d3⟩ := cls_inv ha hf
  have hu := chkU_all (chk_inv hc)
  obtain ⟨r1, r2, r3, _⟩ := op_right h1
  unfold chkK
  rw [prK_cl, prK_op, cl_ne _ _ _ (show 17 ≠ 18 by decide), op_ne ck x (show 17 ≠ 18 by decide), cl_18]
  refine chk_of (by show (opT ck x 18).n ≤ 64; rw [op_18]; show (ck 18).n + 1 ≤ 64; omega) (fun k hk => ?_)
  have hk : k < (opT ck x 18).n := hk
  rw [op_18] at hk
  have hk : k < (ck 18).n + 1 := hk
  rcases Nat.lt_succ_iff_lt_or_eq.1 hk with hl | rfl
  · rw [stp_congr ((acK_cl_ne (by omega)).trans (acK_op_lt hl)) (fun h0 => (acK_cl_ne (by omega)).trans (acK_op_lt (by omega))) rfl]
    exact hu k hl
  · have e : acK (clT (opT ck x) (ck 18).n day) (ck 18).n = clX x day := by rw [acK_cl_eq, acK_op_n]
    rw [stp_own (by
      rw [e]
      unfold rightB
      rw [show shB (clX x day) = true from r1, show exB (clX x day) = true from by unfold exB clX; rw [r3]; rfl]
      unfold clB clX
      rw [d2, decide_eq_true d3]
      simp) (fun h => by
      have h5 := h.2
      rw [e, acK_cl_ne (by omega), acK_op_lt (by omega)] at h5
      have h5 : x.id ≤ (acK ck ((ck 18).n - 1)).id := h5
      have := geB_lt h2 ((ck 18).n - 1) (by omega)
      omega), e]
    exact h3
theorem keep_act {ck : Nat → Tr} {x : LAcc} {day : Int} (ha : alwK ck x = 0) (hf : clsK (opT ck x) x.id day = 0) : actK (clT (opT ck x) (ck 18).n day) x.id day = false := by
  obtain ⟨d1, d2, d3⟩ := cls_inv ha hf
  have e : acK (clT (opT ck x) (ck 18).n day) (ck 18).n = clX x day := by rw [acK_cl_eq, acK_op_n]
  have hf2 : fndA (acK (clT (opT ck x) (ck 18).n day)) x.id ((ck 18).n + 1) = some (ck 18).n := by
    obtain ⟨_, h2, _, _⟩ := alw_inv ha
    refine fndA_first (Nat.lt_succ_self _) (by rw [e]; rfl) (fun j hj => ?_)
    rw [acK_cl_ne (by omega), acK_op_lt hj]
    have := geB_lt h2 j hj
    omega
  obtain ⟨g1, g2, _⟩ := getA_yes hf2
  unfold actK
  rw [cl_18]
  show (hasA (acK (clT (opT ck x) (ck 18).n day)) x.id (opT ck x 18).n && actL (getA (acK (clT (opT ck x) (ck 18).n day)) x.id (opT ck x 18).n) day) = false
  rw [op_18]
  show (hasA (acK (clT (opT ck x) (ck 18).n day)) x.id ((ck 18).n + 1) && actL (getA (acK (clT (opT ck x) (ck 18).n day)) x.id ((ck 18).n + 1)) day) = false
  rw [g2, g1, e]
  unfold actL clX
  rw [decide_eq_true d3, decide_eq_false (Int.lt_irrefl _), beq_eq_false_iff_ne.2 (show day ≠ 0 by omega)]
  rfl
end Go.Proofs.YtdjhkhadjmndoaaDoor
