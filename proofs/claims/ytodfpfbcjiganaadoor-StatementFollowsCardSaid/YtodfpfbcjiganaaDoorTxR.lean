/- R45.Text. -/
import Derived.Test.YtodfpfbcjiganaaDoorTxW
import Derived.Test.YtodfpfbcjiganaaDoorStL
import Derived.Test.YtodfpfbcjiganaaDoorMnG
import Derived.Test.YtodfpfbcjiganaaDoorApW
namespace Go.Proofs.YtodfpfbcjiganaaDoor
set_option linter.unusedSimpArgs false
set_option linter.unusedVariables false
open Go.RowKit

/-- One concatenation of a text. -/
theorem cat_to {a b r : List UInt8} (e : r = a ++ b) {c : Prop} [Decidable c] {x : Result Next} {w : World} (h : ¬ c) :
    (if c then x else Result.ok (Next.value (.string ((⟨a.toArray⟩ : ByteArray) ++ (⟨b.toArray⟩ : ByteArray)))) w) = Result.ok (Next.value (.string ⟨r.toArray⟩)) w := by
  rw [if_neg h, bcat, e]
def RxLo (P : Nat → LPos) (h0 : List UInt8) (d : Int) (n : Nat) (W : World) (v9 v10 : Value) (wr : World) : Prop :=
  ∃ k : Nat, k ≤ n ∧ v9 = .string ⟨(h0 ++ linesL P d k).toArray⟩ ∧ v10 = .int .i64 k ∧ badL P d k = false ∧ Below W.heap.size W wr
theorem bad_mono {P : Nat → LPos} {d : Int} {k n : Nat} (h : k ≤ n) (hb : badL P d k = true) : badL P d n = true := by
  induction h with
  | refl => exact hb
  | step _ ih => show (badL P d _ || _) = true; rw [ih]; rfl
theorem wJ_3' (a b c : List UInt8) : wJ [a, b, c] = a ++ [32] ++ b ++ [32] ++ c ++ [10] := by rw [wJ_3]; simp
theorem head_eq {ac no f t op d : Int} {l1 l2 l3 l4 l5 : List UInt8} (h1 : l1 = Lib.itoa no) (h2 : l2 = Lib.itoa ac) (h3 : l3 = fmtL f) (h4 : l4 = fmtL t) (h5 : l5 = amtL op d) :
    ((((((((((([115, 116, 97, 116, 101, 109, 101, 110, 116, 32] ++ l1) ++ [32, 97, 99, 99, 111, 117, 110, 116, 32]) ++ l2) ++ [10]) ++ l3) ++ [32, 116, 111, 32]) ++ l4) ++ [10, 111, 112, 101, 110, 105, 110, 103, 32]) ++ l5) ++ [10]) : List UInt8) = headL ac no f t op d := by
  subst h1 h2 h3 h4 h5
  unfold headL
  rw [wJ_2, wJ_3, wJ_4]
  simp [wStatement, wAccount, wTo, wOpening]
set_option maxRecDepth 20000 in
set_option maxHeartbeats 4000000 in
theorem rtext_any (ac no f t op cl : Int) (lA : Option Addr) (ln lc : Nat) (P : Nat → LPos) (d : Int) (hn : ln ≤ 80) (htx : ∀ k, k < ln → (P k).tx.size ≤ 200) (i1 : IIn ac) (i2 : IIn no) (w : World) (hr : RowPos w lA ln P) :
    Calls Tryd.prog 19 #[.agg #[.int .i64 ac, .int .i64 no, .int .i64 f, .int .i64 t, .int .i64 op, .int .i64 cl, .slice lA ln lc], .int .i64 d] w fun e w' => e = .returned (.tuple #[.string ⟨(txtR ac no f t op cl P ln d).toArray⟩, .int .i64 (txtE ac no f t op cl P ln d)]) ∧ Below w.heap.size w w' := by
  have HR := hide hr
  have HX := hide htx
  clear hr htx
  go_enter Tryd.func19, Tryd.ntmps19
  go_wp2_with fail
  refine (rcheck_any ac no f t op cl lA ln lc P (by omega) _ (HR.out.below (by (repeat (first | (with_reducible exact Below.refl _ _) | (with_reducible assumption) | ((with_reducible refine Below.alloc ?_ ?_ _); (rotate_left); (first | omega | (simp <;> omega))) | ((with_reducible refine Below.setCell ?_ ?_ _); (rotate_left); (first | omega | (simp <;> omega))) | (with_reducible refine Below.drew ?_) | (with_reducible refine below_drewN ?_ _)))))).mono ?_
  rintro e w1 ⟨rfl, hb⟩
  have q1B : Below w.heap.size w w1 := (by refine Below.trans ?_ (hb.mono (by first | omega | (simp <;> omega))); (repeat (first | (with_reducible exact Below.refl _ _) | (with_reducible assumption) | ((with_reducible refine Below.alloc ?_ ?_ _); (rotate_left); (first | omega | (simp <;> omega))) | ((with_reducible refine Below.setCell ?_ ?_ _); (rotate_left); (first | omega | (simp <;> omega))) | (with_reducible refine Below.drew ?_) | (with_reducible refine below_drewN ?_ _))))
  have q1z := hb.size
  try simp at q1z
  have q1t : w.heap.size ≤ w1.heap.size := (by omega)
  have q1s0 : w.heap.size < w1.heap.size := (by omega)
  have q1n0_0 : ¬ w1.heap.size = w.heap.size := (by omega)
  have q1n0_1 : ¬ w1.heap.size + 1 = w.heap.size := (by omega)
  have q1n0_2 : ¬ w1.heap.size + 2 = w.heap.size := (by omega)
  have q1c0_0 := hb.cell (p := ⟨w.heap.size, 0, none⟩) (by first | omega | (simp <;> omega))
  simp [go_sem, *] at q1c0_0
  have q1c0_1 := hb.cell (p := ⟨w.heap.size, 1, none⟩) (by first | omega | (simp <;> omega))
  simp [go_sem, *] at q1c0_1
  have q1c0_2 := hb.cell (p := ⟨w.heap.size, 2, none⟩) (by first | omega | (simp <;> omega))
  simp [go_sem, *] at q1c0_2
  have q1c0_3 := hb.cell (p := ⟨w.heap.size, 3, none⟩) (by first | omega | (simp <;> omega))
  simp [go_sem, *] at q1c0_3
  have q1c0_4 := hb.cell (p := ⟨w.heap.size, 4, none⟩) (by first | omega | (simp <;> omega))
  simp [go_sem, *] at q1c0_4
  have q1c0_5 := hb.cell (p := ⟨w.heap.size, 5, none⟩) (by first | omega | (simp <;> omega))
  simp [go_sem, *] at q1c0_5
  have q1c0_6 := hb.cell (p := ⟨w.heap.size, 6, none⟩) (by first | omega | (simp <;> omega))
  simp [go_sem, *] at q1c0_6
  have q1f0 := fun o => hb.frozen (p := ⟨w.heap.size, o, none⟩) (by first | omega | (simp <;> omega))
  simp [go_sem, *] at q1f0
  have q1o : ∀ b o, b < w.heap.size → w1.cell? ⟨b, o, none⟩ = w.cell? ⟨b, o, none⟩ := fun b o h => q1B.cell (p := ⟨b, o, none⟩) h
  clear hb
  have H1 := hide q1B
  by_cases hc : chkS ac no f t op cl P ln = 0
  · have HC := hide hc
    obtain ⟨j1, j2⟩ := chk_pos hc
    rw [hc]
    clear hc
    unfold IIn at i1 i2
    cases hop : mnB op d with
    | false =>
      have HE := hide (txt_bad HC.out (show badS op cl P ln d = true by unfold badS; rw [hop]; simp))
      have HO := hide (amt_no hop)
      clear hop
      go_wp2_with fail
      refine (rmformat_any op d _).mono ?_
      rintro e w2 ⟨rfl, hb⟩
      rw [HO.out.1, HO.out.2]
      go_wp2_with fail
      refine bodyPost_ret (by simp [results, Tryd.results19, go_sem, *] <;> rfl) rfl ⟨?_, ?_⟩
      · rw [HE.out.1, HE.out.2]
      · exact H1.out.trans (hb.mono (by omega))
    | true =>
      have HOP := hide hop
      have HO := hide (amt_yes hop).2
      obtain ⟨l5, h5⟩ : ∃ l, l = amtL op d := ⟨_, rfl⟩
      have b5 : l5.length ≤ 30 := by rw [h5]; exact amtL_len op d
      obtain ⟨n1, rfl⟩ : ∃ m : Nat, no = m := ⟨no.toNat, by omega⟩
      obtain ⟨n2, rfl⟩ : ∃ m : Nat, ac = m := ⟨ac.toNat, by omega⟩
      obtain ⟨l1, h1⟩ : ∃ l, l = Lib.decDigits n1 := ⟨_, rfl⟩
      obtain ⟨l2, h2⟩ : ∃ l, l = Lib.decDigits n2 := ⟨_, rfl⟩
      obtain ⟨l3, h3⟩ : ∃ l, l = fmtL f := ⟨_, rfl⟩
      obtain ⟨l4, h4⟩ : ∃ l, l = fmtL t := ⟨_, rfl⟩
      have b1 : l1.length ≤ 20 := by rw [h1, Lib.decDigits_length]; exact Lib.nDigits_le20 _ (by omega)
      have b2 : l2.length ≤ 20 := by rw [h2, Lib.decDigits_length]; exact Lib.nDigits_le20 _ (by omega)
      have b3 : l3.length ≤ 10 := by rw [h3]; exact fmtL_len f
      have b4 : l4.length ≤ 10 := by rw [h4]; exact fmtL_len t
      have HH := hide (head_eq (ac := n2) (no := n1) (f := f) (t := t) (op := op) (d := d) (h1.trans (Lib.itoa_nonneg _).symm) (h2.trans (Lib.itoa_nonneg _).symm) h3 h4 h5)
      have hl1 := headL_len (ac := n2) (no := n1) (f := f) (t := t) (op := op) (d := d) (by omega) (by omega) (by omega) (by omega)
      have HL := hide hl1
      have HL2 := hide (linesL_len (P := P) d HX.out)
      have D1 := hide h1
      have D2 := hide h2
      have D3 := hide h3
      have D4 := hide h4
      have D5 := hide h5
      clear hop h1 h2 h3 h4 h5 hl1
      obtain ⟨r0, R0⟩ : ∃ r : List UInt8, Hid (r = [115, 116, 97, 116, 101, 109, 101, 110, 116, 32] ++ l1) := ⟨_, hide rfl⟩
      have br0 : r0.length ≤ 40 * (0 + 1) := by rw [R0.out]; simp only [List.length_append, List.length_cons, List.length_nil]; omega
      obtain ⟨r1, R1⟩ : ∃ r : List UInt8, Hid (r = r0 ++ [32, 97, 99, 99, 111, 117, 110, 116, 32]) := ⟨_, hide rfl⟩
      have br1 : r1.length ≤ 40 * (1 + 1) := by rw [R1.out]; simp only [List.length_append, List.length_cons, List.length_nil]; omega
      obtain ⟨r2, R2⟩ : ∃ r : List UInt8, Hid (r = r1 ++ l2) := ⟨_, hide rfl⟩
      have br2 : r2.length ≤ 40 * (2 + 1) := by rw [R2.out]; simp only [List.length_append, List.length_cons, List.length_nil]; omega
      obtain ⟨r3, R3⟩ : ∃ r : List UInt8, Hid (r = r2 ++ [10]) := ⟨_, hide rfl⟩
      have br3 : r3.length ≤ 40 * (3 + 1) := by rw [R3.out]; simp only [List.length_append, List.length_cons, List.length_nil]; omega
      obtain ⟨r4, R4⟩ : ∃ r : List UInt8, Hid (r = r3 ++ l3) := ⟨_, hide rfl⟩
      have br4 : r4.length ≤ 40 * (4 + 1) := by rw [R4.out]; simp only [List.length_append, List.length_cons, List.length_nil]; omega
      obtain ⟨r5, R5⟩ : ∃ r : List UInt8, Hid (r = r4 ++ [32, 116, 111, 32]) := ⟨_, hide rfl⟩
      have br5 : r5.length ≤ 40 * (5 + 1) := by rw [R5.out]; simp only [List.length_append, List.length_cons, List.length_nil]; omega
      obtain ⟨r6, R6⟩ : ∃ r : List UInt8, Hid (r = r5 ++ l4) := ⟨_, hide rfl⟩
      have br6 : r6.length ≤ 40 * (6 + 1) := by rw [R6.out]; simp only [List.length_append, List.length_cons, List.length_nil]; omega
      obtain ⟨r7, R7⟩ : ∃ r : List UInt8, Hid (r = r6 ++ [10, 111, 112, 101, 110, 105, 110, 103, 32]) := ⟨_, hide rfl⟩
      have br7 : r7.length ≤ 40 * (7 + 1) := by rw [R7.out]; simp only [List.length_append, List.length_cons, List.length_nil]; omega
      obtain ⟨r8, R8⟩ : ∃ r : List UInt8, Hid (r = r7 ++ l5) := ⟨_, hide rfl⟩
      have br8 : r8.length ≤ 40 * (8 + 1) := by rw [R8.out]; simp only [List.length_append, List.length_cons, List.length_nil]; omega
      obtain ⟨r9, R9⟩ : ∃ r : List UInt8, Hid (r = r8 ++ [10]) := ⟨_, hide rfl⟩
      have br9 : r9.length ≤ 40 * (9 + 1) := by rw [R9.out]; simp only [List.length_append, List.length_cons, List.length_nil]; omega
      go_wp2_with fail
      refine (rmformat_any op d _).mono ?_
      rintro e w2 ⟨rfl, hb⟩
      rw [HO.out, ← D5.out]
      have q2B : Below w1.heap.size w1 w2 := (by refine Below.trans ?_ (hb.mono (by first | omega | (simp <;> omega))); (repeat (first | (with_reducible exact Below.refl _ _) | (with_reducible assumption) | ((with_reducible refine Below.alloc ?_ ?_ _); (rotate_left); (first | omega | (simp <;> omega))) | ((with_reducible refine Below.setCell ?_ ?_ _); (rotate_left); (first | omega | (simp <;> omega))) | (with_reducible refine Below.drew ?_) | (with_reducible refine below_drewN ?_ _))))
      have q2z := hb.size
      try simp at q2z
      have q2t : w1.heap.size ≤ w2.heap.size := (by omega)
      have q2s0 : w.heap.size < w2.heap.size := (by omega)
      have q2n0_0 : ¬ w2.heap.size = w.heap.size := (by omega)
      have q2n0_1 : ¬ w2.heap.size + 1 = w.heap.size := (by omega)
      have q2n0_2 : ¬ w2.heap.size + 2 = w.heap.size := (by omega)
      have q2c0_0 := hb.cell (p := ⟨w.heap.size, 0, none⟩) (by first | omega | (simp <;> omega))
      simp [go_sem, *] at q2c0_0
      have q2c0_1 := hb.cell (p := ⟨w.heap.size, 1, none⟩) (by first | omega | (simp <;> omega))
      simp [go_sem, *] at q2c0_1
      have q2c0_2 := hb.cell (p := ⟨w.heap.size, 2, none⟩) (by first | omega | (simp <;> omega))
      simp [go_sem, *] at q2c0_2
      have q2c0_3 := hb.cell (p := ⟨w.heap.size, 3, none⟩) (by first | omega | (simp <;> omega))
      simp [go_sem, *] at q2c0_3
      have q2c0_4 := hb.cell (p := ⟨w.heap.size, 4, none⟩) (by first | omega | (simp <;> omega))
      simp [go_sem, *] at q2c0_4
      have q2c0_5 := hb.cell (p := ⟨w.heap.size, 5, none⟩) (by first | omega | (simp <;> omega))
      simp [go_sem, *] at q2c0_5
      have q2c0_6 := hb.cell (p := ⟨w.heap.size, 6, none⟩) (by first | omega | (simp <;> omega))
      simp [go_sem, *] at q2c0_6
      have q2f0 := fun o => hb.frozen (p := ⟨w.heap.size, o, none⟩) (by first | omega | (simp <;> omega))
      simp [go_sem, *] at q2f0
      have q2o : ∀ b o, b < w1.heap.size → w2.cell? ⟨b, o, none⟩ = w1.cell? ⟨b, o, none⟩ := fun b o h => q2B.cell (p := ⟨b, o, none⟩) h
      clear hb q1o q1f0 q1c0_6 q1c0_5 q1c0_4 q1c0_3 q1c0_2 q1c0_1 q1c0_0 q1s0 q1z q1B
      have H2 := hide q2B
      have s1 : w.heap.size < w2.heap.size := by omega
      have S1 := hide s1
      clear s1
      have HQ := hide (And.intro q2c0_0 (And.intro q2c0_1 (And.intro q2c0_2 (And.intro q2c0_3 (And.intro q2c0_4 (And.intro q2c0_5 (And.intro q2c0_6 q2f0)))))))
      go_wp2_with fail
      refine ord_start (SB (w2.heap.size) [] _) 24 #[false, false, false, false, false, false, false, false, false, false, false, false, false, false, false, false, false, false, false, false, false, false, false, false] (by kernel_rfl) (by kernel_rfl) (by kernel_rfl) SB.refl.drew (fun hHeld => ?_)
      refine ord_take (i := 0) #[true, false, false, false, false, false, false, false, false, false, false, false, false, false, false, false, false, false, false, false, false, false, false, false] ?_ rfl (by kernel_rfl) (by kernel_rfl) (by kernel_rfl) (by kernel_rfl) (fun _ _ _ h => h) hHeld (by rfl) (fun wx hSx => ?_) ?_
      rotate_left
      · (unfold SB at hSx; go_simp; (try with_reducible rfl))
      (try simp only [Act.put, List.setIfInBounds_toArray, List.set_cons_zero, List.set_cons_succ])
      refine ord_take (i := 1) #[true, true, false, false, false, false, false, false, false, false, false, false, false, false, false, false, false, false, false, false, false, false, false, false] ?_ rfl (by kernel_rfl) (by kernel_rfl) (by kernel_rfl) (by kernel_rfl) (fun _ _ _ h => h) hHeld (by rfl) (fun wx hSx => ?_) ?_
      rotate_left
      · (unfold SB at hSx; go_simp; (try with_reducible rfl))
      (try simp only [Act.put, List.setIfInBounds_toArray, List.set_cons_zero, List.set_cons_succ])
      refine ord_take (i := 5) #[true, true, false, false, false, true, false, false, false, false, false, false, false, false, false, false, false, false, false, false, false, false, false, false] ?_ rfl (by kernel_rfl) (by kernel_rfl) (by kernel_rfl) (by kernel_rfl) (fun _ _ _ h => h) hHeld (by rfl) (fun wx hSx => ?_) ?_
      rotate_left
      · (unfold SB at hSx; go_simp; (try with_reducible rfl))
      (try simp only [Act.put, List.setIfInBounds_toArray, List.set_cons_zero, List.set_cons_succ])
      refine ord_take (i := 6) #[true, true, false, false, false, true, true, false, false, false, false, false, false, false, false, false, false, false, false, false, false, false, false, false] ?_ rfl (by kernel_rfl) (by kernel_rfl) (by kernel_rfl) (by kernel_rfl) (fun _ _ _ h => h) hHeld (by rfl) (fun wx hSx => ?_) ?_
      rotate_left
      · (unfold SB at hSx; go_simp; (try with_reducible rfl))
      (try simp only [Act.put, List.setIfInBounds_toArray, List.set_cons_zero, List.set_cons_succ])
      refine ord_take (i := 10) #[true, true, false, false, false, true, true, false, false, false, true, false, false, false, false, false, false, false, false, false, false, false, false, false] ?_ rfl (by kernel_rfl) (by kernel_rfl) (by kernel_rfl) (by kernel_rfl) (fun _ _ _ h => h) hHeld (by rfl) (fun wx hSx => ?_) ?_
      rotate_left
      · (unfold SB at hSx; go_simp; (try with_reducible rfl))
      (try simp only [Act.put, List.setIfInBounds_toArray, List.set_cons_zero, List.set_cons_succ])
      refine ord_take (i := 11) #[true, true, false, false, false, true, true, false, false, false, true, true, false, false, false, false, false, false, false, false, false, false, false, false] ?_ rfl (by kernel_rfl) (by kernel_rfl) (by kernel_rfl) (by kernel_rfl) (fun _ _ _ h => h) hHeld (by rfl) (fun wx hSx => ?_) ?_
      rotate_left
      · (unfold SB at hSx; go_simp; (try with_reducible rfl))
      (try simp only [Act.put, List.setIfInBounds_toArray, List.set_cons_zero, List.set_cons_succ])
      refine ord_take (i := 15) #[true, true, false, false, false, true, true, false, false, false, true, true, false, false, false, true, false, false, false, false, false, false, false, false] ?_ rfl (by kernel_rfl) (by kernel_rfl) (by kernel_rfl) (by kernel_rfl) (fun _ _ _ h => h) hHeld (by rfl) (fun wx hSx => ?_) ?_
      rotate_left
      · (unfold SB at hSx; go_simp; (try with_reducible rfl))
      (try simp only [Act.put, List.setIfInBounds_toArray, List.set_cons_zero, List.set_cons_succ])
      refine ord_take (i := 16) #[true, true, false, false, false, true, true, false, false, false, true, true, false, false, false, true, true, false, false, false, false, false, false, false] ?_ rfl (by kernel_rfl) (by kernel_rfl) (by kernel_rfl) (by kernel_rfl) (fun _ _ _ h => h) hHeld (by rfl) (fun wx hSx => ?_) ?_
      rotate_left
      · (unfold SB at hSx; go_simp; (try with_reducible rfl))
      (try simp only [Act.put, List.setIfInBounds_toArray, List.set_cons_zero, List.set_cons_succ])
      refine ord_take (i := 20) #[true, true, false, false, false, true, true, false, false, false, true, true, false, false, false, true, true, false, false, false, true, false, false, false] ?_ rfl (by kernel_rfl) (by kernel_rfl) (by kernel_rfl) (by kernel_rfl) (fun _ _ _ h => h) hHeld (by rfl) (fun wx hSx => ?_) ?_
      rotate_left
      · (unfold SB at hSx; go_simp; (try with_reducible rfl))
      (try simp only [Act.put, List.setIfInBounds_toArray, List.set_cons_zero, List.set_cons_succ])
      refine wpAnyH_ready (rs := [2]) (by kernel_rfl) (by simp) ?_
      refine ord_run (i := 2) #[true, true, true, false, false, true, true, false, false, false, true, true, false, false, false, true, true, false, false, false, true, false, false, false] rfl (by kernel_rfl) (by rfl) (fun K hK => ?_) AllReadyH.nil
      go_simp
      go_wp2_with (go_at_call 39; refine (rDigits_any n1 (by omega) _).mono ?_; rintro e w3 ⟨rfl, rfl⟩; rw [← D1.out])
      refine hK.out _ _ ?_ (fun hHeld => ?_)
      · (repeat (first | (with_reducible exact SB.refl) | (with_reducible exact hHeld) | (with_reducible refine SB.drew ?_) | (with_reducible refine SB.drewN ?_ _) | ((with_reducible refine SB.alloc ?_ ?_ _); (rotate_left); (first | omega | (simp <;> omega))) | ((with_reducible refine SB.setCell ?_ ?_ _); (rotate_left); (focus (first | (simp; done) | (right; first | omega | (simp <;> omega))))) | ((with_reducible refine SB.below ?_ hbS ?_); (rotate_left); (first | omega | (simp <;> omega))) | ((with_reducible refine SB.below ?_ hbS1 ?_); (rotate_left); (first | omega | (simp <;> omega))) | ((with_reducible refine SB.below ?_ hbS2 ?_); (rotate_left); (first | omega | (simp <;> omega))) | ((with_reducible refine SB.below ?_ hbS3 ?_); (rotate_left); (first | omega | (simp <;> omega))) | ((with_reducible refine SB.below ?_ hbS4 ?_); (rotate_left); (first | omega | (simp <;> omega))) | (with_reducible refine SB.undrew ?_) | ((with_reducible refine SB.congr ?_ ?_); (rotate_left); (focus (simp; done))) | ((with_reducible refine SB.realloc ?_ ?_ ?_); (rotate_left); (focus (simp; done)); (focus (simp; done)))))
      clear hK K
      (try simp only [Act.put, List.setIfInBounds_toArray, List.set_cons_zero, List.set_cons_succ])
      refine ord_take (i := 3) #[true, true, true, true, false, true, true, false, false, false, true, true, false, false, false, true, true, false, false, false, true, false, false, false] (.string ⟨r0.toArray⟩) rfl (by kernel_rfl) (by kernel_rfl) (by kernel_rfl) (by kernel_rfl) (fun _ _ _ h => h) hHeld (by rfl) (fun wx hSx => ?_) ?_
      · (unfold SB at hSx; go_simp; exact cat_to R0.out (by omega))
      (try simp only [Act.put, List.setIfInBounds_toArray, List.set_cons_zero, List.set_cons_succ])
      refine ord_take (i := 4) #[true, true, true, true, true, true, true, false, false, false, true, true, false, false, false, true, true, false, false, false, true, false, false, false] (.string ⟨r1.toArray⟩) rfl (by kernel_rfl) (by kernel_rfl) (by kernel_rfl) (by kernel_rfl) (fun _ _ _ h => h) hHeld (by rfl) (fun wx hSx => ?_) ?_
      · (unfold SB at hSx; go_simp; exact cat_to R1.out (by omega))
      (try simp only [Act.put, List.setIfInBounds_toArray, List.set_cons_zero, List.set_cons_succ])
      refine wpAnyH_ready (rs := [7]) (by kernel_rfl) (by simp) ?_
      refine ord_run (i := 7) #[true, true, true, true, true, true, true, true, false, false, true, true, false, false, false, true, true, false, false, false, true, false, false, false] rfl (by kernel_rfl) (by rfl) (fun K hK => ?_) AllReadyH.nil
      go_simp
      go_wp2_with (go_at_call 39; refine (rDigits_any n2 (by omega) _).mono ?_; rintro e w3 ⟨rfl, rfl⟩; rw [← D2.out])
      refine hK.out _ _ ?_ (fun hHeld => ?_)
      · (repeat (first | (with_reducible exact SB.refl) | (with_reducible exact hHeld) | (with_reducible refine SB.drew ?_) | (with_reducible refine SB.drewN ?_ _) | ((with_reducible refine SB.alloc ?_ ?_ _); (rotate_left); (first | omega | (simp <;> omega))) | ((with_reducible refine SB.setCell ?_ ?_ _); (rotate_left); (focus (first | (simp; done) | (right; first | omega | (simp <;> omega))))) | ((with_reducible refine SB.below ?_ hbS ?_); (rotate_left); (first | omega | (simp <;> omega))) | ((with_reducible refine SB.below ?_ hbS1 ?_); (rotate_left); (first | omega | (simp <;> omega))) | ((with_reducible refine SB.below ?_ hbS2 ?_); (rotate_left); (first | omega | (simp <;> omega))) | ((with_reducible refine SB.below ?_ hbS3 ?_); (rotate_left); (first | omega | (simp <;> omega))) | ((with_reducible refine SB.below ?_ hbS4 ?_); (rotate_left); (first | omega | (simp <;> omega))) | (with_reducible refine SB.undrew ?_) | ((with_reducible refine SB.congr ?_ ?_); (rotate_left); (focus (simp; done))) | ((with_reducible refine SB.realloc ?_ ?_ ?_); (rotate_left); (focus (simp; done)); (focus (simp; done)))))
      clear hK K
      (try simp only [Act.put, List.setIfInBounds_toArray, List.set_cons_zero, List.set_cons_succ])
      refine ord_take (i := 8) #[true, true, true, true, true, true, true, true, true, false, true, true, false, false, false, true, true, false, false, false, true, false, false, false] (.string ⟨r2.toArray⟩) rfl (by kernel_rfl) (by kernel_rfl) (by kernel_rfl) (by kernel_rfl) (fun _ _ _ h => h) hHeld (by rfl) (fun wx hSx => ?_) ?_
      · (unfold SB at hSx; go_simp; exact cat_to R2.out (by omega))
      (try simp only [Act.put, List.setIfInBounds_toArray, List.set_cons_zero, List.set_cons_succ])
      refine ord_take (i := 9) #[true, true, true, true, true, true, true, true, true, true, true, true, false, false, false, true, true, false, false, false, true, false, false, false] (.string ⟨r3.toArray⟩) rfl (by kernel_rfl) (by kernel_rfl) (by kernel_rfl) (by kernel_rfl) (fun _ _ _ h => h) hHeld (by rfl) (fun wx hSx => ?_) ?_
      · (unfold SB at hSx; go_simp; exact cat_to R3.out (by omega))
      (try simp only [Act.put, List.setIfInBounds_toArray, List.set_cons_zero, List.set_cons_succ])
      refine wpAnyH_ready (rs := [12]) (by kernel_rfl) (by simp) ?_
      refine ord_run (i := 12) #[true, true, true, true, true, true, true, true, true, true, true, true, true, false, false, true, true, false, false, false, true, false, false, false] rfl (by kernel_rfl) (by rfl) (fun K hK => ?_) AllReadyH.nil
      go_simp
      go_wp2_with (go_at_call 40; refine (rformat_any f _).mono ?_; rintro e w3 ⟨rfl, hb3⟩; rw [← D3.out]; have hHeld := SB.below hHeld hb3 (Nat.le_refl _); have z3 := hb3.size; (try simp at z3))
      refine hK.out _ _ ?_ (fun hHeld => ?_)
      · (repeat (first | (with_reducible exact SB.refl) | (with_reducible exact hHeld) | (with_reducible refine SB.drew ?_) | (with_reducible refine SB.drewN ?_ _) | ((with_reducible refine SB.alloc ?_ ?_ _); (rotate_left); (first | omega | (simp <;> omega))) | ((with_reducible refine SB.setCell ?_ ?_ _); (rotate_left); (focus (first | (simp; done) | (right; first | omega | (simp <;> omega))))) | ((with_reducible refine SB.below ?_ hbS ?_); (rotate_left); (first | omega | (simp <;> omega))) | ((with_reducible refine SB.below ?_ hbS1 ?_); (rotate_left); (first | omega | (simp <;> omega))) | ((with_reducible refine SB.below ?_ hbS2 ?_); (rotate_left); (first | omega | (simp <;> omega))) | ((with_reducible refine SB.below ?_ hbS3 ?_); (rotate_left); (first | omega | (simp <;> omega))) | ((with_reducible refine SB.below ?_ hbS4 ?_); (rotate_left); (first | omega | (simp <;> omega))) | (with_reducible refine SB.undrew ?_) | ((with_reducible refine SB.congr ?_ ?_); (rotate_left); (focus (simp; done))) | ((with_reducible refine SB.realloc ?_ ?_ ?_); (rotate_left); (focus (simp; done)); (focus (simp; done)))))
      clear hK K
      (try simp only [Act.put, List.setIfInBounds_toArray, List.set_cons_zero, List.set_cons_succ])
      refine ord_take (i := 13) #[true, true, true, true, true, true, true, true, true, true, true, true, true, true, false, true, true, false, false, false, true, false, false, false] (.string ⟨r4.toArray⟩) rfl (by kernel_rfl) (by kernel_rfl) (by kernel_rfl) (by kernel_rfl) (fun _ _ _ h => h) hHeld (by rfl) (fun wx hSx => ?_) ?_
      · (unfold SB at hSx; go_simp; exact cat_to R4.out (by omega))
      (try simp only [Act.put, List.setIfInBounds_toArray, List.set_cons_zero, List.set_cons_succ])
      refine ord_take (i := 14) #[true, true, true, true, true, true, true, true, true, true, true, true, true, true, true, true, true, false, false, false, true, false, false, false] (.string ⟨r5.toArray⟩) rfl (by kernel_rfl) (by kernel_rfl) (by kernel_rfl) (by kernel_rfl) (fun _ _ _ h => h) hHeld (by rfl) (fun wx hSx => ?_) ?_
      · (unfold SB at hSx; go_simp; exact cat_to R5.out (by omega))
      (try simp only [Act.put, List.setIfInBounds_toArray, List.set_cons_zero, List.set_cons_succ])
      refine wpAnyH_ready (rs := [17]) (by kernel_rfl) (by simp) ?_
      refine ord_run (i := 17) #[true, true, true, true, true, true, true, true, true, true, true, true, true, true, true, true, true, true, false, false, true, false, false, false] rfl (by kernel_rfl) (by rfl) (fun K hK => ?_) AllReadyH.nil
      go_simp
      go_wp2_with (go_at_call 40; refine (rformat_any t _).mono ?_; rintro e w4 ⟨rfl, hb4⟩; rw [← D4.out]; have hHeld := SB.below hHeld hb4 (by omega))
      refine hK.out _ _ ?_ (fun hHeld => ?_)
      · (repeat (first | (with_reducible exact SB.refl) | (with_reducible exact hHeld) | (with_reducible refine SB.drew ?_) | (with_reducible refine SB.drewN ?_ _) | ((with_reducible refine SB.alloc ?_ ?_ _); (rotate_left); (first | omega | (simp <;> omega))) | ((with_reducible refine SB.setCell ?_ ?_ _); (rotate_left); (focus (first | (simp; done) | (right; first | omega | (simp <;> omega))))) | ((with_reducible refine SB.below ?_ hbS ?_); (rotate_left); (first | omega | (simp <;> omega))) | ((with_reducible refine SB.below ?_ hbS1 ?_); (rotate_left); (first | omega | (simp <;> omega))) | ((with_reducible refine SB.below ?_ hbS2 ?_); (rotate_left); (first | omega | (simp <;> omega))) | ((with_reducible refine SB.below ?_ hbS3 ?_); (rotate_left); (first | omega | (simp <;> omega))) | ((with_reducible refine SB.below ?_ hbS4 ?_); (rotate_left); (first | omega | (simp <;> omega))) | (with_reducible refine SB.undrew ?_) | ((with_reducible refine SB.congr ?_ ?_); (rotate_left); (focus (simp; done))) | ((with_reducible refine SB.realloc ?_ ?_ ?_); (rotate_left); (focus (simp; done)); (focus (simp; done)))))
      clear hK K
      (try simp only [Act.put, List.setIfInBounds_toArray, List.set_cons_zero, List.set_cons_succ])
      refine ord_take (i := 18) #[true, true, true, true, true, true, true, true, true, true, true, true, true, true, true, true, true, true, true, false, true, false, false, false] (.string ⟨r6.toArray⟩) rfl (by kernel_rfl) (by kernel_rfl) (by kernel_rfl) (by kernel_rfl) (fun _ _ _ h => h) hHeld (by rfl) (fun wx hSx => ?_) ?_
      · (unfold SB at hSx; go_simp; exact cat_to R6.out (by omega))
      (try simp only [Act.put, List.setIfInBounds_toArray, List.set_cons_zero, List.set_cons_succ])
      refine ord_take (i := 19) #[true, true, true, true, true, true, true, true, true, true, true, true, true, true, true, true, true, true, true, true, true, false, false, false] (.string ⟨r7.toArray⟩) rfl (by kernel_rfl) (by kernel_rfl) (by kernel_rfl) (by kernel_rfl) (fun _ _ _ h => h) hHeld (by rfl) (fun wx hSx => ?_) ?_
      · (unfold SB at hSx; go_simp; exact cat_to R7.out (by omega))
      (try simp only [Act.put, List.setIfInBounds_toArray, List.set_cons_zero, List.set_cons_succ])
      refine ord_take (i := 21) #[true, true, true, true, true, true, true, true, true, true, true, true, true, true, true, true, true, true, true, true, true, true, false, false] (.string ⟨r8.toArray⟩) rfl (by kernel_rfl) (by kernel_rfl) (by kernel_rfl) (by kernel_rfl) (fun _ _ _ h => h) hHeld (by rfl) (fun wx hSx => ?_) ?_
      · (unfold SB at hSx; go_simp; exact cat_to R8.out (by omega))
      (try simp only [Act.put, List.setIfInBounds_toArray, List.set_cons_zero, List.set_cons_succ])
      refine ord_take (i := 22) #[true, true, true, true, true, true, true, true, true, true, true, true, true, true, true, true, true, true, true, true, true, true, true, false] (.string ⟨r9.toArray⟩) rfl (by kernel_rfl) (by kernel_rfl) (by kernel_rfl) (by kernel_rfl) (fun _ _ _ h => h) hHeld (by rfl) (fun wx hSx => ?_) ?_
      · (unfold SB at hSx; go_simp; exact cat_to R9.out (by omega))
      (try simp only [Act.put, List.setIfInBounds_toArray, List.set_cons_zero, List.set_cons_succ])
      refine ord_take (i := 23) #[true, true, true, true, true, true, true, true, true, true, true, true, true, true, true, true, true, true, true, true, true, true, true, true] ?_ rfl (by kernel_rfl) (by kernel_rfl) (by kernel_rfl) (by kernel_rfl) (fun _ _ _ h => h) hHeld (by rfl) (fun wx hSx => ?_) ?_
      rotate_left
      · (unfold SB at hSx; go_simp; (try with_reducible rfl))
      (try simp only [Act.put, List.setIfInBounds_toArray, List.set_cons_zero, List.set_cons_succ])
      refine wpAnyH_done (by kernel_rfl) ?_ _
      rw [show r9 = headL n2 n1 f t op d from by rw [R9.out, R8.out, R7.out, R6.out, R5.out, R4.out, R3.out, R2.out, R1.out, R0.out]; exact HH.out]
      have h24 : Below w2.heap.size w2 w4 := (Below.refl w2.heap.size w2).drew.trans (hb3.trans (hb4.mono z3))
      have HB4 := hide h24
      clear hb3 hb4 hHeld h24
      go_wp2_with fail
      go_loopw [9, 10] (fun v9 v10 wr => RxLo P (headL n2 n1 f t op d) d ln w2 v9 v10 wr) (fun _ v _ => ln - (intOf v).toNat)
      case atStart => exact ⟨0, by omega, by simp [linesL], rfl, rfl, HB4.out⟩
      case round =>
        obtain ⟨k, hk, rfl, rfl, hbk, hb⟩ := hrel
        have HBK := hide hbk
        clear hbk
        have H0 := hide hb
        have s1 := S1.out
        obtain ⟨p0, p1, p2, p3, p4, p5, p6, p9⟩ := HQ.out
        have q3B : Below w2.heap.size w2 wr := (by refine Below.trans ?_ (hb.mono (by first | omega | (simp <;> omega))); (repeat (first | (with_reducible exact Below.refl _ _) | (with_reducible assumption) | ((with_reducible refine Below.alloc ?_ ?_ _); (rotate_left); (first | omega | (simp <;> omega))) | ((with_reducible refine Below.setCell ?_ ?_ _); (rotate_left); (first | omega | (simp <;> omega))) | (with_reducible refine Below.drew ?_) | (with_reducible refine below_drewN ?_ _))))
        have q3z := hb.size
        try simp at q3z
        have q3t : w2.heap.size ≤ wr.heap.size := (by omega)
        have q3s0 : w.heap.size < wr.heap.size := (by omega)
        have q3n0_0 : ¬ wr.heap.size = w.heap.size := (by omega)
        have q3n0_1 : ¬ wr.heap.size + 1 = w.heap.size := (by omega)
        have q3n0_2 : ¬ wr.heap.size + 2 = w.heap.size := (by omega)
        have q3c0_0 := hb.cell (p := ⟨w.heap.size, 0, none⟩) (by first | omega | (simp <;> omega))
        simp [go_sem, *] at q3c0_0
        have q3c0_1 := hb.cell (p := ⟨w.heap.size, 1, none⟩) (by first | omega | (simp <;> omega))
        simp [go_sem, *] at q3c0_1
        have q3c0_2 := hb.cell (p := ⟨w.heap.size, 2, none⟩) (by first | omega | (simp <;> omega))
        simp [go_sem, *] at q3c0_2
        have q3c0_3 := hb.cell (p := ⟨w.heap.size, 3, none⟩) (by first | omega | (simp <;> omega))
        simp [go_sem, *] at q3c0_3
        have q3c0_4 := hb.cell (p := ⟨w.heap.size, 4, none⟩) (by first | omega | (simp <;> omega))
        simp [go_sem, *] at q3c0_4
        have q3c0_5 := hb.cell (p := ⟨w.heap.size, 5, none⟩) (by first | omega | (simp <;> omega))
        simp [go_sem, *] at q3c0_5
        have q3c0_6 := hb.cell (p := ⟨w.heap.size, 6, none⟩) (by first | omega | (simp <;> omega))
        simp [go_sem, *] at q3c0_6
        have q3f0 := fun o => hb.frozen (p := ⟨w.heap.size, o, none⟩) (by first | omega | (simp <;> omega))
        simp [go_sem, *] at q3f0
        have q3o : ∀ b o, b < w2.heap.size → wr.cell? ⟨b, o, none⟩ = w2.cell? ⟨b, o, none⟩ := fun b o h => q3B.cell (p := ⟨b, o, none⟩) h
        clear hb q2o q2f0 q2c0_6 q2c0_5 q2c0_4 q2c0_3 q2c0_2 q2c0_1 q2c0_0 q2s0 q2z q2B
        clear p0 p1 p2 p3 p4 p5 p6 p9 s1
        by_cases hlt : k < ln
        · have hm : (k : Int) < ln := by omega
          have HK := hide hlt
          have hk0 : (0 : Int) ≤ k := by omega
          obtain ⟨b, off, rfl, hbl, c0, c1, c2, c3⟩ := ((HR.out.below H1.out).below (H2.out.trans (H0.out.mono (by omega)))).at hlt
          clear hlt hk
          cases hp : mnB (P k).am d with
          | false =>
            have HE := hide (txt_bad HC.out (show badS op cl P ln d = true by unfold badS; rw [bad_mono HK.out (show badL P d (k + 1) = true by show (badL P d k || !mnB (P k).am d) = true; rw [hp]; simp)]; simp))
            have HO2 := hide (amt_no hp)
            clear hp
            go_wp2_with fail
            refine (rmformat_any (P k).am d _).mono ?_
            rintro e w5 ⟨rfl, hb⟩
            rw [HO2.out.1, HO2.out.2]
            go_wp2_with fail
            refine bodyPost_ret (by simp [results, Tryd.results19, go_sem, *] <;> rfl) rfl ⟨?_, ?_⟩
            · rw [HE.out.1, HE.out.2]
            · exact H1.out.trans ((H2.out.trans ((H0.out.trans (hb.mono (by omega))).mono (by omega))).mono (by omega))
          | true =>
            have HP := hide hp
            have HO2 := hide (amt_yes hp).2
            obtain ⟨m1, g1⟩ : ∃ l, l = fmtL (P k).dy := ⟨_, rfl⟩
            obtain ⟨m2, g2⟩ : ∃ l, l = amtL (P k).am d := ⟨_, rfl⟩
            obtain ⟨m3, g3⟩ : ∃ l, l = (P k).tx.data.toList := ⟨_, rfl⟩
            have e3 : (P k).tx = ⟨m3.toArray⟩ := (blist _).trans (by rw [g3])
            obtain ⟨h0, gh⟩ : ∃ l, l = headL n2 n1 f t op d ++ linesL P d k := ⟨_, rfl⟩
            have B0 : m1.length ≤ 10 := by rw [g1]; exact fmtL_len _
            have B1 : m2.length ≤ 30 := by rw [g2]; exact amtL_len _ _
            have B2 : m3.length ≤ 200 := by rw [g3]; have := HX.out k HK.out; rw [show (P k).tx.data.toList.length = (P k).tx.size from Array.length_toList]; exact this
            have B3 : h0.length ≤ 100000 := by rw [gh, List.length_append]; have q1 := HL.out; have q2 := linesL_len (P := P) d (n := k) (fun i hi => HX.out i (by have := HK.out; omega)); have q3 := HK.out; omega
            have HF := hide (show ((((((h0 ++ m1) ++ [32]) ++ m2) ++ [32]) ++ m3) ++ [10] : List UInt8) = headL n2 n1 f t op d ++ linesL P d (k + 1) by rw [g1, g2, g3, gh]; show _ = _ ++ (linesL P d k ++ lineL (P k) d); unfold lineL; rw [wJ_3']; simp only [List.append_assoc])
            rw [e3] at c3
            rw [← gh]
            have G1 := hide g1
            have G2 := hide g2
            clear hp g1 g2 g3 gh e3
            go_wp2_with fail
            refine (rmformat_any (P k).am d _).mono ?_
            rintro e w5 ⟨rfl, hb⟩
            rw [HO2.out, ← G2.out]
            have d0 := (hb.cell (p := ⟨b, off + k * 4, none⟩) hbl).trans c0
            have d1 := (hb.cell (p := ⟨b, off + k * 4 + 1, none⟩) hbl).trans c1
            have d2 := (hb.cell (p := ⟨b, off + k * 4 + 2, none⟩) hbl).trans c2
            have d3 := (hb.cell (p := ⟨b, off + k * 4 + 3, none⟩) hbl).trans c3
            clear c0 c1 c2 c3
            have q4B : Below wr.heap.size wr w5 := (by refine Below.trans ?_ (hb.mono (by first | omega | (simp <;> omega))); (repeat (first | (with_reducible exact Below.refl _ _) | (with_reducible assumption) | ((with_reducible refine Below.alloc ?_ ?_ _); (rotate_left); (first | omega | (simp <;> omega))) | ((with_reducible refine Below.setCell ?_ ?_ _); (rotate_left); (first | omega | (simp <;> omega))) | (with_reducible refine Below.drew ?_) | (with_reducible refine below_drewN ?_ _))))
            have q4z := hb.size
            try simp at q4z
            have q4t : wr.heap.size ≤ w5.heap.size := (by omega)
            have q4s0 : w.heap.size < w5.heap.size := (by omega)
            have q4n0_0 : ¬ w5.heap.size = w.heap.size := (by omega)
            have q4n0_1 : ¬ w5.heap.size + 1 = w.heap.size := (by omega)
            have q4n0_2 : ¬ w5.heap.size + 2 = w.heap.size := (by omega)
            have q4c0_0 := hb.cell (p := ⟨w.heap.size, 0, none⟩) (by first | omega | (simp <;> omega))
            simp [go_sem, *] at q4c0_0
            have q4c0_1 := hb.cell (p := ⟨w.heap.size, 1, none⟩) (by first | omega | (simp <;> omega))
            simp [go_sem, *] at q4c0_1
            have q4c0_2 := hb.cell (p := ⟨w.heap.size, 2, none⟩) (by first | omega | (simp <;> omega))
            simp [go_sem, *] at q4c0_2
            have q4c0_3 := hb.cell (p := ⟨w.heap.size, 3, none⟩) (by first | omega | (simp <;> omega))
            simp [go_sem, *] at q4c0_3
            have q4c0_4 := hb.cell (p := ⟨w.heap.size, 4, none⟩) (by first | omega | (simp <;> omega))
            simp [go_sem, *] at q4c0_4
            have q4c0_5 := hb.cell (p := ⟨w.heap.size, 5, none⟩) (by first | omega | (simp <;> omega))
            simp [go_sem, *] at q4c0_5
            have q4c0_6 := hb.cell (p := ⟨w.heap.size, 6, none⟩) (by first | omega | (simp <;> omega))
            simp [go_sem, *] at q4c0_6
            have q4f0 := fun o => hb.frozen (p := ⟨w.heap.size, o, none⟩) (by first | omega | (simp <;> omega))
            simp [go_sem, *] at q4f0
            have q4o : ∀ b o, b < wr.heap.size → w5.cell? ⟨b, o, none⟩ = wr.cell? ⟨b, o, none⟩ := fun b o h => q4B.cell (p := ⟨b, o, none⟩) h
            clear hb q3o q3f0 q3c0_6 q3c0_5 q3c0_4 q3c0_3 q3c0_2 q3c0_1 q3c0_0 q3s0 q3z q3B
            have hbl5 : b < w5.heap.size := by omega
            obtain ⟨x0, X0⟩ : ∃ r : List UInt8, Hid (r = h0 ++ m1) := ⟨_, hide rfl⟩
            have bx0 : x0.length ≤ 200000 + 250 * 0 := by rw [X0.out]; simp only [List.length_append, List.length_cons, List.length_nil]; omega
            obtain ⟨x1, X1⟩ : ∃ r : List UInt8, Hid (r = x0 ++ [32]) := ⟨_, hide rfl⟩
            have bx1 : x1.length ≤ 200000 + 250 * 1 := by rw [X1.out]; simp only [List.length_append, List.length_cons, List.length_nil]; omega
            obtain ⟨x2, X2⟩ : ∃ r : List UInt8, Hid (r = x1 ++ m2) := ⟨_, hide rfl⟩
            have bx2 : x2.length ≤ 200000 + 250 * 2 := by rw [X2.out]; simp only [List.length_append, List.length_cons, List.length_nil]; omega
            obtain ⟨x3, X3⟩ : ∃ r : List UInt8, Hid (r = x2 ++ [32]) := ⟨_, hide rfl⟩
            have bx3 : x3.length ≤ 200000 + 250 * 3 := by rw [X3.out]; simp only [List.length_append, List.length_cons, List.length_nil]; omega
            obtain ⟨x4, X4⟩ : ∃ r : List UInt8, Hid (r = x3 ++ m3) := ⟨_, hide rfl⟩
            have bx4 : x4.length ≤ 200000 + 250 * 4 := by rw [X4.out]; simp only [List.length_append, List.length_cons, List.length_nil]; omega
            obtain ⟨x5, X5⟩ : ∃ r : List UInt8, Hid (r = x4 ++ [10]) := ⟨_, hide rfl⟩
            have bx5 : x5.length ≤ 200000 + 250 * 5 := by rw [X5.out]; simp only [List.length_append, List.length_cons, List.length_nil]; omega
            have H5 := hide q4B
            go_wp2_with fail
            refine ord_start (SB (w5.heap.size) [] _) 22 #[false, false, false, false, false, false, false, false, false, false, false, false, false, false, false, false, false, false, false, false, false, false] (by kernel_rfl) (by kernel_rfl) (by kernel_rfl) SB.refl.drew (fun hHeld => ?_)
            refine ord_take (i := 0) #[true, false, false, false, false, false, false, false, false, false, false, false, false, false, false, false, false, false, false, false, false, false] ?_ rfl (by kernel_rfl) (by kernel_rfl) (by kernel_rfl) (by kernel_rfl) (fun _ _ _ h => h) hHeld (by rfl) (fun wx hSx => ?_) ?_
            rotate_left
            · (unfold SB at hSx; go_simp; (try with_reducible rfl))
            (try simp only [Act.put, List.setIfInBounds_toArray, List.set_cons_zero, List.set_cons_succ])
            refine ord_take (i := 1) #[true, true, false, false, false, false, false, false, false, false, false, false, false, false, false, false, false, false, false, false, false, false] ?_ rfl (by kernel_rfl) (by kernel_rfl) (by kernel_rfl) (by kernel_rfl) (fun _ _ _ h => h) hHeld (by rfl) (fun wx hSx => ?_) ?_
            rotate_left
            · (unfold SB at hSx; go_simp; (try with_reducible rfl))
            (try simp only [Act.put, List.setIfInBounds_toArray, List.set_cons_zero, List.set_cons_succ])
            refine ord_take (i := 2) #[true, true, true, false, false, false, false, false, false, false, false, false, false, false, false, false, false, false, false, false, false, false] ?_ rfl (by kernel_rfl) (by kernel_rfl) (by kernel_rfl) (by kernel_rfl) (fun _ _ _ h => h) hHeld (by rfl) (fun wx hSx => ?_) ?_
            rotate_left
            · (unfold SB at hSx; go_simp; (try with_reducible rfl))
            (try simp only [Act.put, List.setIfInBounds_toArray, List.set_cons_zero, List.set_cons_succ])
            refine ord_take (i := 3) #[true, true, true, true, false, false, false, false, false, false, false, false, false, false, false, false, false, false, false, false, false, false] ?_ rfl (by kernel_rfl) (by kernel_rfl) (by kernel_rfl) (by kernel_rfl) (fun _ _ _ h => h) hHeld (by rfl) (fun wx hSx => ?_) ?_
            rotate_left
            · (unfold SB at hSx; go_simp; (try with_reducible rfl))
            (try simp only [Act.put, List.setIfInBounds_toArray, List.set_cons_zero, List.set_cons_succ])
            refine ord_take (i := 4) #[true, true, true, true, true, false, false, false, false, false, false, false, false, false, false, false, false, false, false, false, false, false] ?_ rfl (by kernel_rfl) (by kernel_rfl) (by kernel_rfl) (by kernel_rfl) (fun _ _ _ h => h) hHeld (by rfl) (fun wx hSx => ?_) ?_
            rotate_left
            · (unfold SB at hSx; go_simp; (try with_reducible rfl))
            (try simp only [Act.put, List.setIfInBounds_toArray, List.set_cons_zero, List.set_cons_succ])
            refine ord_take (i := 5) #[true, true, true, true, true, true, false, false, false, false, false, false, false, false, false, false, false, false, false, false, false, false] ?_ rfl (by kernel_rfl) (by kernel_rfl) (by kernel_rfl) (by kernel_rfl) (fun _ _ _ h => h) hHeld (by rfl) (fun wx hSx => ?_) ?_
            rotate_left
            · (unfold SB at hSx; go_simp; (try with_reducible rfl))
            (try simp only [Act.put, List.setIfInBounds_toArray, List.set_cons_zero, List.set_cons_succ])
            refine ord_take (i := 6) #[true, true, true, true, true, true, true, false, false, false, false, false, false, false, false, false, false, false, false, false, false, false] ?_ rfl (by kernel_rfl) (by kernel_rfl) (by kernel_rfl) (by kernel_rfl) (fun _ _ _ h => h) hHeld (by rfl) (fun wx hSx => ?_) ?_
            rotate_left
            · (unfold SB at hSx; go_simp; (try with_reducible rfl))
            (try simp only [Act.put, List.setIfInBounds_toArray, List.set_cons_zero, List.set_cons_succ])
            refine ord_take (i := 10) #[true, true, true, true, true, true, true, false, false, false, true, false, false, false, false, false, false, false, false, false, false, false] ?_ rfl (by kernel_rfl) (by kernel_rfl) (by kernel_rfl) (by kernel_rfl) (fun _ _ _ h => h) hHeld (by rfl) (fun wx hSx => ?_) ?_
            rotate_left
            · (unfold SB at hSx; go_simp; (try with_reducible rfl))
            (try simp only [Act.put, List.setIfInBounds_toArray, List.set_cons_zero, List.set_cons_succ])
            refine ord_take (i := 13) #[true, true, true, true, true, true, true, false, false, false, true, false, false, true, false, false, false, false, false, false, false, false] ?_ rfl (by kernel_rfl) (by kernel_rfl) (by kernel_rfl) (by kernel_rfl) (fun _ _ _ h => h) hHeld (by rfl) (fun wx hSx => ?_) ?_
            rotate_left
            · (unfold SB at hSx; go_simp; (try with_reducible rfl))
            (try simp only [Act.put, List.setIfInBounds_toArray, List.set_cons_zero, List.set_cons_succ])
            refine ord_take (i := 14) #[true, true, true, true, true, true, true, false, false, false, true, false, false, true, true, false, false, false, false, false, false, false] ?_ rfl (by kernel_rfl) (by kernel_rfl) (by kernel_rfl) (by kernel_rfl) (fun _ _ _ h => h) hHeld (by rfl) (fun wx hSx => ?_) ?_
            rotate_left
            · (unfold SB at hSx; go_simp; (try with_reducible rfl))
            (try simp only [Act.put, List.setIfInBounds_toArray, List.set_cons_zero, List.set_cons_succ])
            refine ord_take (i := 15) #[true, true, true, true, true, true, true, false, false, false, true, false, false, true, true, true, false, false, false, false, false, false] ?_ rfl (by kernel_rfl) (by kernel_rfl) (by kernel_rfl) (by kernel_rfl) (fun _ _ _ h => h) hHeld (by rfl) (fun wx hSx => ?_) ?_
            rotate_left
            · (unfold SB at hSx; go_simp; (try with_reducible rfl))
            (try simp only [Act.put, List.setIfInBounds_toArray, List.set_cons_zero, List.set_cons_succ])
            refine ord_take (i := 16) #[true, true, true, true, true, true, true, false, false, false, true, false, false, true, true, true, true, false, false, false, false, false] ?_ rfl (by kernel_rfl) (by kernel_rfl) (by kernel_rfl) (by kernel_rfl) (fun _ _ _ h => h) hHeld (by rfl) (fun wx hSx => ?_) ?_
            rotate_left
            · (unfold SB at hSx; go_simp; (try with_reducible rfl))
            (try simp only [Act.put, List.setIfInBounds_toArray, List.set_cons_zero, List.set_cons_succ])
            refine ord_take (i := 17) #[true, true, true, true, true, true, true, false, false, false, true, false, false, true, true, true, true, true, false, false, false, false] ?_ rfl (by kernel_rfl) (by kernel_rfl) (by kernel_rfl) (by kernel_rfl) (fun _ _ _ h => h) hHeld (by rfl) (fun wx hSx => ?_) ?_
            rotate_left
            · (unfold SB at hSx; go_simp; (try with_reducible rfl))
            (try simp only [Act.put, List.setIfInBounds_toArray, List.set_cons_zero, List.set_cons_succ])
            refine ord_take (i := 18) #[true, true, true, true, true, true, true, false, false, false, true, false, false, true, true, true, true, true, true, false, false, false] ?_ rfl (by kernel_rfl) (by kernel_rfl) (by kernel_rfl) (by kernel_rfl) (fun _ _ _ h => h) hHeld (by rfl) (fun wx hSx => ?_) ?_
            rotate_left
            · (unfold SB at hSx; go_simp; (try with_reducible rfl))
            (try simp only [Act.put, List.setIfInBounds_toArray, List.set_cons_zero, List.set_cons_succ])
            refine wpAnyH_ready (rs := [7]) (by kernel_rfl) (by simp) ?_
            refine ord_run (i := 7) #[true, true, true, true, true, true, true, true, false, false, true, false, false, true, true, true, true, true, true, false, false, false] rfl (by kernel_rfl) (by rfl) (fun K hK => ?_) AllReadyH.nil
            go_simp
            go_wp2_with (go_at_call 40; refine (rformat_any (P k).dy _).mono ?_; rintro e w6 ⟨rfl, hb6⟩; rw [← G1.out]; have hHeld := SB.below hHeld hb6 (Nat.le_refl _))
            refine hK.out _ _ ?_ (fun hHeld => ?_)
            · (repeat (first | (with_reducible exact SB.refl) | (with_reducible exact hHeld) | (with_reducible refine SB.drew ?_) | (with_reducible refine SB.drewN ?_ _) | ((with_reducible refine SB.alloc ?_ ?_ _); (rotate_left); (first | omega | (simp <;> omega))) | ((with_reducible refine SB.setCell ?_ ?_ _); (rotate_left); (focus (first | (simp; done) | (right; first | omega | (simp <;> omega))))) | ((with_reducible refine SB.below ?_ hbS ?_); (rotate_left); (first | omega | (simp <;> omega))) | ((with_reducible refine SB.below ?_ hbS1 ?_); (rotate_left); (first | omega | (simp <;> omega))) | ((with_reducible refine SB.below ?_ hbS2 ?_); (rotate_left); (first | omega | (simp <;> omega))) | ((with_reducible refine SB.below ?_ hbS3 ?_); (rotate_left); (first | omega | (simp <;> omega))) | ((with_reducible refine SB.below ?_ hbS4 ?_); (rotate_left); (first | omega | (simp <;> omega))) | (with_reducible refine SB.undrew ?_) | ((with_reducible refine SB.congr ?_ ?_); (rotate_left); (focus (simp; done))) | ((with_reducible refine SB.realloc ?_ ?_ ?_); (rotate_left); (focus (simp; done)); (focus (simp; done)))))
            clear hK K
            (try simp only [Act.put, List.setIfInBounds_toArray, List.set_cons_zero, List.set_cons_succ])
            refine ord_take (i := 8) #[true, true, true, true, true, true, true, true, true, false, true, false, false, true, true, true, true, true, true, false, false, false] (.string ⟨x0.toArray⟩) rfl (by kernel_rfl) (by kernel_rfl) (by kernel_rfl) (by kernel_rfl) (fun _ _ _ h => h) hHeld (by rfl) (fun wx hSx => ?_) ?_
            · (unfold SB at hSx; go_simp; exact cat_to X0.out (by omega))
            (try simp only [Act.put, List.setIfInBounds_toArray, List.set_cons_zero, List.set_cons_succ])
            refine ord_take (i := 9) #[true, true, true, true, true, true, true, true, true, true, true, false, false, true, true, true, true, true, true, false, false, false] (.string ⟨x1.toArray⟩) rfl (by kernel_rfl) (by kernel_rfl) (by kernel_rfl) (by kernel_rfl) (fun _ _ _ h => h) hHeld (by rfl) (fun wx hSx => ?_) ?_
            · (unfold SB at hSx; go_simp; exact cat_to X1.out (by omega))
            (try simp only [Act.put, List.setIfInBounds_toArray, List.set_cons_zero, List.set_cons_succ])
            refine ord_take (i := 11) #[true, true, true, true, true, true, true, true, true, true, true, true, false, true, true, true, true, true, true, false, false, false] (.string ⟨x2.toArray⟩) rfl (by kernel_rfl) (by kernel_rfl) (by kernel_rfl) (by kernel_rfl) (fun _ _ _ h => h) hHeld (by rfl) (fun wx hSx => ?_) ?_
            · (unfold SB at hSx; go_simp; exact cat_to X2.out (by omega))
            (try simp only [Act.put, List.setIfInBounds_toArray, List.set_cons_zero, List.set_cons_succ])
            refine ord_take (i := 12) #[true, true, true, true, true, true, true, true, true, true, true, true, true, true, true, true, true, true, true, false, false, false] (.string ⟨x3.toArray⟩) rfl (by kernel_rfl) (by kernel_rfl) (by kernel_rfl) (by kernel_rfl) (fun _ _ _ h => h) hHeld (by rfl) (fun wx hSx => ?_) ?_
            · (unfold SB at hSx; go_simp; exact cat_to X3.out (by omega))
            (try simp only [Act.put, List.setIfInBounds_toArray, List.set_cons_zero, List.set_cons_succ])
            refine ord_take (i := 19) #[true, true, true, true, true, true, true, true, true, true, true, true, true, true, true, true, true, true, true, true, false, false] (.string ⟨x4.toArray⟩) rfl (by kernel_rfl) (by kernel_rfl) (by kernel_rfl) (by kernel_rfl) (fun _ _ _ h => h) hHeld (by rfl) (fun wx hSx => ?_) ?_
            · (unfold SB at hSx; go_simp; exact cat_to X4.out (by omega))
            (try simp only [Act.put, List.setIfInBounds_toArray, List.set_cons_zero, List.set_cons_succ])
            refine ord_take (i := 20) #[true, true, true, true, true, true, true, true, true, true, true, true, true, true, true, true, true, true, true, true, true, false] (.string ⟨x5.toArray⟩) rfl (by kernel_rfl) (by kernel_rfl) (by kernel_rfl) (by kernel_rfl) (fun _ _ _ h => h) hHeld (by rfl) (fun wx hSx => ?_) ?_
            · (unfold SB at hSx; go_simp; exact cat_to X5.out (by omega))
            (try simp only [Act.put, List.setIfInBounds_toArray, List.set_cons_zero, List.set_cons_succ])
            refine ord_take (i := 21) #[true, true, true, true, true, true, true, true, true, true, true, true, true, true, true, true, true, true, true, true, true, true] ?_ rfl (by kernel_rfl) (by kernel_rfl) (by kernel_rfl) (by kernel_rfl) (fun _ _ _ h => h) hHeld (by rfl) (fun wx hSx => ?_) ?_
            rotate_left
            · (unfold SB at hSx; go_simp; (try with_reducible rfl))
            (try simp only [Act.put, List.setIfInBounds_toArray, List.set_cons_zero, List.set_cons_succ])
            refine wpAnyH_done (by kernel_rfl) ?_ _
            rw [show x5 = headL n2 n1 f t op d ++ linesL P d (k + 1) from by rw [X5.out, X4.out, X3.out, X2.out, X1.out, X0.out]; exact HF.out]
            go_wp2_with fail
            go_roundw
            case rel => exact ⟨k + 1, HK.out, rfl, by go_num, by show (badL P d k || !mnB (P k).am d) = false; rw [HBK.out, HP.out]; rfl, H0.out.trans ((H5.out.trans (Below.trans (Below.refl _ _).drew (hb6.mono H5.out.size))).mono H0.out.size)⟩
            case measure => have := HK.out; simp [intOf]; omega
        · obtain rfl : k = ln := by omega
          clear hlt hk
          cases hcl : mnB cl d with
          | false =>
            have HE := hide (txt_bad HC.out (show badS op cl P k d = true by unfold badS; rw [hcl]; simp))
            have HO2 := hide (amt_no hcl)
            clear hcl
            go_wp2_with fail
            refine (rmformat_any cl d _).mono ?_
            rintro e w5 ⟨rfl, hb⟩
            rw [HO2.out.1, HO2.out.2]
            go_wp2_with fail
            refine bodyPost_ret (by simp [results, Tryd.results19, go_sem, *] <;> rfl) rfl ⟨?_, ?_⟩
            · rw [HE.out.1, HE.out.2]
            · exact H1.out.trans ((H2.out.trans ((H0.out.trans (hb.mono (by omega))).mono (by omega))).mono (by omega))
          | true =>
            have HE := hide (txt_ok HC.out (show badS op cl P k d = false by unfold badS; rw [HOP.out, HBK.out, hcl]; rfl))
            have HO2 := hide (amt_yes hcl).2
            obtain ⟨m2, g2⟩ : ∃ l, l = amtL cl d := ⟨_, rfl⟩
            obtain ⟨h0, gh⟩ : ∃ l, l = headL n2 n1 f t op d ++ linesL P d k := ⟨_, rfl⟩
            have B1 : m2.length ≤ 30 := by rw [g2]; exact amtL_len _ _
            have B3 : h0.length ≤ 100000 := by rw [gh, List.length_append]; have q1 := HL.out; have q2 := HL2.out; omega
            have HF := hide (show (((⟨h0.toArray⟩ : ByteArray) ++ (⟨#[99, 108, 111, 115, 105, 110, 103, 32]⟩ : ByteArray)) ++ (⟨m2.toArray⟩ : ByteArray)) ++ (⟨#[10]⟩ : ByteArray) = ⟨(txtL n2 n1 f t op cl P k d).toArray⟩ by
              rw [show (⟨#[99, 108, 111, 115, 105, 110, 103, 32]⟩ : ByteArray) = ⟨[99, 108, 111, 115, 105, 110, 103, 32].toArray⟩ from rfl, show (⟨#[10]⟩ : ByteArray) = ⟨[10].toArray⟩ from rfl, bcat, bcat, bcat, gh, g2]
              unfold txtL
              rw [wJ_2]
              simp [wClosing])
            rw [← gh]
            have G2 := hide g2
            have hz : h0.length + 8 + m2.length ≤ 9223372036854775806 := by omega
            clear hcl g2 gh
            go_wp2_with fail
            refine (rmformat_any cl d _).mono ?_
            rintro e w5 ⟨rfl, hb⟩
            rw [HO2.out, ← G2.out]
            go_wp2_with fail
            refine bodyPost_ret (by simp [results, Tryd.results19, go_sem, *] <;> rfl) rfl ⟨?_, ?_⟩
            · rw [HE.out.1, HE.out.2, ← HF.out]
            · exact H1.out.trans ((H2.out.trans ((H0.out.trans (hb.mono (by omega))).mono (by omega))).mono (by omega))
  · have HE := hide (txt_err (d := d) hc)
    have h1 : (chkS ac no f t op cl P ln != 0) = true := by simpa using hc
    clear hc
    go_wp2_with fail
    refine bodyPost_ret (by simp [results, Tryd.results19, go_sem, *] <;> rfl) rfl ⟨?_, ?_⟩
    · rw [HE.out.1, HE.out.2]
    · (repeat (first | (with_reducible exact Below.refl _ _) | (with_reducible assumption) | ((with_reducible refine Below.alloc ?_ ?_ _); (rotate_left); (first | omega | (simp <;> omega))) | ((with_reducible refine Below.setCell ?_ ?_ _); (rotate_left); (first | omega | (simp <;> omega))) | (with_reducible refine Below.drew ?_) | (with_reducible refine below_drewN ?_ _)))
end Go.Proofs.YtodfpfbcjiganaaDoor
