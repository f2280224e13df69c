/- Texts laid together: TvD TvE TvF. -/
import Derived.Test.YtpghciiifnjimaaGreatDoorXTvC
import Derived.Test.YtpghciiifnjimaaGreatDoorXTpU
import Derived.Test.YtpghciiifnjimaaGreatDoorXK0
namespace Go.Proofs.YtpghciiifnjimaaGreatDoor
set_option maxRecDepth 4000
set_option linter.unusedSimpArgs false
set_option linter.unusedVariables false
open Go.RowKit
/-- What a call returns that puts elements into a slice of its caller's. -/
def InsRet (t : TypeId) (base size n : Nat) (v : Value) (ys : List Value) (w : World) (e : Ending) (w' : World) : Prop :=
 ∃ A c, e = .returned (.slice A n c) ∧ w'.ownsRow base t size (.slice A n c) n ys ∧ w.grownBy w' v.ownBlock ∧ ((Value.slice A n c).ownBlock = v.ownBlock ∨ ∃ k, (Value.slice A n c).ownBlock = some k ∧ w.heap.size ≤ k)
theorem infM : (Tryz.prog.info? 128).map (fun i => (i.zero, i.size, i.bytes)) = some (some (.agg #[.string ⟨#[]⟩, .int .i64 0]), 2, 24) := by kernel_rfl
set_option maxHeartbeats 2000000 in
theorem insM_end (base : Nat) (A : Option Addr) (n c : Nat) (xs : List Value) (w : World) (hown : w.ownsRow base 128 2 (.slice A n c) n xs) (hn : n ≤ 1000000) (hbase : base ≤ w.heap.size)
  (b cv : Nat) (X : List Value) (hX : X.length = 2) (hc : ∀ j u, X[j]? = some u → w.cell? ((⟨b, 0, none⟩ : Addr).add j) = some u) (h1 : X.all (·.oneCell') = true) :
  Calls Tryz.prog 122 #[.slice A n c, .int .i64 n, .slice (some ⟨b, 0, none⟩) 1 cv] w (InsRet 128 base 2 (n + 1) (.slice A n c) (xs ++ X) w) := by
 obtain ⟨i0, hi0, hz0, hz1, hz2⟩ := info3 infM
 have I0 := hide hi0
 have I1 := hide hz0
 have I2 := hide hz1
 have I3 := hide hz2
 have HO := hide hown
 have HC := hide hc
 have H1 := hide h1
 have HX := hide hX
 have hnc : (n : Int) ≤ c := by
  rcases hown.2 with ⟨e, h0⟩ | ⟨g, cap, cur, e, _, _, hnc, _⟩
  ·injection e; omega
  ·injection e; omega
 have m1 : (0 : Int) ≤ n := by omega
 clear hi0 hz0 hz1 hz2 hown hc h1 hX
 rcases A with _ | ad
 all_goals
  go_enter Tryz.func122, Tryz.ntmps122
  go_wp2_with (at_builtin; go_loud (refine wpList_append_own2 _ rfl (.tmp 23) (.tmp 24) 125 rfl base 128 i0 (.agg #[.string ⟨#[]⟩, .int .i64 0]) 2 24 Tryz.underlying125 I0.out I1.out I2.out I3.out rfl (by decide) _ n xs rfl HO.out ⟨b, 0, none⟩ 1 cv X rfl (by rw [HX.out]) HC.out (ones_all H1.out) (by simp only [maxLen]; omega) (by omega) hbase ?_); intro A1 c1 w3 ho hg3 hv)
  all_goals (go_ret; exact ⟨A1, c1, rfl, ho, hg3, hv⟩)
theorem infL : (Tryz.prog.info? 107).map (fun i => (i.zero, i.size, i.bytes)) = some (some (.agg #[.int .i64 0, .int .i64 0, .string ⟨#[]⟩]), 3, 32) := by kernel_rfl
set_option maxHeartbeats 2000000 in
theorem insL_end (base : Nat) (A : Option Addr) (n c : Nat) (xs : List Value) (w : World) (hown : w.ownsRow base 107 3 (.slice A n c) n xs) (hn : n ≤ 1000000) (hbase : base ≤ w.heap.size)
  (b cv : Nat) (X : List Value) (hX : X.length = 3) (hc : ∀ j u, X[j]? = some u → w.cell? ((⟨b, 0, none⟩ : Addr).add j) = some u) (h1 : X.all (·.oneCell') = true) :
  Calls Tryz.prog 179 #[.slice A n c, .int .i64 n, .slice (some ⟨b, 0, none⟩) 1 cv] w (InsRet 107 base 3 (n + 1) (.slice A n c) (xs ++ X) w) := by
 obtain ⟨i0, hi0, hz0, hz1, hz2⟩ := info3 infL
 have I0 := hide hi0
 have I1 := hide hz0
 have I2 := hide hz1
 have I3 := hide hz2
 have HO := hide hown
 have HC := hide hc
 have H1 := hide h1
 have HX := hide hX
 have hnc : (n : Int) ≤ c := by
  rcases hown.2 with ⟨e, h0⟩ | ⟨g, cap, cur, e, _, _, hnc, _⟩
  ·injection e; omega
  ·injection e; omega
 have m1 : (0 : Int) ≤ n := by omega
 clear hi0 hz0 hz1 hz2 hown hc h1 hX
 rcases A with _ | ad
 all_goals
  go_enter Tryz.func179, Tryz.ntmps179
  go_wp2_with (at_builtin; go_loud (refine wpList_append_own2 _ rfl (.tmp 23) (.tmp 24) 50 rfl base 107 i0 (.agg #[.int .i64 0, .int .i64 0, .string ⟨#[]⟩]) 3 32 Tryz.underlying50 I0.out I1.out I2.out I3.out rfl (by decide) _ n xs rfl HO.out ⟨b, 0, none⟩ 1 cv X rfl (by rw [HX.out]) HC.out (ones_all H1.out) (by simp only [maxLen]; omega) (by omega) hbase ?_); intro A1 c1 w3 ho hg3 hv)
  all_goals (go_ret; exact ⟨A1, c1, rfl, ho, hg3, hv⟩)
end Go.Proofs.YtpghciiifnjimaaGreatDoor
namespace Go.Proofs.YtpghciiifnjimaaGreatDoor
set_option maxRecDepth 4000
set_option linter.unusedSimpArgs false
set_option linter.unusedVariables false
open Go.RowKit
abbrev lvLg : Array Value := #[.int .i64 101, .int .i64 100000, .string xEur, .int .i64 1000, .int .i64 (-100000), .string xEur]
def SumRet (w : World) (e : Ending) (w' : World) : Prop :=
 ∃ g c, e = .returned (.slice (some ⟨g, 0, none⟩) 1 c) ∧ w'.cell? ⟨g, 0, none⟩ = some (.string xEur) ∧ w'.cell? ⟨g, 1, none⟩ = some (.int .i64 0) ∧ g < w'.heap.size ∧ Below w.heap.size w w'
theorem own_one {w : World} {base : Nat} {t : TypeId} {A : Option Addr} {c : Nat} {x y : Value} (h : w.ownsRow base t 2 (.slice A 1 c) 1 [x, y]) :
  ∃ g, A = some ⟨g, 0, none⟩ ∧ base ≤ g ∧ g < w.heap.size ∧ w.cell? ⟨g, 0, none⟩ = some x ∧ w.cell? ⟨g, 1, none⟩ = some y ∧ ∀ o, w.frozen? ⟨g, o, none⟩ = false := by
 rcases h.2 with ⟨e, h0⟩ | ⟨g, cap, cur, e, hg, hh, h3, h4, h5, h6⟩
 ·cases h0
 ·injection e with e1 _ e3
  have hx : cur.toList[0]? = some x ∧ cur.toList[1]? = some y := by
   have k0 : (cur.toList.take (1 * 2))[0]? = some x := by rw [h6]; rfl
   have k1 : (cur.toList.take (1 * 2))[1]? = some y := by rw [h6]; rfl
   rw [List.getElem?_take] at k0 k1
   exact ⟨by simpa using k0, by simpa using k1⟩
  exact ⟨g, e1, hg, heap_lt hh, (cell_at hh 0).trans (by simpa using hx.1), (cell_at hh 1).trans (by simpa using hx.2), free_at hh⟩
theorem bsM_nil (w : World) : Calls Tryz.prog 119 #[.slice none 0 0, .string xEur, .func (.func 120) #[] #[]] w fun e w' => e = .returned (.tuple #[.int .i64 0, .bool false]) ∧ Below w.heap.size w w' :=
 bsM_any none 0 0 (fun _ => xEur) (fun _ => 0) xEur (by omega) w (fun h => by omega)
theorem eur_eq : cmpS xEur xEur = 0 := by unfold cmpS; simp [Op.bytesLess]
theorem bsM_one (g c : Nat) (z : Int) (w : World) (hg : g < w.heap.size) (h0 : w.cell? ⟨g, 0, none⟩ = some (.string xEur)) (h1 : w.cell? ⟨g, 1, none⟩ = some (.int .i64 z)) :
  Calls Tryz.prog 119 #[.slice (some ⟨g, 0, none⟩) 1 c, .string xEur, .func (.func 120) #[] #[]] w fun e w' => e = .returned (.tuple #[.int .i64 0, .bool true]) ∧ Below w.heap.size w w' := by
 have h := bsM_any (some ⟨g, 0, none⟩) 1 c (fun _ => xEur) (fun _ => z) xEur (by omega) w (fun _ => ⟨g, 0, rfl, hg, fun k j hk hj => by
  obtain rfl : k = 0 := by omega
  match j, hj with
  | 0, _ => exact h0
  | 1, _ => exact h1⟩)
 rw [eur_eq] at h
 exact h
set_option maxHeartbeats 4000000 in
theorem lv_sums (b : Nat) (w : World) (hl : w.heap[b]? = some (.cells lvLg 107 (0, 0))) : Calls Tryz.prog 68 #[.slice (some ⟨b, 0, none⟩) 2 2] w (SumRet w) := by
 have hb0 := heap_lt hl
 have l0 := cell_of_cells hl 0
 have l1 := cell_of_cells hl 1
 have l2 := cell_of_cells hl 2
 have l3 := cell_of_cells hl 3
 have l4 := cell_of_cells hl 4
 have l5 := cell_of_cells hl 5
 simp at l0 l1 l2 l3 l4 l5
 clear hl
 go_enter Tryz.func68, Tryz.ntmps68
 go_wp2_with fail
 refine wp_loopN 3 ?_
 unfold LoopN
 go_wp2_with fail
 refine (bsM_nil _).mono ?_
 rintro r w1 ⟨rfl, hb⟩
 have q1B : Below w.heap.size w w1 := qB hb
 have q1z := hb.size
 try simp at q1z
 have q1t : w.heap.size ≤ w1.heap.size := (by omega)
 obtain ⟨q1s0, q1n0_0, q1n0_1, q1n0_2⟩ := kB w1.heap.size w.heap.size
 obtain ⟨q1c0_0, q1c0_1, q1c0_2, q1f0⟩ := kC3 hb w.heap.size
 simp [go_sem, *] at q1c0_0 q1c0_1 q1c0_2 q1f0
 have q1o := belO q1B
 clear hb
 go_wp2_with fail
 refine (insM_end w1.heap.size none 0 0 [] _ ⟨by simp, .inl ⟨rfl, rfl⟩⟩ (by omega) (by simp) w1.heap.size 1 [.string xEur, .int .i64 0] rfl (news_new (cs := #[.string xEur, .int .i64 0]) rfl) rfl).mono ?_
 rintro r w2 ⟨A, c, rfl, ho, hg, hv⟩
 have hb := below_grown hg (Nat.le_refl _) (fun k e => by cases e)
 obtain ⟨g, rfl, _, g2, g3, g4, g5⟩ := own_one ho
 have g1 : w1.heap.size + 1 ≤ g := by
  rcases hv with h | ⟨k, h, hk⟩
  ·cases h
  ·cases h; simpa using hk
 clear hv hg ho
 have B1 := hide q1B
 have q2B : Below w1.heap.size w1 w2 := qB hb
 have q2z := hb.size
 try simp at q2z
 have q2t : w1.heap.size ≤ w2.heap.size := (by omega)
 obtain ⟨q2s0, q2n0_0, q2n0_1, q2n0_2⟩ := kB w2.heap.size w.heap.size
 obtain ⟨q2c0_0, q2c0_1, q2c0_2, q2f0⟩ := kC3 hb w.heap.size
 simp [go_sem, *] at q2c0_0 q2c0_1 q2c0_2 q2f0
 have q2o := belO q2B
 clear hb q1o q1f0 q1c0_2 q1c0_1 q1c0_0 q1s0 q1z q1B
 have B2 := hide (B1.out.trans (q2B.mono (by omega)))
 go_wp2_with fail
 have e1 : IntKind.i64.wrap 100000 = 100000 := by decide
 have gn : ¬ w.heap.size = g := by omega
 have gb : ¬ b = g := by omega
 have r3 := (B2.out.cell (p := ⟨b, 3, none⟩) hb0).trans l3
 have r4 := (B2.out.cell (p := ⟨b, 4, none⟩) hb0).trans l4
 have r5 := (B2.out.cell (p := ⟨b, 5, none⟩) hb0).trans l5
 have q2n : ¬ w2.heap.size = g := by omega
 refine ord_start (SB (w2.heap.size) [g] _) 11 (preB 0 11) (by kernel_rfl) (by kernel_rfl) (by kernel_rfl) SB.refl.drew (fun hHeld => ?_)
 refine oS (i := 0) (preB 1 10) rfl hHeld ?_
 (try simp only [Act.put, putS])
 refine oS (i := 1) (preB 2 9) rfl hHeld ?_
 (try simp only [Act.put, putS])
 refine oS (i := 2) (preB 3 8) rfl hHeld ?_
 (try simp only [Act.put, putS])
 refine oS (i := 3) (preB 4 7) rfl hHeld ?_
 (try simp only [Act.put, putS])
 refine oS (i := 5) #[true, true, true, true, false, true, false, false, false, false, false] rfl hHeld ?_
 (try simp only [Act.put, putS])
 refine oS (i := 6) #[true, true, true, true, false, true, true, false, false, false, false] rfl hHeld ?_
 (try simp only [Act.put, putS])
 refine wpAnyH_ready (rs := [4]) (by kernel_rfl) (by simp) ?_
 refine ord_run (i := 4) (preB 7 4) rfl (by kernel_rfl) (by rfl) (fun K hK => ?_) AllReadyH.nil
 go_simp
 refine hK.out _ _ ?_ (fun hHeld => ?_)
 ·(repeat (first | (with_reducible exact SB.refl) | (with_reducible exact hHeld) | (with_reducible assumption) | (with_reducible refine SB.drew ?_) | (with_reducible refine SB.drewN ?_ _) | ((with_reducible refine SB.alloc ?_ ?_ _); (rotate_left); (first | omega | (simp <;> omega))) | ((with_reducible refine SB.setCell ?_ ?_ _); (rotate_left); (focus (first | (simp; done) | (right; first | omega | (simp <;> omega))))) | ((with_reducible refine SB.below ?_ hbS ?_); (rotate_left); (first | omega | (simp <;> omega))) | ((with_reducible refine SB.below ?_ hbS1 ?_); (rotate_left); (first | omega | (simp <;> omega))) | ((with_reducible refine SB.below ?_ hbS2 ?_); (rotate_left); (first | omega | (simp <;> omega))) | ((with_reducible refine SB.below ?_ hbS3 ?_); (rotate_left); (first | omega | (simp <;> omega))) | ((with_reducible refine SB.below ?_ hbS4 ?_); (rotate_left); (first | omega | (simp <;> omega))) | ((with_reducible refine SB.below ?_ hbS5 ?_); (rotate_left); (first | omega | (simp <;> omega))) | ((with_reducible refine SB.below ?_ hbS6 ?_); (rotate_left); (first | omega | (simp <;> omega))) | ((with_reducible refine SB.below ?_ hbS7 ?_); (rotate_left); (first | omega | (simp <;> omega))) | (with_reducible refine SB.undrew ?_) | ((with_reducible refine SB.congr ?_ ?_); (rotate_left); (focus (simp; done))) | ((with_reducible refine SB.realloc ?_ ?_ ?_); (rotate_left); (focus (simp; done)); (focus (simp; done)))))
 clear hK K
 (try simp only [Act.put, putS])
 refine oS (i := 7) (preB 8 3) rfl hHeld ?_
 (try simp only [Act.put, putS])
 refine oS (i := 8) (preB 9 2) rfl hHeld ?_
 (try simp only [Act.put, putS])
 refine oS (i := 9) (preB 10 1) rfl hHeld ?_
 (try simp only [Act.put, putS])
 refine wpAnyH_ready (rs := [10]) (by kernel_rfl) (by simp) ?_
 refine ord_run (i := 10) (preB 11 0) rfl (by kernel_rfl) (by rfl) (fun K hK => ?_) AllReadyH.nil
 go_simp
 refine hK.out _ _ ?_ (fun hHeld => ?_)
 ·(repeat (first | (with_reducible exact SB.refl) | (with_reducible exact hHeld) | (with_reducible assumption) | (with_reducible refine SB.drew ?_) | (with_reducible refine SB.drewN ?_ _) | ((with_reducible refine SB.alloc ?_ ?_ _); (rotate_left); (first | omega | (simp <;> omega))) | ((with_reducible refine SB.setCell ?_ ?_ _); (rotate_left); (focus (first | (simp; done) | (right; first | omega | (simp <;> omega))))) | ((with_reducible refine SB.below ?_ hbS ?_); (rotate_left); (first | omega | (simp <;> omega))) | ((with_reducible refine SB.below ?_ hbS1 ?_); (rotate_left); (first | omega | (simp <;> omega))) | ((with_reducible refine SB.below ?_ hbS2 ?_); (rotate_left); (first | omega | (simp <;> omega))) | ((with_reducible refine SB.below ?_ hbS3 ?_); (rotate_left); (first | omega | (simp <;> omega))) | ((with_reducible refine SB.below ?_ hbS4 ?_); (rotate_left); (first | omega | (simp <;> omega))) | ((with_reducible refine SB.below ?_ hbS5 ?_); (rotate_left); (first | omega | (simp <;> omega))) | ((with_reducible refine SB.below ?_ hbS6 ?_); (rotate_left); (first | omega | (simp <;> omega))) | ((with_reducible refine SB.below ?_ hbS7 ?_); (rotate_left); (first | omega | (simp <;> omega))) | (with_reducible refine SB.undrew ?_) | ((with_reducible refine SB.congr ?_ ?_); (rotate_left); (focus (simp; done))) | ((with_reducible refine SB.realloc ?_ ?_ ?_); (rotate_left); (focus (simp; done)); (focus (simp; done)))))
 clear hK K
 (try simp only [Act.put, putS])
 refine wpAnyH_done (by kernel_rfl) ?_ _
 go_wp2_with fail
 unfold LoopN
 go_wp2_with fail
 refine (bsM_one g c 100000 _ (by simp; omega) (by simp [go_sem, *]) (by simp [go_sem, *])).mono ?_
 rintro r w3 ⟨rfl, hb⟩
 have q3B : Below w1.heap.size w1 w3 := qB hb
 have q3z := hb.size
 try simp at q3z
 have q3t : w1.heap.size ≤ w3.heap.size := (by omega)
 obtain ⟨q3s0, q3n0_0, q3n0_1, q3n0_2⟩ := kB w3.heap.size w2.heap.size
 obtain ⟨q3c0_0, q3c0_1, q3c0_2, q3f0⟩ := kC3 hb w2.heap.size
 simp [go_sem, *] at q3c0_0 q3c0_1 q3c0_2 q3f0
 obtain ⟨q3s1, q3n1_0, q3n1_1, q3n1_2⟩ := kB w3.heap.size g
 obtain ⟨q3c1_0, q3c1_1, q3f1⟩ := kC2 hb g
 simp [go_sem, *] at q3c1_0 q3c1_1 q3f1
 have q3o := belO q3B
 clear hb q2o q2f0 q2c0_2 q2c0_1 q2c0_0 q2s0 q2z q2B
 have B3 := hide (B1.out.trans (q3B.mono (by omega)))
 have q3n : ¬ w2.heap.size = g := by omega
 have e2 : IntKind.i64.wrap 0 = 0 := by decide
 go_wp2_with fail
 refine ord_start (SB (w3.heap.size) [g] _) 11 (preB 0 11) (by kernel_rfl) (by kernel_rfl) (by kernel_rfl) SB.refl.drew (fun hHeld => ?_)
 refine oS (i := 0) (preB 1 10) rfl hHeld ?_
 (try simp only [Act.put, putS])
 refine oS (i := 1) (preB 2 9) rfl hHeld ?_
 (try simp only [Act.put, putS])
 refine oS (i := 2) (preB 3 8) rfl hHeld ?_
 (try simp only [Act.put, putS])
 refine oS (i := 3) (preB 4 7) rfl hHeld ?_
 (try simp only [Act.put, putS])
 refine oS (i := 5) #[true, true, true, true, false, true, false, false, false, false, false] rfl hHeld ?_
 (try simp only [Act.put, putS])
 refine oS (i := 6) #[true, true, true, true, false, true, true, false, false, false, false] rfl hHeld ?_
 (try simp only [Act.put, putS])
 refine wpAnyH_ready (rs := [4]) (by kernel_rfl) (by simp) ?_
 refine ord_run (i := 4) (preB 7 4) rfl (by kernel_rfl) (by rfl) (fun K hK => ?_) AllReadyH.nil
 go_simp
 refine hK.out _ _ ?_ (fun hHeld => ?_)
 ·(repeat (first | (with_reducible exact SB.refl) | (with_reducible exact hHeld) | (with_reducible assumption) | (with_reducible refine SB.drew ?_) | (with_reducible refine SB.drewN ?_ _) | ((with_reducible refine SB.alloc ?_ ?_ _); (rotate_left); (first | omega | (simp <;> omega))) | ((with_reducible refine SB.setCell ?_ ?_ _); (rotate_left); (focus (first | (simp; done) | (right; first | omega | (simp <;> omega))))) | ((with_reducible refine SB.below ?_ hbS ?_); (rotate_left); (first | omega | (simp <;> omega))) | ((with_reducible refine SB.below ?_ hbS1 ?_); (rotate_left); (first | omega | (simp <;> omega))) | ((with_reducible refine SB.below ?_ hbS2 ?_); (rotate_left); (first | omega | (simp <;> omega))) | ((with_reducible refine SB.below ?_ hbS3 ?_); (rotate_left); (first | omega | (simp <;> omega))) | ((with_reducible refine SB.below ?_ hbS4 ?_); (rotate_left); (first | omega | (simp <;> omega))) | ((with_reducible refine SB.below ?_ hbS5 ?_); (rotate_left); (first | omega | (simp <;> omega))) | ((with_reducible refine SB.below ?_ hbS6 ?_); (rotate_left); (first | omega | (simp <;> omega))) | ((with_reducible refine SB.below ?_ hbS7 ?_); (rotate_left); (first | omega | (simp <;> omega))) | (with_reducible refine SB.undrew ?_) | ((with_reducible refine SB.congr ?_ ?_); (rotate_left); (focus (simp; done))) | ((with_reducible refine SB.realloc ?_ ?_ ?_); (rotate_left); (focus (simp; done)); (focus (simp; done)))))
 clear hK K
 (try simp only [Act.put, putS])
 refine oS (i := 7) (preB 8 3) rfl hHeld ?_
 (try simp only [Act.put, putS])
 refine oS (i := 8) (preB 9 2) rfl hHeld ?_
 (try simp only [Act.put, putS])
 refine oS (i := 9) (preB 10 1) rfl hHeld ?_
 (try simp only [Act.put, putS])
 refine wpAnyH_ready (rs := [10]) (by kernel_rfl) (by simp) ?_
 refine ord_run (i := 10) (preB 11 0) rfl (by kernel_rfl) (by rfl) (fun K hK => ?_) AllReadyH.nil
 go_simp
 refine hK.out _ _ ?_ (fun hHeld => ?_)
 ·(repeat (first | (with_reducible exact SB.refl) | (with_reducible exact hHeld) | (with_reducible assumption) | (with_reducible refine SB.drew ?_) | (with_reducible refine SB.drewN ?_ _) | ((with_reducible refine SB.alloc ?_ ?_ _); (rotate_left); (first | omega | (simp <;> omega))) | ((with_reducible refine SB.setCell ?_ ?_ _); (rotate_left); (focus (first | (simp; done) | (right; first | omega | (simp <;> omega))))) | ((with_reducible refine SB.below ?_ hbS ?_); (rotate_left); (first | omega | (simp <;> omega))) | ((with_reducible refine SB.below ?_ hbS1 ?_); (rotate_left); (first | omega | (simp <;> omega))) | ((with_reducible refine SB.below ?_ hbS2 ?_); (rotate_left); (first | omega | (simp <;> omega))) | ((with_reducible refine SB.below ?_ hbS3 ?_); (rotate_left); (first | omega | (simp <;> omega))) | ((with_reducible refine SB.below ?_ hbS4 ?_); (rotate_left); (first | omega | (simp <;> omega))) | ((with_reducible refine SB.below ?_ hbS5 ?_); (rotate_left); (first | omega | (simp <;> omega))) | ((with_reducible refine SB.below ?_ hbS6 ?_); (rotate_left); (first | omega | (simp <;> omega))) | ((with_reducible refine SB.below ?_ hbS7 ?_); (rotate_left); (first | omega | (simp <;> omega))) | (with_reducible refine SB.undrew ?_) | ((with_reducible refine SB.congr ?_ ?_); (rotate_left); (focus (simp; done))) | ((with_reducible refine SB.realloc ?_ ?_ ?_); (rotate_left); (focus (simp; done)); (focus (simp; done)))))
 clear hK K
 (try simp only [Act.put, putS])
 refine wpAnyH_done (by kernel_rfl) ?_ _
 go_wp2_with fail
 unfold LoopN
 go_wp2_with fail
 go_ret
 exact ⟨g, c, rfl, by simp [go_sem, *], by simp [go_sem, *], by simp; omega, B1.out.trans ((show Below w1.heap.size w1 _ from by (repeat (first | (with_reducible first | exact Below.refl _ _ | assumption | refine Below.drew ?_) | ((with_reducible first | refine Below.alloc ?_ ?_ _ | refine Below.setCell ?_ ?_ _); rotate_left; (first | omega | (simp <;> omega)))))).mono (by omega))⟩
end Go.Proofs.YtpghciiifnjimaaGreatDoor
namespace Go.Proofs.YtpghciiifnjimaaGreatDoor
set_option maxRecDepth 4000
set_option linter.unusedSimpArgs false
set_option linter.unusedVariables false
open Go.RowKit
/-- The entry of the example: its legs lie at b. -/
abbrev lvEn (b : Nat) : Array Value := #[.int .i64 0, .int .i64 9678, .int .i64 9678, .int .i64 1, .int .i64 0, .int .i64 0, .string ⟨#[107]⟩, .string ⟨#[]⟩, .slice (some ⟨b, 0, none⟩) 2 2, .int .u64 0]
set_option maxHeartbeats 4000000 in
theorem lv_check (b : Nat) (w : World) (hl : w.heap[b]? = some (.cells lvLg 107 (0, 0))) : Calls Tryz.prog 27 #[.agg (lvEn b)] w fun e w' => e = .returned (.int .i64 0) ∧ Below w.heap.size w w' := by
 have HL := hide hl
 have hb0 := heap_lt hl
 have l0 := cell_of_cells hl 0
 have l1 := cell_of_cells hl 1
 have l2 := cell_of_cells hl 2
 have l3 := cell_of_cells hl 3
 have l4 := cell_of_cells hl 4
 have l5 := cell_of_cells hl 5
 simp at l0 l1 l2 l3 l4 l5
 clear hl
 go_enter Tryz.func27, Tryz.ntmps27
 go_wp2_with (first
  | (go_at_call 64; refine (lv_key _).mono ?_; rintro r w1 ⟨rfl, rfl⟩)
  | (go_at_call 65; refine (lv_text _).mono ?_; rintro r w1 ⟨rfl, rfl⟩)
  | (go_at_call 66; refine (lv_day _).mono ?_; rintro r w1 ⟨rfl, rfl⟩)
  | (go_at_call 66; refine (lv_day0 _).mono ?_; rintro r w1 ⟨rfl, rfl⟩))
 refine wp_loopN 3 ?_
 unfold LoopN
 go_wp2_with (go_at_call 67; refine (lv_code _).mono ?_; rintro r w1 ⟨rfl, rfl⟩)
 unfold LoopN
 go_wp2_with (go_at_call 67; refine (lv_code _).mono ?_; rintro r w1 ⟨rfl, rfl⟩)
 unfold LoopN
 go_wp2_with fail
 refine (lv_sums b _ ?_).mono ?_
 ·exact blk_under (blk_under (blk_under HL.out))
 rintro r w1 ⟨g, c, rfl, g1, g2, g3, hb⟩
 have B1 := hide (show Below w.heap.size w w1 from Below.trans belT (hb.mono (by simp <;> omega)))
 have hs := B1.out.size
 clear hb
 go_wp2_with fail
 refine wp_loopN 2 ?_
 unfold LoopN
 go_wp2_with fail
 unfold LoopN
 go_wp2_with fail
 go_ret
 exact ⟨rfl, B1.out.trans belT⟩
end Go.Proofs.YtpghciiifnjimaaGreatDoor
