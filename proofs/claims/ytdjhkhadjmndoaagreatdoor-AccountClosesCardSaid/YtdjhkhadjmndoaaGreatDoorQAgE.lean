/- Texts laid together: AgE. -/
import Derived.Test.YtdjhkhadjmndoaaGreatDoorQAgC
import Derived.Test.YtdjhkhadjmndoaaGreatDoorQAgN
import Derived.Test.YtdjhkhadjmndoaaGreatDoorQAgA
namespace Go.Proofs.YtdjhkhadjmndoaaGreatDoor
set_option maxRecDepth 4000
set_option linter.unusedSimpArgs false
set_option linter.unusedVariables false
open Go.RowKit
/-- Some account has this Id or a greater one. -/
def geB (a : Nat → LAcc) (id : Int) : Nat → Bool
  | 0 => false
  | n + 1 => geB a id n || decide (id ≤ (a n).id)
theorem geB_no {a : Nat → LAcc} {id : Int} : ∀ {n : Nat}, (∀ j, j < n → (a j).id < id) → geB a id n = false
  | 0, _ => rfl
  | n + 1, h => by
    unfold geB
    rw [geB_no (fun j hj => h j (by omega)), decide_eq_false (by have := h n (by omega); omega)]; rfl
theorem geB_yes {a : Nat → LAcc} {id : Int} : ∀ {n k : Nat}, k < n → id ≤ (a k).id → geB a id n = true
  | 0, k, hk, _ => by omega
  | n + 1, k, hk, h => by
    unfold geB
    rcases Nat.lt_succ_iff_lt_or_eq.1 hk with h1 | rfl
    · rw [geB_yes h1 h]; rfl
    · rw [decide_eq_true h]; exact Bool.or_true _
theorem gf1_any (i0 i1 i2 i3 : Int) (s4 s5 s6 : ByteArray) (id : Int) (bi : Nat) (w : World) (hb : bi < w.heap.size) (hc : w.cell? ⟨bi, 0, none⟩ = some (.int .i64 id)) :
    Calls Tryz.prog 44 #[.agg #[.int .i64 i0, .int .i64 i1, .int .i64 i2, .int .i64 i3, .string s4, .string s5, .string s6], .pointer (some ⟨bi, 0, none⟩)] w fun e w' => e = .returned (.bool (decide (id ≤ i0))) ∧ Below w.heap.size w w' := by
  go_enter Tryz.func44, Tryz.ntmps44
  go_wp2_with fail
  go_ret
  exact ⟨rfl, by (repeat (first | (with_reducible first | exact Below.refl _ _ | assumption | refine Below.drew ?_) | ((with_reducible first | refine Below.alloc ?_ ?_ _ | refine Below.setCell ?_ ?_ _); rotate_left; (first | omega | (simp <;> omega)))))⟩
def GxInv (a : Nat → LAcc) (id : Int) (n : Nat) (w : World) (v : Value) (wr : World) : Prop := ∃ k : Nat, k ≤ n ∧ v = .int .i64 k ∧ (∀ j, j < k → (a j).id < id) ∧ Below w.heap.size w wr
def GxRet (a : Nat → LAcc) (id : Int) (n : Nat) (w : World) (e : Ending) (w' : World) : Prop := ∃ v : Int, e = .returned (.int .i64 v) ∧ decide (0 ≤ v) = geB a id n ∧ Below w.heap.size w w'
theorem gxf_any (A : Option Addr) (n c : Nat) (a : Nat → LAcc) (id : Int) (bi : Nat) (hn : n ≤ 1000000) (w : World) (hr : RowAcc w A n a) (hb : bi < w.heap.size) (hc : w.cell? ⟨bi, 0, none⟩ = some (.int .i64 id)) :
    Calls Tryz.prog 61 #[.slice A n c, .func (.func 44) #[] #[.pointer (some ⟨bi, 0, none⟩)]] w (GxRet a id n w) := by
  go_enter Tryz.func61, Tryz.ntmps61
  go_wp2_with fail
  go_loopw [8] (fun v wr => GxInv a id n w v wr) (fun v _ => n - (intOf v).toNat)
  case atStart => exact ⟨0, by omega, rfl, fun j hj => by omega, by (repeat (first | (with_reducible first | exact Below.refl _ _ | assumption | refine Below.drew ?_) | ((with_reducible first | refine Below.alloc ?_ ?_ _ | refine Below.setCell ?_ ?_ _); rotate_left; (first | omega | (simp <;> omega)))))⟩
  case round =>
    obtain ⟨k, hk, rfl, hl, hB⟩ := hrel
    by_cases hlt : k < n
    · have hm : (k : Int) < n := by omega
      obtain ⟨b, off, rfl, hbl, c0, c1, c2, c3, c4, c5, c6⟩ := (hr.below hB).at hlt
      have HL := hide hl
      clear hl
      go_wp2_with fail
      refine (gf1_any _ _ _ _ _ _ _ id bi _ (by have := hB.size; omega) ((hB.cell (p := ⟨bi, 0, none⟩) hb).trans hc)).mono ?_
      rintro e w1 ⟨rfl, hb1⟩
      by_cases he : id ≤ (a k).id
      · have h1 : decide (id ≤ (a k).id) = true := decide_eq_true he
        have HE := hide (geB_yes hlt he)
        clear he
        go_wp2_with fail
        go_ret
        exact ⟨k, rfl, by rw [HE.out]; exact decide_eq_true (by omega), hB.trans (hb1.mono hB.size)⟩
      · have h1 : decide (id ≤ (a k).id) = false := decide_eq_false he
        have HE := hide (Int.not_le.1 he)
        clear he
        go_wp2_with fail
        go_roundw
        case rel => exact ⟨k + 1, by omega, by go_num, fun j hj => by rcases Nat.lt_succ_iff_lt_or_eq.1 hj with h | rfl; exact HL.out j h; exact HE.out, hB.trans (hb1.mono hB.size)⟩
        case measure => simp [intOf]; omega
    · obtain rfl : k = n := by omega
      have HE := hide (geB_no hl)
      clear hl
      go_wp2_with fail
      go_ret
      exact ⟨-1, rfl, by rw [HE.out]; rfl, hB⟩
theorem ctf_any (A : Option Addr) (n c : Nat) (a : Nat → LAcc) (id : Int) (bi : Nat) (hn : n ≤ 1000000) (w : World) (hr : RowAcc w A n a) (hb : bi < w.heap.size) (hc : w.cell? ⟨bi, 0, none⟩ = some (.int .i64 id)) :
    Calls Tryz.prog 43 #[.slice A n c, .func (.func 44) #[] #[.pointer (some ⟨bi, 0, none⟩)]] w fun e w' => e = .returned (.bool (geB a id n)) ∧ Below w.heap.size w w' := by
  have HG := hide (gxf_any A n c a id bi hn w hr hb hc)
  clear hr hc
  go_enter Tryz.func43, Tryz.ntmps43
  go_wp2_with fail
  refine HG.out.mono ?_
  rintro e w1 ⟨v, rfl, hv, hb1⟩
  have HV := hide hv
  clear hv
  go_wp2_with fail
  go_ret
  exact ⟨by rw [← HV.out]; first | rfl | (congr 2), hb1⟩
/-- What owned answers. -/
noncomputable def ownE (P : Nat → LPro) (pn : Nat) (x : LAcc) : Int := if nameB x.ow = false then 4 else if (bstP P x.pr x.op pn).isSome = false then 11 else 0
theorem cat_some {P : Nat → LPro} {o : Option Nat} {C : Array Value} {b : Bool} (h : match o with | some k => C = (P k).C ∧ b = true | none => C = pzZ ∧ b = false) : o.isSome = b := by
  cases o with
  | none => exact h.2.symm
  | some k => exact h.2.symm
set_option maxRecDepth 8000 in
set_option maxHeartbeats 4000000 in
theorem owned_any (B : LBk) (hB : BkOK B) (x : LAcc) (w : World) (hw : BkIn w B) :
    Calls Tryz.prog 22 #[.agg B.C, .agg #[.int .i64 x.id, .int .i64 x.op, .int .i64 x.cl, .int .i64 x.ex, .string x.ow, .string x.pr, .string x.nu]] w fun e w' => e = .returned (.int .i64 (ownE B.P B.pn x)) ∧ Below w.heap.size w w' := by
  obtain ⟨i0, Z, hi0, hi1, hi2⟩ := pz_zero
  have HI := hide (And.intro hi0 hi1)
  have HZ1 := hide hi2
  have HB := hide hB
  have HW := hide hw
  have h17 := hB.pro
  obtain ⟨nb, hnb⟩ : ∃ nb, nb = nameB x.ow := ⟨_, rfl⟩
  have HNM := hide (fun W => by have t := name_any x.ow W; rw [← hnb] at t; exact t)
  have HN := hide hnb
  clear hB hw hi0 hi1 hi2 hnb
  cases nb with
  | false =>
    have HV := hide (show ownE B.P B.pn x = 4 from if_pos HN.out.symm)
    go_enter Tryz.func22, Tryz.ntmps22
    go_wp2_with fail
    refine (HNM.out _).mono ?_
    rintro e w1 ⟨rfl, hb⟩
    have q1B : Below w.heap.size w w1 := (by refine Below.trans ?_ (hb.mono (by first | omega | (simp <;> omega))); (repeat (first | (with_reducible first | exact Below.refl _ _ | assumption | refine Below.drew ?_) | ((with_reducible first | refine Below.alloc ?_ ?_ _ | refine Below.setCell ?_ ?_ _); rotate_left; (first | omega | (simp <;> omega))))))
    have q1z := hb.size
    try simp at q1z
    have q1t : w.heap.size ≤ w1.heap.size := (by omega)
    have q1o : ∀ b o, b < w.heap.size → w1.cell? ⟨b, o, none⟩ = w.cell? ⟨b, o, none⟩ := fun b o h => q1B.cell (p := ⟨b, o, none⟩) h
    clear hb
    go_wp2_with fail
    go_ret
    exact ⟨by rw [HV.out]; rfl, by refine q1B.trans ?_; (repeat (first | (with_reducible first | exact Below.refl _ _ | assumption | refine Below.drew ?_) | ((with_reducible first | refine Below.alloc ?_ ?_ _ | refine Below.setCell ?_ ?_ _); rotate_left; (first | omega | (simp <;> omega)))))⟩
  | true =>
    go_enter Tryz.func22, Tryz.ntmps22
    go_wp2_with fail
    refine (HNM.out _).mono ?_
    rintro e w1 ⟨rfl, hb⟩
    have q1B : Below w.heap.size w w1 := (by refine Below.trans ?_ (hb.mono (by first | omega | (simp <;> omega))); (repeat (first | (with_reducible first | exact Below.refl _ _ | assumption | refine Below.drew ?_) | ((with_reducible first | refine Below.alloc ?_ ?_ _ | refine Below.setCell ?_ ?_ _); rotate_left; (first | omega | (simp <;> omega))))))
    have q1z := hb.size
    try simp at q1z
    have q1t : w.heap.size ≤ w1.heap.size := (by omega)
    have q1s0 : w.heap.size < w1.heap.size := (by omega)
    have q1n0_0 : ¬ w1.heap.size = w.heap.size := (by omega)
    have q1n0_1 : ¬ w1.heap.size + 1 = w.heap.size := (by omega)
    have q1n0_2 : ¬ w1.heap.size + 2 = w.heap.size := (by omega)
    have q1c0_17 := hb.cell (p := ⟨w.heap.size, 17, none⟩) (by first | omega | (simp <;> omega))
    simp [go_sem, *] at q1c0_17
    have q1f0 := fun o => hb.frozen (p := ⟨w.heap.size, o, none⟩) (by first | omega | (simp <;> omega))
    simp [go_sem, *] at q1f0
    have q1s1 : w.heap.size + 1 < w1.heap.size := (by omega)
    have q1n1_0 : ¬ w1.heap.size = w.heap.size + 1 := (by omega)
    have q1n1_1 : ¬ w1.heap.size + 1 = w.heap.size + 1 := (by omega)
    have q1n1_2 : ¬ w1.heap.size + 2 = w.heap.size + 1 := (by omega)
    have q1c1_0 := hb.cell (p := ⟨w.heap.size + 1, 0, none⟩) (by first | omega | (simp <;> omega))
    simp [go_sem, *] at q1c1_0
    have q1c1_1 := hb.cell (p := ⟨w.heap.size + 1, 1, none⟩) (by first | omega | (simp <;> omega))
    simp [go_sem, *] at q1c1_1
    have q1c1_2 := hb.cell (p := ⟨w.heap.size + 1, 2, none⟩) (by first | omega | (simp <;> omega))
    simp [go_sem, *] at q1c1_2
    have q1c1_3 := hb.cell (p := ⟨w.heap.size + 1, 3, none⟩) (by first | omega | (simp <;> omega))
    simp [go_sem, *] at q1c1_3
    have q1c1_4 := hb.cell (p := ⟨w.heap.size + 1, 4, none⟩) (by first | omega | (simp <;> omega))
    simp [go_sem, *] at q1c1_4
    have q1c1_5 := hb.cell (p := ⟨w.heap.size + 1, 5, none⟩) (by first | omega | (simp <;> omega))
    simp [go_sem, *] at q1c1_5
    have q1c1_6 := hb.cell (p := ⟨w.heap.size + 1, 6, none⟩) (by first | omega | (simp <;> omega))
    simp [go_sem, *] at q1c1_6
    have q1f1 := fun o => hb.frozen (p := ⟨w.heap.size + 1, o, none⟩) (by first | omega | (simp <;> omega))
    simp [go_sem, *] at q1f1
    have q1o : ∀ b o, b < w.heap.size → w1.cell? ⟨b, o, none⟩ = w.cell? ⟨b, o, none⟩ := fun b o h => q1B.cell (p := ⟨b, o, none⟩) h
    clear hb
    go_wp2_with fail
    refine (rcat_any B.pA B.pn B.pc B.P x.pr x.op HB.out.pn HB.out.cells _ (HW.out.pro.below (q1B.trans (by (repeat (first | (with_reducible first | exact Below.refl _ _ | assumption | refine Below.drew ?_) | ((with_reducible first | refine Below.alloc ?_ ?_ _ | refine Below.setCell ?_ ?_ _); rotate_left; (first | omega | (simp <;> omega))))))))).mono ?_
    rintro e w2 ⟨C, b, rfl, hs, h1, ho, hb⟩
    have HH := hide (And.intro hs h1)
    have HO := hide (cat_some ho)
    have B2 := hide (q1B.trans ((Below.trans (by (repeat (first | (with_reducible first | exact Below.refl _ _ | assumption | refine Below.drew ?_) | ((with_reducible first | refine Below.alloc ?_ ?_ _ | refine Below.setCell ?_ ?_ _); rotate_left; (first | omega | (simp <;> omega)))))) hb).mono (by omega)))
    clear hs h1 ho hb
    cases b with
    | false =>
      have HV := hide (show ownE B.P B.pn x = 11 from by unfold ownE; rw [if_neg (by rw [← HN.out]; decide), if_pos HO.out])
      go_wp2_with (first
        | (with_reducible refine wpList_alloc_row rfl 59 rfl (some 5) rfl i0 HI.out.1 Z HI.out.2 w2.heap.size rfl ?_)
        | ((with_reducible refine wpList_store_newrow2 rfl 59 (.tmp 5) (.tmp 19) rfl rfl w2.heap.size C rfl rfl 59 Z (blk_new rfl) (pz_size HH.out.1) (by rw [HZ1.out, HH.out.1]) HH.out.2 ?_); intro w5 hb5 hs5 hx5 hk5))
      have B5 := hide (B2.out.trans ((show Below w2.heap.size w2 w5 from Below.trans (by (repeat (first | (with_reducible first | exact Below.refl _ _ | assumption | refine Below.drew ?_) | ((with_reducible first | refine Below.alloc ?_ ?_ _ | refine Below.setCell ?_ ?_ _); rotate_left; (first | omega | (simp <;> omega)))))) hb5).mono B2.out.size))
      clear hb5 hs5 hx5 hk5
      go_wp2_with fail
      go_ret
      exact ⟨by rw [HV.out]; rfl, B5.out⟩
    | true =>
      have HV := hide (show ownE B.P B.pn x = 0 from by unfold ownE; rw [if_neg (by rw [← HN.out]; decide), if_neg (by rw [HO.out]; decide)])
      go_wp2_with (first
        | (with_reducible refine wpList_alloc_row rfl 59 rfl (some 5) rfl i0 HI.out.1 Z HI.out.2 w2.heap.size rfl ?_)
        | ((with_reducible refine wpList_store_newrow2 rfl 59 (.tmp 5) (.tmp 19) rfl rfl w2.heap.size C rfl rfl 59 Z (blk_new rfl) (pz_size HH.out.1) (by rw [HZ1.out, HH.out.1]) HH.out.2 ?_); intro w5 hb5 hs5 hx5 hk5))
      have B5 := hide (B2.out.trans ((show Below w2.heap.size w2 w5 from Below.trans (by (repeat (first | (with_reducible first | exact Below.refl _ _ | assumption | refine Below.drew ?_) | ((with_reducible first | refine Below.alloc ?_ ?_ _ | refine Below.setCell ?_ ?_ _); rotate_left; (first | omega | (simp <;> omega)))))) hb5).mono B2.out.size))
      clear hb5 hs5 hx5 hk5
      go_wp2_with fail
      go_ret
      exact ⟨by rw [HV.out]; rfl, B5.out⟩
end Go.Proofs.YtdjhkhadjmndoaaGreatDoor
