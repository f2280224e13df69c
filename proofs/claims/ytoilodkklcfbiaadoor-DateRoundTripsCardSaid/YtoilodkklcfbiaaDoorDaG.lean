/- Contracts of package date and its reference, 7: Parse. -/
import Derived.Test.YtoilodkklcfbiaaDoorDaF
import Derived.Deep.QuietTactic
import Derived.BigQuiet
namespace Go.Proofs.YtoilodkklcfbiaaDoor
open Go.RowKit

/-- The text has the form of a day's text. -/
def fmB : List UInt8 → Bool
  | [c0, c1, c2, c3, c4, c5, c6, c7, c8, c9] => c4 == 45 && c7 == 45 && alld [c0, c1, c2, c3] && alld [c5, c6] && alld [c8, c9]
  | _ => false
def prY (l : List UInt8) : Int := (numL (l.take 4) : Nat)
def prM (l : List UInt8) : Int := (numL ((l.drop 5).take 2) : Nat)
def prD (l : List UInt8) : Int := (numL (l.drop 8) : Nat)
def prV (l : List UInt8) : Int := if fmB l then dyV (prY l) (prM l) (prD l) else 0
def prE (l : List UInt8) : Int := if fmB l then dyE (prY l) (prM l) (prD l) else 2
theorem pr_no {l : List UInt8} (h : fmB l = false) : prV l = 0 ∧ prE l = 2 := by unfold prV prE; rw [h]; exact ⟨rfl, rfl⟩
theorem pr_yes {l : List UInt8} (h : fmB l = true) : prV l = dyV (prY l) (prM l) (prD l) ∧ prE l = dyE (prY l) (prM l) (prD l) := by unfold prV prE; rw [h]; exact ⟨rfl, rfl⟩
theorem fmB_len {l : List UInt8} (h : l.length ≠ 10) : fmB l = false := by
  unfold fmB
  split
  · simp at h
  · rfl
theorem list_ten {l : List UInt8} (h : l.length = 10) : ∃ c0 c1 c2 c3 c4 c5 c6 c7 c8 c9, l = [c0, c1, c2, c3, c4, c5, c6, c7, c8, c9] := by
  match l, h with
  | [c0, c1, c2, c3, c4, c5, c6, c7, c8, c9], _ => exact ⟨_, _, _, _, _, _, _, _, _, _, rfl⟩
def okAt (l : List UInt8) (i : Nat) : Bool := if i = 4 ∨ i = 7 then l.getD i 0 == 45 else isD (l.getD i 0)
theorem fm_all {l : List UInt8} (h : l.length = 10) (hok : ∀ i, i < 10 → okAt l i = true) : fmB l = true := by
  obtain ⟨c0, c1, c2, c3, c4, c5, c6, c7, c8, c9, rfl⟩ := list_ten h
  have o0 := hok 0 (by decide); have o1 := hok 1 (by decide); have o2 := hok 2 (by decide); have o3 := hok 3 (by decide); have o4 := hok 4 (by decide)
  have o5 := hok 5 (by decide); have o6 := hok 6 (by decide); have o7 := hok 7 (by decide); have o8 := hok 8 (by decide); have o9 := hok 9 (by decide)
  simp [okAt] at o0 o1 o2 o3 o4 o5 o6 o7 o8 o9
  simp [fmB, alld, *]
theorem fm_at {l : List UInt8} {i : Nat} (h : l.length = 10) (hi : i < 10) (hok : okAt l i = false) : fmB l = false := by
  obtain ⟨c0, c1, c2, c3, c4, c5, c6, c7, c8, c9, rfl⟩ := list_ten h
  have : i = 0 ∨ i = 1 ∨ i = 2 ∨ i = 3 ∨ i = 4 ∨ i = 5 ∨ i = 6 ∨ i = 7 ∨ i = 8 ∨ i = 9 := by omega
  rcases this with rfl | rfl | rfl | rfl | rfl | rfl | rfl | rfl | rfl | rfl <;> simp [okAt] at hok <;> simp [fmB, alld, hok]
theorem byte_eq {c : UInt8} (h : c = 45) : (((c.toNat : Nat) : Int) != 45) = false := by subst h; rfl
theorem byte_ne {c : UInt8} (h : ¬ c = 45) : (((c.toNat : Nat) : Int) != 45) = true := by
  have : c.toNat ≠ 45 := fun e => h (UInt8.toNat_inj.1 (by rw [e]; rfl))
  simp; omega
def FmInv (l : List UInt8) (w : World) (v3 : Value) (wr : World) : Prop := ∃ i : Nat, i ≤ 10 ∧ v3 = .int .i64 i ∧ (∀ j, j < i → okAt l j = true) ∧ w = wr
theorem formed_any (l : List UInt8) (w : World) :
    Calls Tryd.prog 36 #[.string ⟨l.toArray⟩] w fun e w' => e = .returned (.bool (fmB l)) ∧ w = w' := by
  have hsz : (⟨l.toArray⟩ : ByteArray).size = l.length := bsize l
  by_cases h : l.length = 10
  · have HL := hide h
    have hm : (l.length : Int) = 10 := by omega
    rw [h] at hsz
    clear h
    go_enter Tryd.func36, Tryd.ntmps36
    go_wp2_with fail
    go_loopw [3] (fun v3 wr => FmInv l w v3 wr) (fun v _ => 10 - (intOf v).toNat)
    case atStart => exact ⟨0, by omega, rfl, fun j hj => by omega, rfl⟩
    case round =>
      obtain ⟨i, hi, rfl, hok, rfl⟩ := hrel
      by_cases hlt : i < 10
      · have hm1 : (i : Int) < 10 := by omega
        have hix : i < (⟨l.toArray⟩ : ByteArray).size := by rw [hsz]; exact hlt
        have hil : i < l.length := by rw [HL.out]; exact hlt
        have hb : (⟨l.toArray⟩ : ByteArray)[i].toNat = l[i].toNat := rfl
        have hgd : l.getD i 0 = l[i] := by rw [List.getD_eq_getElem?_getD, List.getElem?_eq_getElem hil]; rfl
        have HK := hide hok
        clear hok
        by_cases hd : i = 4 ∨ i = 7
        · by_cases hc : l[i] = 45
          · have HO : Hid (okAt l i = true) := hide (by unfold okAt; rw [if_pos hd, hgd, hc]; rfl)
            have hc2 : ((((⟨l.toArray⟩ : ByteArray)[i].toNat : Nat) : Int) != 45) = false := byte_eq (c := l[i]) hc
            rcases hd with rfl | rfl
            · clear hc hb hgd
              go_wp2_with fail
              go_roundw
              case rel => exact ⟨4 + 1, by omega, by go_num, fun j hj => by rcases Nat.lt_succ_iff_lt_or_eq.1 hj with h | rfl; exact HK.out j h; exact HO.out, rfl⟩
              case measure => simp [intOf]
            · clear hc hb hgd
              go_wp2_with fail
              go_roundw
              case rel => exact ⟨7 + 1, by omega, by go_num, fun j hj => by rcases Nat.lt_succ_iff_lt_or_eq.1 hj with h | rfl; exact HK.out j h; exact HO.out, rfl⟩
              case measure => simp [intOf]
          · have HO : Hid (okAt l i = false) := hide (by unfold okAt; rw [if_pos hd, hgd]; simpa using hc)
            have HF := hide (fm_at HL.out hlt HO.out)
            have hc2 : ((((⟨l.toArray⟩ : ByteArray)[i].toNat : Nat) : Int) != 45) = true := byte_ne (c := l[i]) hc
            rcases hd with rfl | rfl
            all_goals
              clear hc hb hgd
              go_wp2_with fail
              go_ret
              exact ⟨by rw [HF.out]; rfl, rfl⟩
        · have hd4 : ((i : Int) == 4) = false := beq_eq_false_iff_ne.2 (by omega)
          have hd7 : ((i : Int) == 7) = false := beq_eq_false_iff_ne.2 (by omega)
          by_cases h1 : 48 ≤ l[i].toNat
          · have f1 : (48 : Int) ≤ ((⟨l.toArray⟩ : ByteArray)[i].toNat : Nat) := by omega
            by_cases h2 : l[i].toNat ≤ 57
            · have f2 : ((⟨l.toArray⟩ : ByteArray)[i].toNat : Int) ≤ 57 := by omega
              have HO : Hid (okAt l i = true) := hide (by unfold okAt; rw [if_neg hd, hgd, isD_iff]; exact ⟨h1, h2⟩)
              clear hb hgd h1 h2 hd
              go_wp2_with fail
              go_roundw
              case rel => exact ⟨i + 1, by omega, by go_num, fun j hj => by rcases Nat.lt_succ_iff_lt_or_eq.1 hj with h | rfl; exact HK.out j h; exact HO.out, rfl⟩
              case measure => simp [intOf]; omega
            · have f2 : ¬ ((⟨l.toArray⟩ : ByteArray)[i].toNat : Int) ≤ 57 := by omega
              have HF := hide (fm_at HL.out hlt (by unfold okAt; rw [if_neg hd, hgd]; unfold isD; simp; omega))
              clear hb hgd h1 h2 hd
              go_wp2_with fail
              go_ret
              exact ⟨by rw [HF.out]; rfl, rfl⟩
          · have f1 : ¬ (48 : Int) ≤ ((⟨l.toArray⟩ : ByteArray)[i].toNat : Nat) := by omega
            have HF := hide (fm_at HL.out hlt (by unfold okAt; rw [if_neg hd, hgd]; unfold isD; simp; omega))
            clear hb hgd h1 hd
            go_wp2_with fail
            go_ret
            exact ⟨by rw [HF.out]; rfl, rfl⟩
      · obtain rfl : i = 10 := by omega
        have HF := hide (fm_all HL.out hok)
        clear hok
        go_wp2_with fail
        go_ret
        exact ⟨by rw [HF.out]; rfl, rfl⟩
  · have HF := hide (fmB_len h)
    have hm : ((l.length : Int) != 10) = true := by simp; omega
    clear h
    go_enter Tryd.func36, Tryd.ntmps36
    go_wp2_with fail
    go_ret
    exact ⟨by rw [HF.out]; rfl, rfl⟩
set_option maxHeartbeats 1000000 in
theorem parse_any (l : List UInt8) (w : World) :
    Calls Tryd.prog 26 #[.string ⟨l.toArray⟩] w fun e w' => e = .returned (.tuple #[.int .i64 (prV l), .int .i64 (prE l)]) ∧ Below w.heap.size w w' := by
  have hsz : (⟨l.toArray⟩ : ByteArray).size = l.length := bsize l
  by_cases h : l.length = 10
  · obtain ⟨c0, c1, c2, c3, c4, c5, c6, c7, c8, c9, rfl⟩ := list_ten h
    obtain ⟨s, hs⟩ : ∃ s : ByteArray, s = ⟨[c0, c1, c2, c3, c4, c5, c6, c7, c8, c9].toArray⟩ := ⟨_, rfl⟩
    rw [← hs]
    have s4 : s.size = 10 := by rw [hs]; rfl
    have x1 : s.extract 0 4 = ⟨[c0, c1, c2, c3].toArray⟩ := by rw [hs]; rfl
    have x2 : s.extract 5 7 = ⟨[c5, c6].toArray⟩ := by rw [hs]; rfl
    have x3 : s.extract 8 10 = ⟨[c8, c9].toArray⟩ := by rw [hs]; rfl
    have g4 : s[4] = c4 := by subst hs; rfl
    have g7 : s[7] = c7 := by subst hs; rfl
    clear hs h hsz
    by_cases h4 : c4 = 45
    · have k4 := byte_eq (g4.trans h4)
      by_cases h7 : c7 = 45
      · have k7 := byte_eq (g7.trans h7)
        clear g4 g7
        cases a1 : alld [c0, c1, c2, c3] with
        | false =>
          have HF := hide (pr_no (l := [c0, c1, c2, c3, c4, c5, c6, c7, c8, c9]) (by simp [fmB, a1]))
          have A1 := hide a1
          clear a1 h4 h7
          go_enter Tryd.func26, Tryd.ntmps26
          go_wp2_with fail
          refine (number_any [c0, c1, c2, c3] (by simp) _).mono ?_
          rintro e w1 ⟨rfl, rfl⟩
          rw [A1.out]
          go_wp2_with fail
          refine (number_any [c5, c6] (by simp) _).mono ?_
          rintro e w1 ⟨rfl, rfl⟩
          go_wp2_with fail
          refine (number_any [c8, c9] (by simp) _).mono ?_
          rintro e w1 ⟨rfl, rfl⟩
          go_wp2_with fail
          refine bodyPost_ret (by simp [results, Tryd.results26, go_sem, *] <;> rfl) rfl ⟨?_, ?_⟩
          · rw [HF.out.1, HF.out.2]
          (repeat (first | (with_reducible exact Below.refl _ _) | (with_reducible assumption) | ((with_reducible refine Below.alloc ?_ ?_ _); (rotate_left); (first | omega | (simp <;> omega))) | ((with_reducible refine Below.setCell ?_ ?_ _); (rotate_left); (first | omega | (simp <;> omega))) | (with_reducible refine Below.drew ?_) | (with_reducible refine below_drewN ?_ _)))
        | true =>
          have A1 := hide a1
          have V1 : Hid (nmV [c0, c1, c2, c3] = prY [c0, c1, c2, c3, c4, c5, c6, c7, c8, c9]) := hide (by unfold nmV; rw [a1]; rfl)
          cases a2 : alld [c5, c6] with
          | false =>
            have HF := hide (pr_no (l := [c0, c1, c2, c3, c4, c5, c6, c7, c8, c9]) (by simp [fmB, a2]))
            have A2 := hide a2
            clear a1 a2 h4 h7
            go_enter Tryd.func26, Tryd.ntmps26
            go_wp2_with fail
            refine (number_any [c0, c1, c2, c3] (by simp) _).mono ?_
            rintro e w1 ⟨rfl, rfl⟩
            rw [A1.out]
            go_wp2_with fail
            refine (number_any [c5, c6] (by simp) _).mono ?_
            rintro e w1 ⟨rfl, rfl⟩
            rw [A2.out]
            go_wp2_with fail
            refine (number_any [c8, c9] (by simp) _).mono ?_
            rintro e w1 ⟨rfl, rfl⟩
            go_wp2_with fail
            refine bodyPost_ret (by simp [results, Tryd.results26, go_sem, *] <;> rfl) rfl ⟨?_, ?_⟩
            · rw [HF.out.1, HF.out.2]
            (repeat (first | (with_reducible exact Below.refl _ _) | (with_reducible assumption) | ((with_reducible refine Below.alloc ?_ ?_ _); (rotate_left); (first | omega | (simp <;> omega))) | ((with_reducible refine Below.setCell ?_ ?_ _); (rotate_left); (first | omega | (simp <;> omega))) | (with_reducible refine Below.drew ?_) | (with_reducible refine below_drewN ?_ _)))
          | true =>
            have A2 := hide a2
            have V2 : Hid (nmV [c5, c6] = prM [c0, c1, c2, c3, c4, c5, c6, c7, c8, c9]) := hide (by unfold nmV; rw [a2]; rfl)
            cases a3 : alld [c8, c9] with
            | false =>
              have HF := hide (pr_no (l := [c0, c1, c2, c3, c4, c5, c6, c7, c8, c9]) (by simp [fmB, a3]))
              have A3 := hide a3
              clear a1 a2 a3 h4 h7
              go_enter Tryd.func26, Tryd.ntmps26
              go_wp2_with fail
              refine (number_any [c0, c1, c2, c3] (by simp) _).mono ?_
              rintro e w1 ⟨rfl, rfl⟩
              rw [A1.out]
              go_wp2_with fail
              refine (number_any [c5, c6] (by simp) _).mono ?_
              rintro e w1 ⟨rfl, rfl⟩
              rw [A2.out]
              go_wp2_with fail
              refine (number_any [c8, c9] (by simp) _).mono ?_
              rintro e w1 ⟨rfl, rfl⟩
              rw [A3.out]
              go_wp2_with fail
              refine bodyPost_ret (by simp [results, Tryd.results26, go_sem, *] <;> rfl) rfl ⟨?_, ?_⟩
              · rw [HF.out.1, HF.out.2]
              (repeat (first | (with_reducible exact Below.refl _ _) | (with_reducible assumption) | ((with_reducible refine Below.alloc ?_ ?_ _); (rotate_left); (first | omega | (simp <;> omega))) | ((with_reducible refine Below.setCell ?_ ?_ _); (rotate_left); (first | omega | (simp <;> omega))) | (with_reducible refine Below.drew ?_) | (with_reducible refine below_drewN ?_ _)))
            | true =>
              have A3 := hide a3
              have V3 : Hid (nmV [c8, c9] = prD [c0, c1, c2, c3, c4, c5, c6, c7, c8, c9]) := hide (by unfold nmV; rw [a3]; rfl)
              have HF := hide (pr_yes (l := [c0, c1, c2, c3, c4, c5, c6, c7, c8, c9]) (by simp [fmB, a1, a2, a3, h4, h7]))
              have hd : 0 ≤ prD [c0, c1, c2, c3, c4, c5, c6, c7, c8, c9] ∧ prD [c0, c1, c2, c3, c4, c5, c6, c7, c8, c9] < 100 := by
                have := numL_lt 2 [c8, c9] rfl a3
                unfold prD; simp only [List.drop]; omega
              clear a1 a2 a3 h4 h7
              go_enter Tryd.func26, Tryd.ntmps26
              go_wp2_with fail
              refine (number_any [c0, c1, c2, c3] (by simp) _).mono ?_
              rintro e w1 ⟨rfl, rfl⟩
              rw [A1.out, V1.out]
              go_wp2_with fail
              refine (number_any [c5, c6] (by simp) _).mono ?_
              rintro e w1 ⟨rfl, rfl⟩
              rw [A2.out, V2.out]
              go_wp2_with fail
              refine (number_any [c8, c9] (by simp) _).mono ?_
              rintro e w1 ⟨rfl, rfl⟩
              rw [A3.out, V3.out]
              go_wp2_with fail
              refine (day_any _ _ _ (by omega) (by omega) _).mono ?_
              rintro e w1 ⟨rfl, hb⟩
              go_wp2_with fail
              refine bodyPost_ret (by simp [results, Tryd.results26, go_sem, *] <;> rfl) rfl ⟨?_, ?_⟩
              · rw [HF.out.1, HF.out.2]
              exact hb
      · have k7 := byte_ne (c := s[7]) (by rw [g7]; exact h7)
        have HF := hide (pr_no (l := [c0, c1, c2, c3, c4, c5, c6, c7, c8, c9]) (by simp [fmB, h7]))
        clear g4 g7 h4 h7
        go_enter Tryd.func26, Tryd.ntmps26
        go_wp2_with fail
        refine bodyPost_ret (by simp [results, Tryd.results26, go_sem, *] <;> rfl) rfl ⟨?_, ?_⟩
        · rw [HF.out.1, HF.out.2]
        (repeat (first | (with_reducible exact Below.refl _ _) | (with_reducible assumption) | ((with_reducible refine Below.alloc ?_ ?_ _); (rotate_left); (first | omega | (simp <;> omega))) | ((with_reducible refine Below.setCell ?_ ?_ _); (rotate_left); (first | omega | (simp <;> omega))) | (with_reducible refine Below.drew ?_) | (with_reducible refine below_drewN ?_ _)))
    · have k4 := byte_ne (c := s[4]) (by rw [g4]; exact h4)
      have HF := hide (pr_no (l := [c0, c1, c2, c3, c4, c5, c6, c7, c8, c9]) (by simp [fmB, h4]))
      clear g4 g7 h4
      go_enter Tryd.func26, Tryd.ntmps26
      go_wp2_with fail
      refine bodyPost_ret (by simp [results, Tryd.results26, go_sem, *] <;> rfl) rfl ⟨?_, ?_⟩
      · rw [HF.out.1, HF.out.2]
      (repeat (first | (with_reducible exact Below.refl _ _) | (with_reducible assumption) | ((with_reducible refine Below.alloc ?_ ?_ _); (rotate_left); (first | omega | (simp <;> omega))) | ((with_reducible refine Below.setCell ?_ ?_ _); (rotate_left); (first | omega | (simp <;> omega))) | (with_reducible refine Below.drew ?_) | (with_reducible refine below_drewN ?_ _)))
  · have HF := hide (pr_no (fmB_len h))
    have hm : ((l.length : Int) != 10) = true := by simp; omega
    clear h
    go_enter Tryd.func26, Tryd.ntmps26
    go_wp2_with fail
    refine bodyPost_ret (by simp [results, Tryd.results26, go_sem, *] <;> rfl) rfl ⟨?_, ?_⟩
    · rw [HF.out.1, HF.out.2]
    (repeat (first | (with_reducible exact Below.refl _ _) | (with_reducible assumption) | ((with_reducible refine Below.alloc ?_ ?_ _); (rotate_left); (first | omega | (simp <;> omega))) | ((with_reducible refine Below.setCell ?_ ?_ _); (rotate_left); (first | omega | (simp <;> omega))) | (with_reducible refine Below.drew ?_) | (with_reducible refine below_drewN ?_ _)))
theorem quiet_same {P : Program} {f : Nat} {args : Array Value} {w : World} {v : Value} (h : Calls P f args w fun e w' => e = .returned v ∧ w = w') : Calls P f args w fun e w' => e = .returned v ∧ w' = w := h.mono fun _ _ ⟨a, b⟩ => ⟨a, b.symm⟩
set_option maxHeartbeats 1000000 in
theorem rparse_any (l : List UInt8) (w : World) :
    Calls Tryd.prog 27 #[.string ⟨l.toArray⟩] w fun e w' => e = .returned (.tuple #[.int .i64 (prV l), .int .i64 (prE l)]) ∧ Below w.heap.size w w' := by
  cases hf : fmB l with
  | false =>
    have HF := hide (pr_no hf)
    have HB := hide hf
    clear hf
    go_enter Tryd.func27, Tryd.ntmps27
    go_wp2_with fail
    refine (formed_any l _).mono ?_
    rintro e w1 ⟨rfl, rfl⟩
    rw [HB.out]
    go_wp2_with fail
    refine bodyPost_ret (by simp [results, Tryd.results27, go_sem, *] <;> rfl) rfl ⟨?_, ?_⟩
    · rw [HF.out.1, HF.out.2]
    (repeat (first | (with_reducible exact Below.refl _ _) | (with_reducible assumption) | ((with_reducible refine Below.alloc ?_ ?_ _); (rotate_left); (first | omega | (simp <;> omega))) | ((with_reducible refine Below.setCell ?_ ?_ _); (rotate_left); (first | omega | (simp <;> omega))) | (with_reducible refine Below.drew ?_) | (with_reducible refine below_drewN ?_ _)))
  | true =>
    have hl : l.length = 10 := by
      rcases Nat.decEq l.length 10 with h | h
      · rw [fmB_len h] at hf; cases hf
      · exact h
    have HF := hide (pr_yes hf)
    have HB := hide hf
    obtain ⟨c0, c1, c2, c3, c4, c5, c6, c7, c8, c9, rfl⟩ := list_ten hl
    have hff := hf
    simp only [fmB, Bool.and_eq_true] at hff
    obtain ⟨⟨⟨⟨_, _⟩, a1⟩, a2⟩, a3⟩ := hff
    have hd : numL [c8, c9] < 100 := numL_lt 2 [c8, c9] rfl a3
    have HG : Hid (prV [c0, c1, c2, c3, c4, c5, c6, c7, c8, c9] = dyV (numL [c0, c1, c2, c3] : Nat) (numL [c5, c6] : Nat) (numL [c8, c9] : Nat) ∧ prE [c0, c1, c2, c3, c4, c5, c6, c7, c8, c9] = dyE (numL [c0, c1, c2, c3] : Nat) (numL [c5, c6] : Nat) (numL [c8, c9] : Nat)) := hide HF.out
    obtain ⟨s, hs⟩ : ∃ s : ByteArray, s = ⟨[c0, c1, c2, c3, c4, c5, c6, c7, c8, c9].toArray⟩ := ⟨_, rfl⟩
    have HC := hide (fun w => formed_any [c0, c1, c2, c3, c4, c5, c6, c7, c8, c9] w)
    rw [← hs] at HC ⊢
    have s4 : s.size = 10 := by rw [hs]; rfl
    have x1 : s.extract 0 4 = ⟨[c0, c1, c2, c3].toArray⟩ := by rw [hs]; rfl
    have x2 : s.extract 5 7 = ⟨[c5, c6].toArray⟩ := by rw [hs]; rfl
    have x3 : s.extract 8 10 = ⟨[c8, c9].toArray⟩ := by rw [hs]; rfl
    have A1 := hide a1
    have A2 := hide a2
    have A3 := hide a3
    clear a1 a2 a3 hf hl hs
    go_enter Tryd.func27, Tryd.ntmps27
    go_wp2_with fail
    refine (HC.out _).mono ?_
    rintro e w1 ⟨rfl, rfl⟩
    rw [HB.out]
    go_wp2_with fail
    go_quiet ((first | (go_at_call 37; exact Calls.quiet_of_same (quiet_same (rnumber_any _ (by simp) (by first | exact A1.out | exact A2.out | exact A3.out) _))) | (go_at_call 23; exact Calls.quiet_of_same (quiet_same (rday_same _ _ _ (by omega) (by omega) _)))))
    go_wp2_with fail
    refine bodyPost_ret (by simp [results, Tryd.results27, go_sem, *] <;> rfl) rfl ⟨?_, ?_⟩
    · rw [HG.out.1, HG.out.2]
    (repeat (first | (with_reducible exact Below.refl _ _) | (with_reducible assumption) | ((with_reducible refine Below.alloc ?_ ?_ _); (rotate_left); (first | omega | (simp <;> omega))) | ((with_reducible refine Below.setCell ?_ ?_ _); (rotate_left); (first | omega | (simp <;> omega))) | (with_reducible refine Below.drew ?_) | (with_reducible refine below_drewN ?_ _)))
end Go.Proofs.YtoilodkklcfbiaaDoor
