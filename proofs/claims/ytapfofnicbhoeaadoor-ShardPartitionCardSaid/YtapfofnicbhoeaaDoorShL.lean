/- The walks of the Shard laws: each account lies in the list of its shard alone. -/
import Derived.Test.YtapfofnicbhoeaaDoorShK
namespace Go.Proofs.YtapfofnicbhoeaaDoor
open Go.RowKit

/-- The accounts in the first k lists. -/
def slen (f : Nat → Int) (N : Int) (n : Nat) : Nat → Nat
  | 0 => 0
  | k + 1 => slen f N n k + (bk f N n k).length
theorem slen_zero (f : Nat → Int) (N : Int) (k : Nat) : slen f N 0 k = 0 := by
  induction k with
  | zero => rfl
  | succ k ih => simp [slen, ih, bk_zero]
theorem slen_step (f : Nat → Int) (N : Int) (n a : Nat) (h : shOf (f n) N = a) (k : Nat) : slen f N (n + 1) k = slen f N n k + (if a < k then 1 else 0) := by
  induction k with
  | zero => simp [slen]
  | succ k ih =>
    simp only [slen]
    rw [ih, bk_succ, h]
    by_cases hk : a = k
    · subst hk; simp; omega
    · rw [if_neg (show ¬ (a : Int) = (k : Int) by omega)]
      by_cases h1 : a < k
      · rw [if_pos h1, if_pos (by omega)]; omega
      · rw [if_neg h1, if_neg (by omega)]; omega
theorem slen_le (f : Nat → Int) {N : Nat} (hg : good8 (N : Int) = true) (k : Nat) : ∀ n, slen f N n k ≤ n ∧ (N ≤ k → slen f N n k = n)
  | 0 => by rw [slen_zero]; exact ⟨Nat.le_refl _, fun _ => rfl⟩
  | n + 1 => by
    obtain ⟨h1, h2⟩ := shOf_bd (f n) hg
    obtain ⟨a, ha⟩ : ∃ a : Nat, shOf (f n) N = a := ⟨(shOf (f n) N).toNat, by omega⟩
    obtain ⟨i1, i2⟩ := slen_le f hg k n
    rw [slen_step f N n a ha k]
    constructor
    · split <;> omega
    · intro hk
      rw [if_pos (by omega), i2 hk]
/-- How often a number stands among the first i of a list. -/
def cnt (id : Int) (l : List Int) (i : Nat) : Nat := (l.take i).count id
theorem cnt_yes {id : Int} {l : List Int} {i : Nat} (h : i < l.length) (he : atI l i = id) : cnt id l (i + 1) = cnt id l i + 1 := by
  unfold cnt
  rw [List.take_succ_eq_append_getElem h, List.count_append]
  have : l[i] = id := by rw [← he]; simp [atI, List.getElem?_eq_getElem h]
  simp [this]
theorem cnt_no {id : Int} {l : List Int} {i : Nat} (h : i < l.length) (he : ¬ atI l i = id) : cnt id l (i + 1) = cnt id l i := by
  unfold cnt
  rw [List.take_succ_eq_append_getElem h, List.count_append]
  have : ¬ l[i] = id := by intro e; exact he (by rw [← e]; simp [atI, List.getElem?_eq_getElem h])
  rw [List.count_singleton]
  simp [this]
theorem cnt_le (id : Int) (l : List Int) (i : Nat) : cnt id l i ≤ i := by
  unfold cnt
  exact Nat.le_trans List.count_le_length (by simp; omega)
theorem cnt_all (id : Int) (l : List Int) : cnt id l l.length = l.count id := by unfold cnt; rw [List.take_length]
theorem cnt_mono (id : Int) (l : List Int) (i : Nat) : cnt id l i ≤ l.count id := by
  unfold cnt
  exact List.Sublist.count_le _ (List.take_sublist _ _)
def idl (f : Nat → Int) (n : Nat) : List Int := (List.range n).map f
theorem idl_len (f : Nat → Int) (n : Nat) : (idl f n).length = n := by simp [idl]
theorem idl_at (f : Nat → Int) {n i : Nat} (h : i < n) : atI (idl f n) i = f i := by simp [idl, atI, h]
theorem bk_count_at (f : Nat → Int) (N : Int) (n a : Nat) (id : Int) (h : shOf id N = a) : (bk f N n a).count id = (idl f n).count id := by
  unfold bk idl
  exact List.count_filter (by simpa using h)
theorem bk_count_off (f : Nat → Int) (N : Int) (n a k : Nat) (id : Int) (h : shOf id N = a) (hk : k ≠ a) : (bk f N n k).count id = 0 := by
  apply List.count_eq_zero.2
  intro hm
  have := (List.mem_filter.1 hm).2
  simp only [beq_iff_eq] at this
  omega
theorem bk_shard (f : Nat → Int) (N : Int) (n k i : Nat) (h : i < (bk f N n k).length) : shOf (atI (bk f N n k) i) N = k := by
  have hm : atI (bk f N n k) i ∈ bk f N n k := by
    have e : atI (bk f N n k) i = (bk f N n k)[i] := by unfold atI; rw [List.getD_eq_getElem?_getD, List.getElem?_eq_getElem h]; rfl
    rw [e]
    exact List.getElem_mem h
  have := (List.mem_filter.1 hm).2
  simpa using this
/-- What is left of the count before list k. -/
def rem (C a k : Nat) : Nat := if a < k then 0 else C
theorem rem_step (f : Nat → Int) (N : Int) (n a k : Nat) (id : Int) (h : shOf id N = a) : (bk f N n k).count id ≤ rem ((idl f n).count id) a k ∧ rem ((idl f n).count id) a (k + 1) = rem ((idl f n).count id) a k - (bk f N n k).count id := by
  unfold rem
  by_cases hk : k = a
  · subst hk
    rw [bk_count_at f N n k id h, if_neg (by omega), if_pos (by omega)]
    omega
  · rw [bk_count_off f N n a k id h hk]
    by_cases h1 : a < k
    · rw [if_pos h1, if_pos (by omega)]; omega
    · rw [if_neg h1, if_neg (by omega)]; omega
def PtA (f : Nat → Int) (id : Int) (n : Nat) (w : World) (v10 v9 : Value) (wr : World) : Prop :=
  ∃ i : Nat, i ≤ n ∧ v10 = .int .i64 i ∧ v9 = .int .i64 (cnt id (idl f n) i : Nat) ∧ Below w.heap.size w wr
def PtB (f : Nat → Int) (id : Int) (a N n : Nat) (w : World) (v12 v11 v9 : Value) (wr : World) : Prop :=
  ∃ k : Nat, k ≤ N ∧ v12 = .int .i64 k ∧ v11 = .int .i64 (slen f N n k : Nat) ∧ v9 = .int .i64 (rem ((idl f n).count id) a k : Nat) ∧ Below w.heap.size w wr
def PtC (f : Nat → Int) (id : Int) (a N n k : Nat) (w : World) (v13 v9 : Value) (wr : World) : Prop :=
  ∃ i : Nat, i ≤ (bk f N n k).length ∧ v13 = .int .i64 i ∧ v9 = .int .i64 ((rem ((idl f n).count id) a k - cnt id (bk f N n k) i : Nat)) ∧ Below w.heap.size w wr
set_option maxHeartbeats 1000000 in
theorem walk_partition (A : Option Addr) (n c : Nat) (f : Nat → Int) (hI : ∀ k, k < n → IIn (f k)) (N id : Int) (i1 : -9223372036854775808 ≤ id) (i2 : id ≤ 9223372036854775807) (w : World) (hr : RowI w A n f) (ht : Tab w) :
    Calls Tryd.prog 5 #[.slice A n c, .int .i64 N, .int .i64 id] w fun e w' => e = .returned (.bool true) ∧ Below w.heap.size w w' := by
  by_cases hn : 100 < n
  · have hm : (100 : Int) < n := by omega
    go_enter Tryd.func5, Tryd.ntmps5
    go_wp2_with fail
    refine (live_any _ ht).mono ?_
    rintro e w1 ⟨rfl, hb⟩
    go_wp2_with fail
    go_ret
    exact ⟨rfl, hb⟩
  have hm : ¬ (100 : Int) < n := by omega
  by_cases hg : good8 N = true
  · obtain ⟨M, rfl⟩ : ∃ M : Nat, N = M := ⟨N.toNat, by have := good8_iff.1 hg; omega⟩
    have hM := good8_iff.1 hg
    obtain ⟨a, ha⟩ : ∃ a : Nat, shOf id M = a := ⟨(shOf id M).toNat, by have := shOf_bd id hg; omega⟩
    have haM : a < M := by have := shOf_bd id hg; omega
    have HG := hide hg
    have HV := hide ha
    have hsh : shs (M : Int) = M := by unfold shs; rw [if_pos hg]; omega
    have HS := hide hsh
    have hm1 : (a : Int) < M := by omega
    have hM1 : 1 ≤ M := by omega
    have hM8 : M ≤ 8 := by omega
    clear hg ha hsh hM
    go_enter Tryd.func5, Tryd.ntmps5
    go_wp2_with fail
    refine (split_any A n c f (by omega) hI M _ hr ht).mono ?_
    rintro e w1 ⟨A1, c1, rfl, hr1, hb1⟩
    rw [HS.out] at hr1 ⊢
    go_wp2_with fail
    refine (rgood_any _ _).mono ?_
    rintro e w2 ⟨rfl, rfl⟩
    rw [HG.out]
    go_wp2_with fail
    refine (of_any id M i1 i2 _ (ht.below hb1)).mono ?_
    rintro e w2 ⟨rfl, hb2⟩
    rw [HV.out]
    have hb12 := hb1.trans (hb2.mono hb1.size)
    have hr3 := hr1.below hb2
    clear hr1
    go_wp2_with fail
    go_loopw [10, 9] (fun v10 v9 wr => PtA f id n w2 v10 v9 wr) (fun v _ _ => n - (intOf v).toNat)
    case atStart => exact ⟨0, by omega, rfl, rfl, Below.refl _ _⟩
    case round =>
      obtain ⟨i, hi, rfl, rfl, hB⟩ := hrel
      have hc1 := cnt_le id (idl f n) i
      by_cases hlt : i < n
      · have hm2 : (i : Int) < n := by omega
        obtain ⟨b, off, rfl, hbl, hc⟩ := (hr.below (hb12.trans (hB.mono hb12.size))) (by omega)
        have c0 := hc i hlt
        clear hc
        by_cases he : f i = id
        · have HC := hide (cnt_yes (id := id) (l := idl f n) (by rw [idl_len]; exact hlt) (by rw [idl_at f hlt]; exact he))
          have hm3 : (f i == id) = true := beq_iff_eq.2 he
          clear he
          go_wp2_with fail
          go_roundw
          case rel => exact ⟨i + 1, by omega, by go_num, by rw [HC.out]; go_num, hB⟩
          case measure => simp [intOf]; omega
        · have HC := hide (cnt_no (id := id) (l := idl f n) (by rw [idl_len]; exact hlt) (by rw [idl_at f hlt]; exact he))
          have hm3 : (f i == id) = false := beq_eq_false_iff_ne.2 he
          clear he
          go_wp2_with fail
          go_roundw
          case rel => exact ⟨i + 1, by omega, by go_num, by rw [HC.out], hB⟩
          case measure => simp [intOf]; omega
      · obtain rfl : i = n := by omega
        have hcr : (cnt id (idl f i) i : Nat) = rem ((idl f i).count id) a 0 := by
          have e := cnt_all id (idl f i)
          rw [idl_len] at e
          unfold rem
          rw [e, if_neg (by omega)]
        rw [hcr] at hc1 ⊢
        clear hcr
        obtain ⟨wo, rfl⟩ : ∃ wo, wo = wr := ⟨wr, rfl⟩
        go_wp2_with fail
        go_loopw [12, 11, 9] (fun v12 v11 v9 wr => PtB f id a M i w2 v12 v11 v9 wr) (fun v _ _ _ => M - (intOf v).toNat)
        case atStart => exact ⟨0, by omega, rfl, rfl, rfl, hB⟩
        case round =>
          obtain ⟨k, hk, rfl, rfl, rfl, hB2⟩ := hrel
          obtain ⟨wp, rfl⟩ : ∃ wp, wp = wr := ⟨wr, rfl⟩
          obtain ⟨s1, s2⟩ := slen_le f HG.out k i
          obtain ⟨s3, _⟩ := slen_le f HG.out (k + 1) i
          have s4 : slen f M i (k + 1) = slen f M i k + (bk f M i k).length := rfl
          have hcl : (idl f i).count id ≤ i := by have := cnt_le id (idl f i) i; have e := cnt_all id (idl f i); rw [idl_len] at e; omega
          have hrl : rem ((idl f i).count id) a k ≤ i := by unfold rem; split <;> omega
          by_cases hlt2 : k < M
          · have hm2 : (k : Int) < M := by omega
            obtain ⟨b, off, rfl, hbl, hc⟩ := (hr3.below hB2) (by omega)
            obtain ⟨B1, d1, e1, q1⟩ := hc k hlt2
            clear hc
            have HQ := hide s4
            rw [s4] at s3
            clear s4
            obtain ⟨r1, r2⟩ := rem_step f M i a k id HV.out
            have HR := hide r2
            have hk3 : (bk f M i k).length ≤ 100 := by omega
            clear r2
            go_wp2_with fail
            go_loopw [13, 9] (fun v13 v9 wi => PtC f id a M i k w2 v13 v9 wi) (fun v _ _ => (bk f M i k).length - (intOf v).toNat)
            case atStart => exact ⟨0, by omega, rfl, rfl, hB2⟩
            case round =>
              obtain ⟨j, hj, rfl, rfl, hB3⟩ := hrel
              obtain ⟨b', off', e', l1, hc⟩ := (hr3.below hB3) (by omega)
              obtain ⟨rfl, rfl⟩ : b = b' ∧ off = off' := by simpa using e'
              obtain ⟨B1, d1, e1, q1⟩ := hc k hlt2
              clear e' hc
              by_cases hlt3 : j < (bk f M i k).length
              · have hm3 : (j : Int) < (bk f M i k).length := by omega
                obtain ⟨g1, p1, rfl, j1, h1⟩ := q1 (by omega)
                have x1 := h1 j hlt3
                clear h1
                have cm := cnt_mono id (bk f M i k) j
                by_cases he : atI (bk f M i k) j = id
                · have HC := hide (cnt_yes hlt3 he)
                  have cm2 := cnt_mono id (bk f M i k) (j + 1)
                  rw [HC.out] at cm2
                  have hka : k = a := by have := bk_shard f M i k j hlt3; rw [he, HV.out] at this; omega
                  have hm4 : (atI (bk f M i k) j == id) = true := beq_iff_eq.2 he
                  have hm5 : ((k : Int) == a) = true := beq_iff_eq.2 (by omega)
                  have hm6 : ((k : Int) != a) = false := by simp [hka]
                  have hge : 1 ≤ rem ((idl f i).count id) a k - cnt id (bk f M i k) j := by omega
                  have hle : rem ((idl f i).count id) a k - cnt id (bk f M i k) j ≤ 100 := by omega
                  have HE : Hid ((((rem ((idl f i).count id) a k - cnt id (bk f M i k) j : Nat)) : Int) - 1 = ((rem ((idl f i).count id) a k - (cnt id (bk f M i k) j + 1) : Nat))) := hide (by omega)
                  clear he hka
                  go_wp2_with fail
                  go_roundw
                  case rel => exact ⟨j + 1, by omega, by go_num, by rw [HC.out, ← HE.out], hB3⟩
                  case measure => simp [intOf]; omega
                · have HC := hide (cnt_no hlt3 he)
                  have hm4 : (atI (bk f M i k) j == id) = false := beq_eq_false_iff_ne.2 he
                  clear he
                  go_wp2_with fail
                  go_roundw
                  case rel => exact ⟨j + 1, by omega, by go_num, by rw [HC.out], hB3⟩
                  case measure => simp [intOf]; omega
              · obtain rfl : j = (bk f M i k).length := by omega
                have HD := hide (cnt_all id (bk f M i k))
                go_wp2_with fail
                go_roundw
                case rel => exact ⟨k + 1, by omega, by go_num, by rw [HQ.out]; go_num, by rw [HR.out, ← HD.out], hB3⟩
                case measure => simp [intOf]; omega
          · obtain rfl : k = M := by omega
            have hrz : rem ((idl f i).count id) a k = 0 := by unfold rem; rw [if_pos haM]
            have hsl := s2 (Nat.le_refl _)
            rw [hrz, hsl]
            clear hrz hsl s1 s2 s3 s4
            have hb3 := hb12.trans (hB2.mono hb12.size)
            go_wp2_with fail
            refine (live_any _ (ht.below hb3)).mono ?_
            rintro e w4 ⟨rfl, hb⟩
            go_wp2_with fail
            go_ret
            exact ⟨rfl, hb3.trans (hb.mono hb3.size)⟩
  · have HG := hide (show good8 N = false by simpa using hg)
    have HV := hide (shOf_bad id HG.out)
    have HS := hide (show shs N = 0 by unfold shs; rw [if_neg hg])
    clear hg
    go_enter Tryd.func5, Tryd.ntmps5
    go_wp2_with fail
    refine (split_any A n c f (by omega) hI N _ hr ht).mono ?_
    rintro e w1 ⟨A1, c1, rfl, hr1, hb1⟩
    rw [HS.out] at hr1 ⊢
    go_wp2_with fail
    refine (rgood_any _ _).mono ?_
    rintro e w2 ⟨rfl, rfl⟩
    rw [HG.out]
    go_wp2_with fail
    refine (of_any id N i1 i2 _ (ht.below hb1)).mono ?_
    rintro e w2 ⟨rfl, hb2⟩
    rw [HV.out]
    have hb3 := hb1.trans (hb2.mono hb1.size)
    go_wp2_with fail
    refine (live_any _ (ht.below hb3)).mono ?_
    rintro e w4 ⟨rfl, hb⟩
    go_wp2_with fail
    go_ret
    exact ⟨rfl, hb3.trans (hb.mono hb3.size)⟩
end Go.Proofs.YtapfofnicbhoeaaDoor
