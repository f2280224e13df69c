/- Contracts of package shard and its reference, 3: shards of accounts. -/
import Derived.Test.YtapfofnicbhoeaaDoorShB
import Derived.Lib.AppendIntMem
namespace Go.Proofs.YtapfofnicbhoeaaDoor
open Go.RowKit

/-- The shard of an account. -/
def shOf (id n : Int) : Int := if good8 n then wrap64 ((hext 14695981039346656037 (Lib.itoa id)).tmod n) else 0
theorem dhash_any (s : ByteArray) (hl : s.size ≤ 140737488355328) (w : World) :
    Calls Tryd.prog 21 #[.string s] w fun e w' => e = .returned (.int .u64 (hext 14695981039346656037 s.data.toList)) ∧ Below w.heap.size w w' := by
  go_enter Tryd.func21, Tryd.ntmps21
  go_wp2_with fail
  refine (dext_any _ s hl _).mono ?_
  rintro e w1 ⟨rfl, hb⟩
  go_wp2_with fail
  go_ret
  exact ⟨rfl, hb⟩
theorem rhash_any (s : ByteArray) (hl : s.size ≤ 140737488355328) (w : World) :
    Calls Tryd.prog 23 #[.string s] w fun e w' => e = .returned (.int .u64 (hext 14695981039346656037 s.data.toList)) ∧ Below w.heap.size w w' := by
  go_enter Tryd.func23, Tryd.ntmps23
  go_wp2_with fail
  refine (rext_any _ s hl _).mono ?_
  rintro e w1 ⟨rfl, hb⟩
  go_wp2_with fail
  go_ret
  exact ⟨rfl, hb⟩
/-- The library's table of powers of ten lies in its variable. -/
def Tab (w : World) : Prop := Lib.TabIs Tryd.prog w "internal/strconv.uint64pow10" .u64 Lib.pow10Tab
theorem Tab.below {w w' : World} (h : Tab w) (hb : Below w.heap.size w w') : Tab w' := by
  unfold Tab Lib.TabIs World.var? at *
  cases hg : Program.globalNamed Tryd.prog "internal/strconv.uint64pow10" with
  | none => simp [hg] at h
  | some g =>
    simp only [hg, Option.bind_some] at h ⊢
    have hlt : g < w.heap.size := by
      rcases Nat.lt_or_ge g w.heap.size with h' | h'
      · exact h'
      · rw [Array.getElem?_eq_none h'] at h; simp at h
    rw [hb.block g hlt]
    exact h
theorem of_any (id n : Int) (i1 : -9223372036854775808 ≤ id) (i2 : id ≤ 9223372036854775807) (w : World) (ht : Tab w) :
    Calls Tryd.prog 8 #[.int .i64 id, .int .i64 n] w fun e w' => e = .returned (.int .i64 (shOf id n)) ∧ Below w.heap.size w w' := by
  have hlen := Lib.itoa_length_le id i1 i2
  by_cases hg : good8 n = true
  · have HS := hide (show shOf id n = wrap64 ((hext 14695981039346656037 (Lib.itoa id)).tmod n) from if_pos hg)
    obtain ⟨n1, n2⟩ := of_decide_eq_true hg
    have HG := hide hg
    clear hg
    go_enter Tryd.func8, Tryd.ntmps8
    go_wp2_with fail
    refine (number_any n _).mono ?_
    rintro e w1 ⟨rfl, rfl⟩
    rw [HG.out]
    go_wp2_with fail
    refine (Tryd.strconv_Itoa id i1 i2 _ ht).mono ?_
    rintro e w1 ⟨rfl, k, os, rfl⟩
    have hb1 : Below w.heap.size w (Sort.grow (w.drewN k) os) := Lib.below_grow _ w (Nat.le_refl _) k os
    generalize Sort.grow (w.drewN k) os = w1 at hb1
    go_wp2_with fail
    refine (dhash_any _ (by show (Lib.itoa id).length ≤ _; omega) _).mono ?_
    rintro e w2 ⟨rfl, hb2⟩
    go_wp2_with fail
    go_ret
    exact ⟨by rw [HS.out]; rfl, hb1.trans (hb2.mono hb1.size)⟩
  · have HS := hide (show shOf id n = 0 from if_neg hg)
    have HG := hide (show good8 n = false by simpa using hg)
    clear hg
    go_enter Tryd.func8, Tryd.ntmps8
    go_wp2_with fail
    refine (number_any n _).mono ?_
    rintro e w1 ⟨rfl, rfl⟩
    rw [HG.out]
    go_wp2_with fail
    go_ret
    exact ⟨by rw [HS.out]; rfl, by (repeat (first | (with_reducible exact Below.refl _ _) | (with_reducible assumption) | ((with_reducible refine Below.alloc ?_ ?_ _); (rotate_left); (first | omega | (simp <;> omega))) | ((with_reducible refine Below.setCell ?_ ?_ _); (rotate_left); (first | omega | (simp <;> omega))) | (with_reducible refine Below.drew ?_) | (with_reducible refine below_drewN ?_ _)))⟩
theorem rof_any (id n : Int) (i1 : -9223372036854775808 ≤ id) (i2 : id ≤ 9223372036854775807) (w : World) :
    Calls Tryd.prog 9 #[.int .i64 id, .int .i64 n] w fun e w' => e = .returned (.int .i64 (shOf id n)) ∧ Below w.heap.size w w' := by
  have hlen := Lib.itoa_length_le id i1 i2
  by_cases hg : good8 n = true
  · have HS := hide (show shOf id n = wrap64 ((hext 14695981039346656037 (Lib.itoa id)).tmod n) from if_pos hg)
    obtain ⟨n1, n2⟩ := of_decide_eq_true hg
    have HG := hide hg
    clear hg
    go_enter Tryd.func9, Tryd.ntmps9
    go_wp2_with fail
    refine (rgood_any n _).mono ?_
    rintro e w1 ⟨rfl, rfl⟩
    rw [HG.out]
    go_wp2_with fail
    refine (rint_any id i1 i2 _).mono ?_
    rintro e w1 ⟨rfl, hb1⟩
    go_wp2_with fail
    refine (rhash_any _ (by show (Lib.itoa id).length ≤ _; omega) _).mono ?_
    rintro e w2 ⟨rfl, hb2⟩
    go_wp2_with fail
    go_ret
    exact ⟨by rw [HS.out]; rfl, hb1.trans (hb2.mono hb1.size)⟩
  · have HS := hide (show shOf id n = 0 from if_neg hg)
    have HG := hide (show good8 n = false by simpa using hg)
    clear hg
    go_enter Tryd.func9, Tryd.ntmps9
    go_wp2_with fail
    refine (rgood_any n _).mono ?_
    rintro e w1 ⟨rfl, rfl⟩
    rw [HG.out]
    go_wp2_with fail
    go_ret
    exact ⟨by rw [HS.out]; rfl, by (repeat (first | (with_reducible exact Below.refl _ _) | (with_reducible assumption) | ((with_reducible refine Below.alloc ?_ ?_ _); (rotate_left); (first | omega | (simp <;> omega))) | ((with_reducible refine Below.setCell ?_ ?_ _); (rotate_left); (first | omega | (simp <;> omega))) | (with_reducible refine Below.drew ?_) | (with_reducible refine below_drewN ?_ _)))⟩
end Go.Proofs.YtapfofnicbhoeaaDoor
