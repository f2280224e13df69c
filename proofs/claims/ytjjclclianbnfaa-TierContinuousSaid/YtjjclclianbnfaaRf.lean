/- Contracts of reference 01, more: Cmp. -/
import Derived.Test.YtjjclclianbnfaaRa
namespace Go.Proofs.Ytjjclclianbnfaa
open Go.RowKit

def cmpW (a b : Int) : Int := if a = b then 0 else if a < b then -1 else 1
theorem cmpW_le {a b : Int} (h : a ≤ b) : cmpW a b ≤ 0 := by unfold cmpW; split; omega; split <;> omega
theorem hilo (a : Int) : a = hiW a * 18446744073709551616 + loW a ∧ 0 ≤ loW a ∧ loW a < 18446744073709551616 := by unfold hiW loW; omega
theorem rcmp_any (a b : Int) (w : World) :
    Calls Try.prog 21 #[.agg #[.int .i64 (hiW a), .int .u64 (loW a)], .agg #[.int .i64 (hiW b), .int .u64 (loW b)]] w fun e w' =>
      e = .returned (.int .i64 (cmpW a b)) ∧ Below w.heap.size w w' := by
  obtain ⟨ha, a1, a2⟩ := hilo a
  obtain ⟨hb, b1, b2⟩ := hilo b
  have hn : ¬ w.heap.size + 1 = w.heap.size := by omega
  by_cases hab : a = b
  · subst hab
    have HC := hide (show cmpW a a = 0 from if_pos rfl)
    clear ha hb
    go_enter Try.func21, Try.ntmps21
    go_wp2_with fail
    go_ret
    exact ⟨by rw [HC.out]; rfl, by (repeat (first | (with_reducible exact Below.refl _ _) | (with_reducible assumption) | ((with_reducible refine Below.alloc ?_ ?_ _); (rotate_left); (first | omega | (simp <;> omega))) | ((with_reducible refine Below.setCell ?_ ?_ _); (rotate_left); (first | omega | (simp <;> omega))) | (with_reducible refine Below.drew ?_) | (with_reducible refine below_drewN ?_ _)))⟩
  · by_cases hlt : a < b
    · have HC := hide (show cmpW a b = -1 from by unfold cmpW; rw [if_neg hab, if_pos hlt])
      by_cases h1 : hiW a < hiW b
      · have hne : ¬ hiW a = hiW b := by omega
        clear ha hb hab hlt
        go_enter Try.func21, Try.ntmps21
        go_wp2_with fail
        go_ret
        exact ⟨by rw [HC.out]; rfl, by (repeat (first | (with_reducible exact Below.refl _ _) | (with_reducible assumption) | ((with_reducible refine Below.alloc ?_ ?_ _); (rotate_left); (first | omega | (simp <;> omega))) | ((with_reducible refine Below.setCell ?_ ?_ _); (rotate_left); (first | omega | (simp <;> omega))) | (with_reducible refine Below.drew ?_) | (with_reducible refine below_drewN ?_ _)))⟩
      · have he : hiW a = hiW b := by omega
        have hl : loW a < loW b := by omega
        have hne : ¬ loW a = loW b := by omega
        clear ha hb hab hlt h1
        go_enter Try.func21, Try.ntmps21
        go_wp2_with fail
        go_ret
        exact ⟨by rw [HC.out]; rfl, by (repeat (first | (with_reducible exact Below.refl _ _) | (with_reducible assumption) | ((with_reducible refine Below.alloc ?_ ?_ _); (rotate_left); (first | omega | (simp <;> omega))) | ((with_reducible refine Below.setCell ?_ ?_ _); (rotate_left); (first | omega | (simp <;> omega))) | (with_reducible refine Below.drew ?_) | (with_reducible refine below_drewN ?_ _)))⟩
    · have HC := hide (show cmpW a b = 1 from by unfold cmpW; rw [if_neg hab, if_neg hlt])
      by_cases h1 : hiW b < hiW a
      · have hne : ¬ hiW a = hiW b := by omega
        have hle : ¬ hiW a < hiW b := by omega
        clear ha hb hab hlt
        go_enter Try.func21, Try.ntmps21
        go_wp2_with fail
        go_ret
        exact ⟨by rw [HC.out]; rfl, by (repeat (first | (with_reducible exact Below.refl _ _) | (with_reducible assumption) | ((with_reducible refine Below.alloc ?_ ?_ _); (rotate_left); (first | omega | (simp <;> omega))) | ((with_reducible refine Below.setCell ?_ ?_ _); (rotate_left); (first | omega | (simp <;> omega))) | (with_reducible refine Below.drew ?_) | (with_reducible refine below_drewN ?_ _)))⟩
      · have he : hiW a = hiW b := by omega
        have hle : ¬ hiW a < hiW b := by omega
        have hl : ¬ loW a < loW b := by omega
        have hne : ¬ loW a = loW b := by omega
        clear ha hb hab hlt h1
        go_enter Try.func21, Try.ntmps21
        go_wp2_with fail
        go_ret
        exact ⟨by rw [HC.out]; rfl, by (repeat (first | (with_reducible exact Below.refl _ _) | (with_reducible assumption) | ((with_reducible refine Below.alloc ?_ ?_ _); (rotate_left); (first | omega | (simp <;> omega))) | ((with_reducible refine Below.setCell ?_ ?_ _); (rotate_left); (first | omega | (simp <;> omega))) | (with_reducible refine Below.drew ?_) | (with_reducible refine below_drewN ?_ _)))⟩
end Go.Proofs.Ytjjclclianbnfaa
