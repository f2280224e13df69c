/- Texts laid together: Ahc. -/
import Derived.Test.YtdjhkhadjmndoaaDoorQAha
namespace Go.Proofs.YtdjhkhadjmndoaaDoor
set_option maxRecDepth 4000
set_option linter.unusedSimpArgs false
set_option linter.unusedVariables false
open Go.RowKit
set_option maxRecDepth 8000 in
set_option maxHeartbeats 2000000 in
theorem walk_ids (s : ByteArray) (w : World) (hs : s.size ≤ maxLen) (ht : Tab w) : Calls Tryd.prog 4 #[.string s] w fun e w' => e = .returned (.bool true) ∧ Below w.heap.size w w' := by
  have HT := hide ht
  clear ht hs
  by_cases h : s.size ≤ 100
  · have d : decide ((100 : Int) < s.size) = false := decide_eq_false (by omega)
    have b : (s.size : Int) ≤ 100 := by omega
    obtain ⟨v, hv⟩ : ∃ v, v = idV s.data.toList := ⟨_, rfl⟩
    obtain ⟨e, he⟩ : ∃ e, e = idE s.data.toList := ⟨_, rfl⟩
    have HP := hide (fun (W : World) (h : Tab W) => by have t := idp_any s W h; rw [← hv, ← he] at t; exact t)
    have HR := hide (fun (W : World) => by have t := idr_any s W; rw [← hv, ← he] at t; exact t)
    clear hv he h
    go_enter Tryd.func4, Tryd.ntmps4
    go_wp2_with fail
    refine (HP.out _ HT.out).mono ?_
    rintro r w1 ⟨rfl, hb⟩
    have B1 := hide hb
    clear hb
    go_wp2_with fail
    refine (HR.out _).mono ?_
    rintro r w2 ⟨rfl, hb⟩
    have B2 := hide (B1.out.trans (hb.mono B1.out.size))
    clear hb
    go_wp2_with fail
    refine (lives_any _ (HT.out.below B2.out)).mono ?_
    rintro r w3 ⟨rfl, hb⟩
    have B3 := hide (B2.out.trans (hb.mono B2.out.size))
    clear hb
    go_wp2_with fail
    go_ret
    exact ⟨rfl, B3.out⟩
  · have d : decide ((100 : Int) < s.size) = true := decide_eq_true (by omega)
    have b : (100 : Int) < s.size := by omega
    clear h
    go_enter Tryd.func4, Tryd.ntmps4
    go_wp2_with fail
    refine (lives_any _ HT.out).mono ?_
    rintro r w1 ⟨rfl, hb⟩
    go_wp2_with fail
    go_ret
    exact ⟨rfl, hb⟩
end Go.Proofs.YtdjhkhadjmndoaaDoor
