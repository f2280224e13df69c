/- Texts laid together: Eza TpA. -/
import Derived.Test.YtpghciiifnjimaaGreatDoorXEzt
import Derived.Test.YtpghciiifnjimaaGreatDoorXAcF
namespace Go.Proofs.YtpghciiifnjimaaGreatDoor
set_option maxRecDepth 4000
set_option linter.unusedSimpArgs false
set_option linter.unusedVariables false
open Go.RowKit
theorem arr4 {α : Type} {cs : Array α} (h : cs.size = 4) : ∃ x0 x1 x2 x3, cs = #[x0, x1, x2, x3] := by
 obtain ⟨l⟩ := cs
 match l, h with
 | [x0, x1, x2, x3], _ => exact ⟨x0, x1, x2, x3, rfl⟩
theorem kn_of {e n : Nat} {c : Nat → Nat → Tr} (h : RowK e n c) {k : Nat} (hk : k < n) : KnOK e (c k) := fun j hj => h.wt k j hk hj
theorem ex_size {X : Array Value} (h : X.size = 4) : (Tryz.prog.info? 226).map (·.size) = some X.size := by rw [h]; kernel_rfl
end Go.Proofs.YtpghciiifnjimaaGreatDoor
namespace Go.Proofs.YtpghciiifnjimaaGreatDoor
set_option maxRecDepth 4000
set_option linter.unusedSimpArgs false
set_option linter.unusedVariables false
open Go.RowKit
/-- Some number; nothing that was there is written. -/
def SomE (w : World) (e : Ending) (w' : World) : Prop := (∃ z : Int, e = .returned (.int .i64 z)) ∧ Below w.heap.size w w'
/-- Some bool; nothing that was there is written. -/
def SomB (w : World) (e : Ending) (w' : World) : Prop := (∃ b : Bool, e = .returned (.bool b)) ∧ Below w.heap.size w w'
/-- A loop that counts and writes nothing. -/
def KW (l n : Nat) (w : World) (v : Value) (wr : World) : Prop := ∃ k : Nat, l ≤ k ∧ k ≤ n ∧ v = .int .i64 k ∧ w = wr
theorem str_ne {s t : ByteArray} (h : s.size ≠ t.size) : (s.toList == t.toList) = false := by
 rw [Lib.toList_data, Lib.toList_data]
 have h1 : s.data.size = s.size := rfl
 have h2 : t.data.size = t.size := rfl
 rw [Bool.eq_false_iff]
 intro e
 have e := eq_of_beq e
 have : s.data.toList.length = t.data.toList.length := by rw [e]
 simp at this
 omega
theorem str_nn {s : ByteArray} (h : 0 < s.size) : ¬ s.toList = [] := fun e => by
 rw [Lib.toList_data] at e
 have h1 : s.data.size = s.size := rfl
 have h2 : s.data.size = 0 := by rw [← Array.length_toList, e]; rfl
 omega
set_option maxHeartbeats 4000000 in
theorem wcode3_any (s : ByteArray) (w : World) : Calls Tryz.prog 83 #[.string s] w (SomB w) := by
 by_cases h3 : s.size = 3
 ·have e3 : ((s.size : Int) != 3) = false := by simp [h3]
  have z3 : (s.size : Int) = 3 := by omega
  go_enter Tryz.func83, Tryz.ntmps83
  go_wp2_with fail
  go_loopw [3] (fun v wr => KW 0 (3) w v wr) (fun v _ => (3) - (intOf v).toNat)
  case atStart => exact ⟨0, by omega, by omega, rfl, rfl⟩
  case round =>
   obtain ⟨k, hk0n, hk, rfl, rfl⟩ := hrel
   by_cases hlt : k < 3
   ·have hm : (k : Int) < 3 := by omega
    have hk0 : (0 : Int) ≤ k := by omega
    have hix : k < s.size := by omega
    have hm2 : (k : Int) < s.size := by omega
    have c0 : 0 ≤ (s[k].toNat : Int) := by omega
    have c1 : (s[k].toNat : Int) ≤ 255 := by have := s[k].toNat_lt; omega
    go_wp2_with fail
    all_goals first
     | (exfalso; omega)
     | (go_ret; exact ⟨⟨_, rfl⟩, by (repeat (first | (with_reducible first | exact Below.refl _ _ | assumption | refine Below.drew ?_) | ((with_reducible first | refine Below.alloc ?_ ?_ _ | refine Below.setCell ?_ ?_ _); rotate_left; (first | omega | (simp <;> omega)))))⟩)
     | (go_roundw; (case rel => exact ⟨k + 1, by omega, by omega, by go_num, rfl⟩); (case measure => simp [intOf]; omega))
   ·obtain rfl : k = 3 := by omega
    go_wp2_with fail
    go_ret
    exact ⟨⟨_, rfl⟩, by (repeat (first | (with_reducible first | exact Below.refl _ _ | assumption | refine Below.drew ?_) | ((with_reducible first | refine Below.alloc ?_ ?_ _ | refine Below.setCell ?_ ?_ _); rotate_left; (first | omega | (simp <;> omega)))))⟩
 ·have e3 : ((s.size : Int) != 3) = true := by simp; omega
  go_enter Tryz.func83, Tryz.ntmps83
  go_wp2_with fail
  go_ret
  exact ⟨⟨_, rfl⟩, by (repeat (first | (with_reducible first | exact Below.refl _ _ | assumption | refine Below.drew ?_) | ((with_reducible first | refine Below.alloc ?_ ?_ _ | refine Below.setCell ?_ ?_ _); rotate_left; (first | omega | (simp <;> omega)))))⟩
set_option maxHeartbeats 4000000 in
theorem wcode19_any (s : ByteArray) (w : World) : Calls Tryz.prog 277 #[.string s] w (SomB w) := by
 by_cases h3 : s.size = 3
 ·have e3 : ((s.size : Int) != 3) = false := by simp [h3]
  have z3 : (s.size : Int) = 3 := by omega
  go_enter Tryz.func277, Tryz.ntmps277
  go_wp2_with fail
  go_loopw [3] (fun v wr => KW 0 (s.size) w v wr) (fun v _ => (s.size) - (intOf v).toNat)
  case atStart => exact ⟨0, by omega, by omega, rfl, rfl⟩
  case round =>
   obtain ⟨k, hk0n, hk, rfl, rfl⟩ := hrel
   by_cases hlt : k < s.size
   ·have hm : (k : Int) < (s.size : Int) := by omega
    have hk0 : (0 : Int) ≤ k := by omega
    have hix : k < s.size := by omega
    have hm2 : (k : Int) < s.size := by omega
    have c0 : 0 ≤ (s[k].toNat : Int) := by omega
    have c1 : (s[k].toNat : Int) ≤ 255 := by have := s[k].toNat_lt; omega
    go_wp2_with fail
    all_goals first
     | (exfalso; omega)
     | (go_ret; exact ⟨⟨_, rfl⟩, by (repeat (first | (with_reducible first | exact Below.refl _ _ | assumption | refine Below.drew ?_) | ((with_reducible first | refine Below.alloc ?_ ?_ _ | refine Below.setCell ?_ ?_ _); rotate_left; (first | omega | (simp <;> omega)))))⟩)
     | (go_roundw; (case rel => exact ⟨k + 1, by omega, by omega, by go_num, rfl⟩); (case measure => simp [intOf]; omega))
   ·obtain rfl : k = s.size := by omega
    go_wp2_with fail
    go_ret
    exact ⟨⟨_, rfl⟩, by (repeat (first | (with_reducible first | exact Below.refl _ _ | assumption | refine Below.drew ?_) | ((with_reducible first | refine Below.alloc ?_ ?_ _ | refine Below.setCell ?_ ?_ _); rotate_left; (first | omega | (simp <;> omega)))))⟩
 ·have e3 : ((s.size : Int) != 3) = true := by simp; omega
  go_enter Tryz.func277, Tryz.ntmps277
  go_wp2_with fail
  go_ret
  exact ⟨⟨_, rfl⟩, by (repeat (first | (with_reducible first | exact Below.refl _ _ | assumption | refine Below.drew ?_) | ((with_reducible first | refine Below.alloc ?_ ?_ _ | refine Below.setCell ?_ ?_ _); rotate_left; (first | omega | (simp <;> omega)))))⟩
set_option maxHeartbeats 8000000 in
theorem wname5_any (s : ByteArray) (w : World) : Calls Tryz.prog 98 #[.string s] w (SomB w) := by
 by_cases h1 : s.size < 1
 ·have hh : (s.size : Int) < 1 := by omega
  go_enter Tryz.func98, Tryz.ntmps98
  go_wp2_with fail
  all_goals first | (exfalso; omega) | (go_ret; exact ⟨⟨_, rfl⟩, by (repeat (first | (with_reducible first | exact Below.refl _ _ | assumption | refine Below.drew ?_) | ((with_reducible first | refine Below.alloc ?_ ?_ _ | refine Below.setCell ?_ ?_ _); rotate_left; (first | omega | (simp <;> omega)))))⟩)
 have hh : ¬ (s.size : Int) < 1 := by omega
 have pn : 0 < s.size := by omega
 have p0 : (0 : Int) < s.size := by omega
 by_cases h2 : (16 : Int) < s.size
 ·go_enter Tryz.func98, Tryz.ntmps98
  go_wp2_with fail
  all_goals all_goals first | (exfalso; omega) | (go_ret; exact ⟨⟨_, rfl⟩, by (repeat (first | (with_reducible first | exact Below.refl _ _ | assumption | refine Below.drew ?_) | ((with_reducible first | refine Below.alloc ?_ ?_ _ | refine Below.setCell ?_ ?_ _); rotate_left; (first | omega | (simp <;> omega)))))⟩)
 have b0 : 0 ≤ (s[0].toNat : Int) := by omega
 have b1 : (s[0].toNat : Int) ≤ 255 := by have := s[0].toNat_lt; omega
 by_cases h3 : (s[0].toNat : Int) < 97
 ·go_enter Tryz.func98, Tryz.ntmps98
  go_wp2_with fail
  all_goals first | (exfalso; omega) | (go_ret; exact ⟨⟨_, rfl⟩, by (repeat (first | (with_reducible first | exact Below.refl _ _ | assumption | refine Below.drew ?_) | ((with_reducible first | refine Below.alloc ?_ ?_ _ | refine Below.setCell ?_ ?_ _); rotate_left; (first | omega | (simp <;> omega)))))⟩)
 by_cases h4 : (122 : Int) < s[0].toNat
 ·go_enter Tryz.func98, Tryz.ntmps98
  go_wp2_with fail
  all_goals first | (exfalso; omega) | (go_ret; exact ⟨⟨_, rfl⟩, by (repeat (first | (with_reducible first | exact Below.refl _ _ | assumption | refine Below.drew ?_) | ((with_reducible first | refine Below.alloc ?_ ?_ _ | refine Below.setCell ?_ ?_ _); rotate_left; (first | omega | (simp <;> omega)))))⟩)
 go_enter Tryz.func98, Tryz.ntmps98
 go_wp2_with fail
 go_loopw [3] (fun v wr => KW 0 (s.size) w v wr) (fun v _ => (s.size) - (intOf v).toNat)
 case atStart => exact ⟨0, by omega, by omega, rfl, rfl⟩
 case round =>
  obtain ⟨k, hk0n, hk, rfl, rfl⟩ := hrel
  by_cases hlt : k < s.size
  ·have hm : (k : Int) < (s.size : Int) := by omega
   have hk0 : (0 : Int) ≤ k := by omega
   have hix : k < s.size := by omega
   have hm2 : (k : Int) < s.size := by omega
   have c0 : 0 ≤ (s[k].toNat : Int) := by omega
   have c1 : (s[k].toNat : Int) ≤ 255 := by have := s[k].toNat_lt; omega
   go_wp2_with fail
   all_goals first
    | (exfalso; omega)
    | (go_ret; exact ⟨⟨_, rfl⟩, by (repeat (first | (with_reducible first | exact Below.refl _ _ | assumption | refine Below.drew ?_) | ((with_reducible first | refine Below.alloc ?_ ?_ _ | refine Below.setCell ?_ ?_ _); rotate_left; (first | omega | (simp <;> omega)))))⟩)
    | (go_roundw; (case rel => exact ⟨k + 1, by omega, by omega, by go_num, rfl⟩); (case measure => simp [intOf]; omega))
  ·obtain rfl : k = s.size := by omega
   go_wp2_with fail
   go_ret
   exact ⟨⟨_, rfl⟩, by (repeat (first | (with_reducible first | exact Below.refl _ _ | assumption | refine Below.drew ?_) | ((with_reducible first | refine Below.alloc ?_ ?_ _ | refine Below.setCell ?_ ?_ _); rotate_left; (first | omega | (simp <;> omega)))))⟩
set_option maxHeartbeats 8000000 in
theorem wname7_any (s : ByteArray) (w : World) : Calls Tryz.prog 328 #[.string s] w (SomB w) := by
 by_cases h1 : s.size < 1
 ·have hh : (s.size : Int) < 1 := by omega
  go_enter Tryz.func328, Tryz.ntmps328
  go_wp2_with fail
  all_goals first | (exfalso; omega) | (go_ret; exact ⟨⟨_, rfl⟩, by (repeat (first | (with_reducible first | exact Below.refl _ _ | assumption | refine Below.drew ?_) | ((with_reducible first | refine Below.alloc ?_ ?_ _ | refine Below.setCell ?_ ?_ _); rotate_left; (first | omega | (simp <;> omega)))))⟩)
 have hh : ¬ (s.size : Int) < 1 := by omega
 have pn : 0 < s.size := by omega
 have p0 : (0 : Int) < s.size := by omega
 by_cases h2 : (16 : Int) < s.size
 ·go_enter Tryz.func328, Tryz.ntmps328
  go_wp2_with fail
  all_goals all_goals first | (exfalso; omega) | (go_ret; exact ⟨⟨_, rfl⟩, by (repeat (first | (with_reducible first | exact Below.refl _ _ | assumption | refine Below.drew ?_) | ((with_reducible first | refine Below.alloc ?_ ?_ _ | refine Below.setCell ?_ ?_ _); rotate_left; (first | omega | (simp <;> omega)))))⟩)
 have b0 : 0 ≤ (s[0].toNat : Int) := by omega
 have b1 : (s[0].toNat : Int) ≤ 255 := by have := s[0].toNat_lt; omega
 by_cases h3 : (s[0].toNat : Int) < 97
 ·go_enter Tryz.func328, Tryz.ntmps328
  go_wp2_with fail
  all_goals first | (exfalso; omega) | (go_ret; exact ⟨⟨_, rfl⟩, by (repeat (first | (with_reducible first | exact Below.refl _ _ | assumption | refine Below.drew ?_) | ((with_reducible first | refine Below.alloc ?_ ?_ _ | refine Below.setCell ?_ ?_ _); rotate_left; (first | omega | (simp <;> omega)))))⟩)
 by_cases h4 : (122 : Int) < s[0].toNat
 ·go_enter Tryz.func328, Tryz.ntmps328
  go_wp2_with fail
  all_goals first | (exfalso; omega) | (go_ret; exact ⟨⟨_, rfl⟩, by (repeat (first | (with_reducible first | exact Below.refl _ _ | assumption | refine Below.drew ?_) | ((with_reducible first | refine Below.alloc ?_ ?_ _ | refine Below.setCell ?_ ?_ _); rotate_left; (first | omega | (simp <;> omega)))))⟩)
 go_enter Tryz.func328, Tryz.ntmps328
 go_wp2_with fail
 go_loopw [3] (fun v wr => KW 0 (s.size) w v wr) (fun v _ => (s.size) - (intOf v).toNat)
 case atStart => exact ⟨0, by omega, by omega, rfl, rfl⟩
 case round =>
  obtain ⟨k, hk0n, hk, rfl, rfl⟩ := hrel
  by_cases hlt : k < s.size
  ·have hm : (k : Int) < (s.size : Int) := by omega
   have hk0 : (0 : Int) ≤ k := by omega
   have hix : k < s.size := by omega
   have hm2 : (k : Int) < s.size := by omega
   have c0 : 0 ≤ (s[k].toNat : Int) := by omega
   have c1 : (s[k].toNat : Int) ≤ 255 := by have := s[k].toNat_lt; omega
   go_wp2_with fail
   all_goals first
    | (exfalso; omega)
    | (go_ret; exact ⟨⟨_, rfl⟩, by (repeat (first | (with_reducible first | exact Below.refl _ _ | assumption | refine Below.drew ?_) | ((with_reducible first | refine Below.alloc ?_ ?_ _ | refine Below.setCell ?_ ?_ _); rotate_left; (first | omega | (simp <;> omega)))))⟩)
    | (go_roundw; (case rel => exact ⟨k + 1, by omega, by omega, by go_num, rfl⟩); (case measure => simp [intOf]; omega))
  ·obtain rfl : k = s.size := by omega
   go_wp2_with fail
   go_ret
   exact ⟨⟨_, rfl⟩, by (repeat (first | (with_reducible first | exact Below.refl _ _ | assumption | refine Below.drew ?_) | ((with_reducible first | refine Below.alloc ?_ ?_ _ | refine Below.setCell ?_ ?_ _); rotate_left; (first | omega | (simp <;> omega)))))⟩
set_option maxHeartbeats 8000000 in
theorem wname18_any (s : ByteArray) (w : World) : Calls Tryz.prog 85 #[.string s] w (SomB w) := by
 by_cases h1 : s.size < 1
 ·have hh : (s.size : Int) < 1 := by omega
  obtain rfl : s = ⟨#[]⟩ := by
   have h1 : s.data.size = s.size := rfl
   have : s.data = #[] := Array.eq_empty_of_size_eq_zero (by omega)
   cases s
   rw [← this]
  go_enter Tryz.func85, Tryz.ntmps85
  go_wp2_with fail
  all_goals first | (exfalso; omega) | (exfalso; first | exact HN.out ‹s.toList = []› | exact HN.out ‹[] = s.toList›.symm | exact HN.out (List.isEmpty_iff.1 ‹s.toList.isEmpty = true›)) | (go_ret; exact ⟨⟨_, rfl⟩, by (repeat (first | (with_reducible first | exact Below.refl _ _ | assumption | refine Below.drew ?_) | ((with_reducible first | refine Below.alloc ?_ ?_ _ | refine Below.setCell ?_ ?_ _); rotate_left; (first | omega | (simp <;> omega)))))⟩)
 have hh : ¬ (s.size : Int) < 1 := by omega
 have pn : 0 < s.size := by omega
 have p0 : (0 : Int) < s.size := by omega
 have he : (s.toList == (⟨#[]⟩ : ByteArray).toList) = false := str_ne (by show s.size ≠ 0; omega)
 have HN := hide (str_nn pn)
 by_cases h2 : (16 : Int) < s.size
 ·go_enter Tryz.func85, Tryz.ntmps85
  go_wp2_with fail
  all_goals all_goals first | (exfalso; omega) | (exfalso; first | exact HN.out ‹s.toList = []› | exact HN.out ‹[] = s.toList›.symm | exact HN.out (List.isEmpty_iff.1 ‹s.toList.isEmpty = true›)) | (go_ret; exact ⟨⟨_, rfl⟩, by (repeat (first | (with_reducible first | exact Below.refl _ _ | assumption | refine Below.drew ?_) | ((with_reducible first | refine Below.alloc ?_ ?_ _ | refine Below.setCell ?_ ?_ _); rotate_left; (first | omega | (simp <;> omega)))))⟩)
 have b0 : 0 ≤ (s[0].toNat : Int) := by omega
 have b1 : (s[0].toNat : Int) ≤ 255 := by have := s[0].toNat_lt; omega
 by_cases h3 : (s[0].toNat : Int) < 97
 ·go_enter Tryz.func85, Tryz.ntmps85
  go_wp2_with fail
  all_goals first | (exfalso; omega) | (exfalso; first | exact HN.out ‹s.toList = []› | exact HN.out ‹[] = s.toList›.symm | exact HN.out (List.isEmpty_iff.1 ‹s.toList.isEmpty = true›)) | (go_ret; exact ⟨⟨_, rfl⟩, by (repeat (first | (with_reducible first | exact Below.refl _ _ | assumption | refine Below.drew ?_) | ((with_reducible first | refine Below.alloc ?_ ?_ _ | refine Below.setCell ?_ ?_ _); rotate_left; (first | omega | (simp <;> omega)))))⟩)
 by_cases h4 : (122 : Int) < s[0].toNat
 ·go_enter Tryz.func85, Tryz.ntmps85
  go_wp2_with fail
  all_goals first | (exfalso; omega) | (exfalso; first | exact HN.out ‹s.toList = []› | exact HN.out ‹[] = s.toList›.symm | exact HN.out (List.isEmpty_iff.1 ‹s.toList.isEmpty = true›)) | (go_ret; exact ⟨⟨_, rfl⟩, by (repeat (first | (with_reducible first | exact Below.refl _ _ | assumption | refine Below.drew ?_) | ((with_reducible first | refine Below.alloc ?_ ?_ _ | refine Below.setCell ?_ ?_ _); rotate_left; (first | omega | (simp <;> omega)))))⟩)
 go_enter Tryz.func85, Tryz.ntmps85
 go_wp2_with fail
 all_goals try (exfalso; first | exact HN.out ‹s.toList = []› | exact HN.out ‹[] = s.toList›.symm | exact HN.out (List.isEmpty_iff.1 ‹s.toList.isEmpty = true›) | omega)
 go_loopw [3] (fun v wr => KW 1 (s.size) w v wr) (fun v _ => (s.size) - (intOf v).toNat)
 case atStart => exact ⟨1, by omega, by omega, rfl, rfl⟩
 case round =>
  obtain ⟨k, hk0n, hk, rfl, rfl⟩ := hrel
  by_cases hlt : k < s.size
  ·have hm : (k : Int) < (s.size : Int) := by omega
   have hk0 : (0 : Int) ≤ k := by omega
   have hix : k < s.size := by omega
   have hm2 : (k : Int) < s.size := by omega
   have c0 : 0 ≤ (s[k].toNat : Int) := by omega
   have c1 : (s[k].toNat : Int) ≤ 255 := by have := s[k].toNat_lt; omega
   go_wp2_with fail
   all_goals first
    | (exfalso; omega)
    | (go_ret; exact ⟨⟨_, rfl⟩, by (repeat (first | (with_reducible first | exact Below.refl _ _ | assumption | refine Below.drew ?_) | ((with_reducible first | refine Below.alloc ?_ ?_ _ | refine Below.setCell ?_ ?_ _); rotate_left; (first | omega | (simp <;> omega)))))⟩)
    | (go_roundw; (case rel => exact ⟨k + 1, by omega, by omega, by go_num, rfl⟩); (case measure => simp [intOf]; omega))
  ·obtain rfl : k = s.size := by omega
   go_wp2_with fail
   go_ret
   exact ⟨⟨_, rfl⟩, by (repeat (first | (with_reducible first | exact Below.refl _ _ | assumption | refine Below.drew ?_) | ((with_reducible first | refine Below.alloc ?_ ?_ _ | refine Below.setCell ?_ ?_ _); rotate_left; (first | omega | (simp <;> omega)))))⟩
set_option maxHeartbeats 8000000 in
theorem wname15_any (s : ByteArray) (w : World) : Calls Tryz.prog 145 #[.string s] w (SomB w) := by
 by_cases h1 : s.size < 1
 ·have hh : (s.size : Int) < 1 := by omega
  obtain rfl : s = ⟨#[]⟩ := by
   have h1 : s.data.size = s.size := rfl
   have : s.data = #[] := Array.eq_empty_of_size_eq_zero (by omega)
   cases s
   rw [← this]
  go_enter Tryz.func145, Tryz.ntmps145
  go_wp2_with fail
  all_goals first | (exfalso; omega) | (exfalso; first | exact HN.out ‹s.toList = []› | exact HN.out ‹[] = s.toList›.symm | exact HN.out (List.isEmpty_iff.1 ‹s.toList.isEmpty = true›)) | (go_ret; exact ⟨⟨_, rfl⟩, by (repeat (first | (with_reducible first | exact Below.refl _ _ | assumption | refine Below.drew ?_) | ((with_reducible first | refine Below.alloc ?_ ?_ _ | refine Below.setCell ?_ ?_ _); rotate_left; (first | omega | (simp <;> omega)))))⟩)
 have hh : ¬ (s.size : Int) < 1 := by omega
 have pn : 0 < s.size := by omega
 have p0 : (0 : Int) < s.size := by omega
 have he : (s.toList == (⟨#[]⟩ : ByteArray).toList) = false := str_ne (by show s.size ≠ 0; omega)
 have HN := hide (str_nn pn)
 by_cases h2 : (16 : Int) < s.size
 ·go_enter Tryz.func145, Tryz.ntmps145
  go_wp2_with fail
  all_goals all_goals first | (exfalso; omega) | (exfalso; first | exact HN.out ‹s.toList = []› | exact HN.out ‹[] = s.toList›.symm | exact HN.out (List.isEmpty_iff.1 ‹s.toList.isEmpty = true›)) | (go_ret; exact ⟨⟨_, rfl⟩, by (repeat (first | (with_reducible first | exact Below.refl _ _ | assumption | refine Below.drew ?_) | ((with_reducible first | refine Below.alloc ?_ ?_ _ | refine Below.setCell ?_ ?_ _); rotate_left; (first | omega | (simp <;> omega)))))⟩)
 have b0 : 0 ≤ (s[0].toNat : Int) := by omega
 have b1 : (s[0].toNat : Int) ≤ 255 := by have := s[0].toNat_lt; omega
 by_cases h3 : (s[0].toNat : Int) < 97
 ·go_enter Tryz.func145, Tryz.ntmps145
  go_wp2_with fail
  all_goals first | (exfalso; omega) | (exfalso; first | exact HN.out ‹s.toList = []› | exact HN.out ‹[] = s.toList›.symm | exact HN.out (List.isEmpty_iff.1 ‹s.toList.isEmpty = true›)) | (go_ret; exact ⟨⟨_, rfl⟩, by (repeat (first | (with_reducible first | exact Below.refl _ _ | assumption | refine Below.drew ?_) | ((with_reducible first | refine Below.alloc ?_ ?_ _ | refine Below.setCell ?_ ?_ _); rotate_left; (first | omega | (simp <;> omega)))))⟩)
 by_cases h4 : (122 : Int) < s[0].toNat
 ·go_enter Tryz.func145, Tryz.ntmps145
  go_wp2_with fail
  all_goals first | (exfalso; omega) | (exfalso; first | exact HN.out ‹s.toList = []› | exact HN.out ‹[] = s.toList›.symm | exact HN.out (List.isEmpty_iff.1 ‹s.toList.isEmpty = true›)) | (go_ret; exact ⟨⟨_, rfl⟩, by (repeat (first | (with_reducible first | exact Below.refl _ _ | assumption | refine Below.drew ?_) | ((with_reducible first | refine Below.alloc ?_ ?_ _ | refine Below.setCell ?_ ?_ _); rotate_left; (first | omega | (simp <;> omega)))))⟩)
 go_enter Tryz.func145, Tryz.ntmps145
 go_wp2_with fail
 all_goals try (exfalso; first | exact HN.out ‹s.toList = []› | exact HN.out ‹[] = s.toList›.symm | exact HN.out (List.isEmpty_iff.1 ‹s.toList.isEmpty = true›) | omega)
 go_loopw [3] (fun v wr => KW 1 (s.size) w v wr) (fun v _ => (s.size) - (intOf v).toNat)
 case atStart => exact ⟨1, by omega, by omega, rfl, rfl⟩
 case round =>
  obtain ⟨k, hk0n, hk, rfl, rfl⟩ := hrel
  by_cases hlt : k < s.size
  ·have hm : (k : Int) < (s.size : Int) := by omega
   have hk0 : (0 : Int) ≤ k := by omega
   have hix : k < s.size := by omega
   have hm2 : (k : Int) < s.size := by omega
   have c0 : 0 ≤ (s[k].toNat : Int) := by omega
   have c1 : (s[k].toNat : Int) ≤ 255 := by have := s[k].toNat_lt; omega
   go_wp2_with fail
   all_goals first
    | (exfalso; omega)
    | (go_ret; exact ⟨⟨_, rfl⟩, by (repeat (first | (with_reducible first | exact Below.refl _ _ | assumption | refine Below.drew ?_) | ((with_reducible first | refine Below.alloc ?_ ?_ _ | refine Below.setCell ?_ ?_ _); rotate_left; (first | omega | (simp <;> omega)))))⟩)
    | (go_roundw; (case rel => exact ⟨k + 1, by omega, by omega, by go_num, rfl⟩); (case measure => simp [intOf]; omega))
  ·obtain rfl : k = s.size := by omega
   go_wp2_with fail
   go_ret
   exact ⟨⟨_, rfl⟩, by (repeat (first | (with_reducible first | exact Below.refl _ _ | assumption | refine Below.drew ?_) | ((with_reducible first | refine Below.alloc ?_ ?_ _ | refine Below.setCell ?_ ?_ _); rotate_left; (first | omega | (simp <;> omega)))))⟩
set_option maxHeartbeats 4000000 in
theorem wprint_any (s : ByteArray) (m l : Int) (hm1 : m ≤ 1000) (w : World) : Calls Tryz.prog 204 #[.string s, .int .i64 m, .int .u8 l] w (SomB w) := by
 by_cases h2 : m < s.size
 ·go_enter Tryz.func204, Tryz.ntmps204
  go_wp2_with fail
  go_ret
  exact ⟨⟨_, rfl⟩, by (repeat (first | (with_reducible first | exact Below.refl _ _ | assumption | refine Below.drew ?_) | ((with_reducible first | refine Below.alloc ?_ ?_ _ | refine Below.setCell ?_ ?_ _); rotate_left; (first | omega | (simp <;> omega)))))⟩
 go_enter Tryz.func204, Tryz.ntmps204
 go_wp2_with fail
 go_loopw [7] (fun v wr => KW 0 (s.size) w v wr) (fun v _ => (s.size) - (intOf v).toNat)
 case atStart => exact ⟨0, by omega, by omega, rfl, rfl⟩
 case round =>
  obtain ⟨k, hk0n, hk, rfl, rfl⟩ := hrel
  by_cases hlt : k < s.size
  ·have hm : (k : Int) < (s.size : Int) := by omega
   have hk0 : (0 : Int) ≤ k := by omega
   have hix : k < s.size := by omega
   have hm2 : (k : Int) < s.size := by omega
   have c0 : 0 ≤ (s[k].toNat : Int) := by omega
   have c1 : (s[k].toNat : Int) ≤ 255 := by have := s[k].toNat_lt; omega
   go_wp2_with fail
   all_goals first
    | (exfalso; omega)
    | (go_ret; exact ⟨⟨_, rfl⟩, by (repeat (first | (with_reducible first | exact Below.refl _ _ | assumption | refine Below.drew ?_) | ((with_reducible first | refine Below.alloc ?_ ?_ _ | refine Below.setCell ?_ ?_ _); rotate_left; (first | omega | (simp <;> omega)))))⟩)
    | (go_roundw; (case rel => exact ⟨k + 1, by omega, by omega, by go_num, rfl⟩); (case measure => simp [intOf]; omega))
  ·obtain rfl : k = s.size := by omega
   go_wp2_with fail
   go_ret
   exact ⟨⟨_, rfl⟩, by (repeat (first | (with_reducible first | exact Below.refl _ _ | assumption | refine Below.drew ?_) | ((with_reducible first | refine Below.alloc ?_ ?_ _ | refine Below.setCell ?_ ?_ _); rotate_left; (first | omega | (simp <;> omega)))))⟩
theorem wkey_any (s : ByteArray) (w : World) : Calls Tryz.prog 156 #[.string s] w (SomB w) := by
 by_cases h2 : 1 ≤ (s.size : Int)
 ·go_enter Tryz.func156, Tryz.ntmps156
  go_wp2_with fail
  refine (wprint_any s 48 33 (by decide) _).mono ?_
  rintro e w1 ⟨⟨b, rfl⟩, hb⟩
  go_wp2_with fail
  go_ret
  exact ⟨⟨_, rfl⟩, hb⟩
 ·go_enter Tryz.func156, Tryz.ntmps156
  go_wp2_with fail
  go_ret
  exact ⟨⟨_, rfl⟩, by (repeat (first | (with_reducible first | exact Below.refl _ _ | assumption | refine Below.drew ?_) | ((with_reducible first | refine Below.alloc ?_ ?_ _ | refine Below.setCell ?_ ?_ _); rotate_left; (first | omega | (simp <;> omega)))))⟩
end Go.Proofs.YtpghciiifnjimaaGreatDoor
