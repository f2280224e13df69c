/- Texts laid together: AcF AcG. -/
import Derived.Test.YtpghciiifnjimaaGreatDoorXStA
import Derived.Test.YtpghciiifnjimaaGreatDoorXEzt
import Derived.Deep.QuietTactic
import Derived.BigQuiet
import Derived.Deep.MidRow
import Derived.Test.YtpghciiifnjimaaGreatDoorXK0
namespace Go.Proofs.YtpghciiifnjimaaGreatDoor
set_option maxRecDepth 4000
set_option linter.unusedSimpArgs false
set_option linter.unusedVariables false
open Go.RowKit
theorem RowPro.at {w : World} {A : Option Addr} {n k : Nat} {P : Nat → LPro} (h : RowPro w A n P) (hk : k < n) (hC : PrC (P k).C (P k)) : ∃ b off, A = some ⟨b, off, none⟩ ∧ b < w.heap.size ∧ (∀ j v, (P k).C[j]? = some v → w.cell? ⟨b, off + k * 19 + j, none⟩ = some v) ∧
  w.cell? ⟨b, off + k * 19, none⟩ = some (.string (P k).nm) ∧ w.cell? ⟨b, off + k * 19 + 3, none⟩ = some (.int .i64 (P k).fr) := by
 obtain ⟨b, off, e, hlt, hc⟩ := h.row (by omega)
 exact ⟨b, off, e, hlt, fun j v hv => hc k j v hk hv, hc k 0 _ hk hC.nm, hc k 3 _ hk hC.fr⟩
def pzZ : Array Value := #[.string ⟨#[]⟩, .string ⟨#[]⟩, .string ⟨#[]⟩, .int .i64 0, .int .i64 0, .int .i64 0, .int .i64 0, .slice none 0 0, .bool false, .int .i64 0, .int .i64 0, .bool false, .slice none 0 0, .bool false, .int .i64 0, .int .i64 0, .bool false, .slice none 0 0, .slice none 0 0]
theorem pz_zero : ∃ (i : TypeInfo) (Z : Array Value), Tryz.prog.info? 88 = some i ∧ i.zero = some (.agg Z) ∧ Z.size = 19 := by
 obtain ⟨i, h1, h2⟩ := info_agg (show (Tryz.prog.info? 88).bind (·.zero) = some (.agg pzZ) by kernel_rfl)
 exact ⟨i, pzZ, h1, h2, rfl⟩
theorem pz_built : ∃ C : Array Value, Tryz.prog.built 88 [] = some C ∧ C.size = 19 ∧ C.all (·.oneCell') = true := ⟨pzZ, by kernel_rfl, rfl, by kernel_rfl⟩
theorem pz_size {C : Array Value} (h : C.size = 19) : (Tryz.prog.info? 88).map (·.size) = some C.size := by rw [h]; kernel_rfl
/-- What a version's call answers. -/
def CatRet (P : Nat → LPro) (o : Option Nat) (w : World) (e : Ending) (w' : World) : Prop :=
 ∃ C b, e = .returned (.tuple #[.agg C, .bool b]) ∧ C.size = 19 ∧ C.all (·.oneCell') = true ∧ (match o with | some k => C = (P k).C ∧ b = true | none => b = false) ∧ Below w.heap.size w w'
theorem catRet_some {P : Nat → LPro} {o : Option Nat} {k : Nat} {w w' : World} {e : Ending} (ho : o = some k) (hs : (P k).C.size = 19) (h1 : (P k).C.all (·.oneCell') = true) (he : e = .returned (.tuple #[.agg (P k).C, .bool true])) (hb : Below w.heap.size w w') : CatRet P o w e w' := by
 subst ho
 exact ⟨_, _, he, hs, h1, ⟨rfl, rfl⟩, hb⟩
theorem catRet_none {P : Nat → LPro} {o : Option Nat} {C : Array Value} {w w' : World} {e : Ending} (ho : o = none) (hs : C.size = 19) (h1 : C.all (·.oneCell') = true) (he : e = .returned (.tuple #[.agg C, .bool false])) (hb : Below w.heap.size w w') : CatRet P o w e w' := by
 subst ho
 exact ⟨_, _, he, hs, h1, rfl, hb⟩
def CatI (P : Nat → LPro) (nm : ByteArray) (day : Int) (n : Nat) (W : World) (v8 v : Value) (wr : World) : Prop :=
 ∃ k : Nat, k ≤ n ∧ v = .int .i64 k ∧ v8 = .int .i64 (bstV P nm day k) ∧ Below W.heap.size W wr
set_option maxRecDepth 8000 in
set_option maxHeartbeats 4000000 in
theorem cat_any (A : Option Addr) (n c : Nat) (P : Nat → LPro) (nm : ByteArray) (day : Int) (hn : n ≤ 1000000) (hP : ∀ k, k < n → PrC (P k).C (P k)) (w : World) (hr : RowPro w A n P) :
  Calls Tryz.prog 80 #[.slice A n c, .string nm, .int .i64 day] w (CatRet P (bstP P nm day n) w) := by
 have HR := hide hr
 have HP := hide hP
 clear hr hP
 obtain ⟨i0, Z, hi0, hi1, hi2⟩ := pz_zero
 obtain ⟨Z2, hz0, hz1, hz2⟩ := pz_built
 have HI := hide (And.intro hi0 hi1)
 have HZ := hide (And.intro hz0 (And.intro hz1 hz2))
 have HZ1 := hide hi2
 clear hi0 hi1 hi2 hz0 hz1 hz2
 go_enter Tryz.func80, Tryz.ntmps80
 go_wp2_with (with_reducible refine wpList_alloc_row rfl 88 rfl (some 6) rfl i0 HI.out.1 Z HI.out.2 w.heap.size rfl ?_)
 go_loopw [8, 13] (fun v8 v wr => CatI P nm day n (w.alloc (.cells Z 88)) v8 v wr) (fun _ v _ => n - (intOf v).toNat)
 case atStart => exact ⟨0, by omega, rfl, rfl, Below.refl _ _⟩
 case round =>
  obtain ⟨k, hk, rfl, rfl, hb⟩ := hrel
  have HB := hide hb
  have B1 := hide (show Below w.heap.size w wr from Below.trans belT (hb.mono (by simp)))
  have X1 := hide (blk_below hb (by simp) (blk_new rfl))
  have z1 := hb.size
  simp at z1
  clear hb
  by_cases hlt : k < n
  ·have hm : (k : Int) < n := by omega
   have hk0 : (0 : Int) ≤ k := by omega
   have HK := hide hlt
   obtain ⟨b, off, rfl, hbl, HC, c0, c3⟩ := (HR.out.below B1.out).at hlt (HP.out k hlt)
   have HCC := hide HC
   have HSZ := hide (pz_size (HP.out k hlt).size)
   clear HC hlt hk
   cases h1 : ((P k).nm.toList == nm.toList) with
   | true =>
    have HN := hide h1
    by_cases hfr : (P k).fr ≤ day
    ·have h2 : decide ((P k).fr ≤ day) = true := decide_eq_true hfr
     have HF := hide hfr
     cases hbs : bstP P nm day k with
     | none =>
      have HV := hide (bstV_some (bst_none HN.out HF.out hbs))
      rw [bstV_none hbs]
      clear hbs
      go_wp2_with (first
       | (with_reducible refine wpList_load_midA rfl 88 (.tmp 16) rfl b (off + k * 19) rfl (P k).C _ HCC.out Tryz.underlying88 rfl HSZ.out ?_)
       | (with_reducible refine wpList_alloc_row rfl 88 rfl (some 10) rfl i0 HI.out.1 Z HI.out.2 wr.heap.size rfl ?_)
       | ((with_reducible refine wpList_store_newrow2 rfl 88 (.tmp 10) (.tmp 17) rfl rfl wr.heap.size (P k).C rfl rfl 88 Z (blk_new rfl) HSZ.out (by rw [HZ1.out, (HP.out k HK.out).size]) (HP.out k HK.out).ones ?_); intro w5 hb5 hs5 hx5 hk5))
      have B5 := hide (show Below wr.heap.size wr w5 from Below.trans belT hb5)
      have e0 := (cell_of_cells hx5 0).trans (HP.out k HK.out).nm
      have e3 := (cell_of_cells hx5 3).trans (HP.out k HK.out).fr
      have z5 : wr.heap.size + 1 ≤ w5.heap.size := by rw [hs5]; simp
      clear hb5 hs5 hx5 hk5
      go_quiet (fail)
      go_wp2_with fail
      go_roundw
      case rel => exact ⟨k + 1, HK.out, by go_num, by rw [HV.out], HB.out.trans ((Below.trans B5.out belT).mono (by simp; omega))⟩
      case measure => have := HK.out; simp [intOf]; omega
     | some kb =>
      have hkb := bstP_lt hbs
      have hkb2 : kb < n := by have := HK.out; omega
      have hkb3 : (kb : Int) < n := by omega
      have hkb0 : (0 : Int) ≤ kb := by omega
      have hkb4 : ¬ (kb : Int) < 0 := by omega
      have hd4 : decide ((kb : Int) < 0) = false := decide_eq_false hkb4
      obtain ⟨b', off', e', _, _, _, c3b⟩ := (HR.out.below B1.out).at hkb2 (HP.out kb hkb2)
      injection e' with e'
      injection e' with e1 e2
      subst e1 e2
      have hne : ¬ wr.heap.size = b := by omega
      by_cases hnew : (P kb).fr < (P k).fr
      ·have HV := hide (bstV_some (bst_new HN.out HF.out hbs hnew))
       have h3 : decide ((P kb).fr < (P k).fr) = true := decide_eq_true hnew
       rw [bstV_some hbs]
       clear hbs hkb hkb2
       go_wp2_with (first
        | (with_reducible refine wpList_load_midA rfl 88 (.tmp 16) rfl b (off + k * 19) rfl (P k).C _ HCC.out Tryz.underlying88 rfl HSZ.out ?_)
        | (with_reducible refine wpList_alloc_row rfl 88 rfl (some 10) rfl i0 HI.out.1 Z HI.out.2 wr.heap.size rfl ?_)
        | ((with_reducible refine wpList_store_newrow2 rfl 88 (.tmp 10) (.tmp 17) rfl rfl wr.heap.size (P k).C rfl rfl 88 Z (blk_new rfl) HSZ.out (by rw [HZ1.out, (HP.out k HK.out).size]) (HP.out k HK.out).ones ?_); intro w5 hb5 hs5 hx5 hk5))
       have B5 := hide (show Below wr.heap.size wr w5 from Below.trans belT hb5)
       have e0 := (cell_of_cells hx5 0).trans (HP.out k HK.out).nm
       have e3 := (cell_of_cells hx5 3).trans (HP.out k HK.out).fr
       have z5 : wr.heap.size + 1 ≤ w5.heap.size := by rw [hs5]; simp
       clear hb5 hs5 hx5 hk5
       have c3c := (B5.out.cell (p := ⟨b, off + kb * 19 + 3, none⟩) hbl).trans c3b
       go_quiet (fail)
       go_wp2_with fail
       go_roundw
       case rel => exact ⟨k + 1, HK.out, by go_num, by rw [HV.out], HB.out.trans ((Below.trans B5.out belT).mono (by simp; omega))⟩
       case measure => have := HK.out; simp [intOf]; omega
      ·have HV := hide (show bstV P nm day (k + 1) = bstV P nm day k from by unfold bstV; rw [bst_old hbs (Int.not_lt.1 hnew)])
       have hold := Int.not_lt.1 hnew
       have h3 : decide ((P kb).fr < (P k).fr) = false := decide_eq_false hnew
       clear hnew
       have HW := hide (HV.out.trans (bstV_some hbs))
       rw [bstV_some hbs]
       clear hbs hkb hkb2
       go_wp2_with (first
        | (with_reducible refine wpList_load_midA rfl 88 (.tmp 16) rfl b (off + k * 19) rfl (P k).C _ HCC.out Tryz.underlying88 rfl HSZ.out ?_)
        | (with_reducible refine wpList_alloc_row rfl 88 rfl (some 10) rfl i0 HI.out.1 Z HI.out.2 wr.heap.size rfl ?_)
        | ((with_reducible refine wpList_store_newrow2 rfl 88 (.tmp 10) (.tmp 17) rfl rfl wr.heap.size (P k).C rfl rfl 88 Z (blk_new rfl) HSZ.out (by rw [HZ1.out, (HP.out k HK.out).size]) (HP.out k HK.out).ones ?_); intro w5 hb5 hs5 hx5 hk5))
       have B5 := hide (show Below wr.heap.size wr w5 from Below.trans belT hb5)
       have e0 := (cell_of_cells hx5 0).trans (HP.out k HK.out).nm
       have e3 := (cell_of_cells hx5 3).trans (HP.out k HK.out).fr
       have z5 : wr.heap.size + 1 ≤ w5.heap.size := by rw [hs5]; simp
       clear hb5 hs5 hx5 hk5
       have c3c := (B5.out.cell (p := ⟨b, off + kb * 19 + 3, none⟩) hbl).trans c3b
       go_quiet (fail)
       go_wp2_with fail
       go_roundw
       case rel => exact ⟨k + 1, HK.out, by go_num, by rw [HW.out], HB.out.trans ((Below.trans B5.out belT).mono (by simp; omega))⟩
       case measure => have := HK.out; simp [intOf]; omega
    ·have h2 : decide ((P k).fr ≤ day) = false := decide_eq_false hfr
     have hfr2 := Int.not_le.1 hfr
     have HV := hide (show bstV P nm day (k + 1) = bstV P nm day k from by unfold bstV; rw [bst_fr (Int.not_le.1 hfr)])
     clear hfr
     go_wp2_with (first
      | (with_reducible refine wpList_load_midA rfl 88 (.tmp 16) rfl b (off + k * 19) rfl (P k).C _ HCC.out Tryz.underlying88 rfl HSZ.out ?_)
      | (with_reducible refine wpList_alloc_row rfl 88 rfl (some 10) rfl i0 HI.out.1 Z HI.out.2 wr.heap.size rfl ?_)
      | ((with_reducible refine wpList_store_newrow2 rfl 88 (.tmp 10) (.tmp 17) rfl rfl wr.heap.size (P k).C rfl rfl 88 Z (blk_new rfl) HSZ.out (by rw [HZ1.out, (HP.out k HK.out).size]) (HP.out k HK.out).ones ?_); intro w5 hb5 hs5 hx5 hk5))
     have B5 := hide (show Below wr.heap.size wr w5 from Below.trans belT hb5)
     have e0 := (cell_of_cells hx5 0).trans (HP.out k HK.out).nm
     have e3 := (cell_of_cells hx5 3).trans (HP.out k HK.out).fr
     have z5 : wr.heap.size + 1 ≤ w5.heap.size := by rw [hs5]; simp
     clear hb5 hs5 hx5 hk5
     go_quiet (fail)
     go_wp2_with fail
     go_roundw
     case rel => exact ⟨k + 1, HK.out, by go_num, by rw [HV.out], HB.out.trans ((Below.trans B5.out belT).mono (by simp; omega))⟩
     case measure => have := HK.out; simp [intOf]; omega
   | false =>
    have HV := hide (show bstV P nm day (k + 1) = bstV P nm day k from by unfold bstV; rw [bst_nm h1])
    go_wp2_with (first
     | (with_reducible refine wpList_load_midA rfl 88 (.tmp 16) rfl b (off + k * 19) rfl (P k).C _ HCC.out Tryz.underlying88 rfl HSZ.out ?_)
     | (with_reducible refine wpList_alloc_row rfl 88 rfl (some 10) rfl i0 HI.out.1 Z HI.out.2 wr.heap.size rfl ?_)
     | ((with_reducible refine wpList_store_newrow2 rfl 88 (.tmp 10) (.tmp 17) rfl rfl wr.heap.size (P k).C rfl rfl 88 Z (blk_new rfl) HSZ.out (by rw [HZ1.out, (HP.out k HK.out).size]) (HP.out k HK.out).ones ?_); intro w5 hb5 hs5 hx5 hk5))
    have B5 := hide (show Below wr.heap.size wr w5 from Below.trans belT hb5)
    have e0 := (cell_of_cells hx5 0).trans (HP.out k HK.out).nm
    have e3 := (cell_of_cells hx5 3).trans (HP.out k HK.out).fr
    have z5 : wr.heap.size + 1 ≤ w5.heap.size := by rw [hs5]; simp
    clear hb5 hs5 hx5 hk5
    go_quiet (fail)
    go_wp2_with fail
    go_roundw
    case rel => exact ⟨k + 1, HK.out, by go_num, by rw [HV.out], HB.out.trans ((Below.trans B5.out belT).mono (by simp; omega))⟩
    case measure => have := HK.out; simp [intOf]; omega
  ·obtain rfl : k = n := by omega
   clear hlt hk
   cases hbs : bstP P nm day k with
   | none =>
    have HV := hide hbs
    rw [bstV_none hbs]
    clear hbs
    go_wp2_with (first
     | ((with_reducible refine Go.wpList_buildTo rfl 88 #[] rfl (some 46) rfl Z2 ?_ ?_); (focus (refine Eq.trans (congrArg _ ?_) HZ.out.1; simp [Act.eval])))
     | (with_reducible refine Go.wpList_store_rowTo rfl 88 (.tmp 6) (.tmp 46) rfl rfl w.heap.size Z2 rfl rfl 88 Z X1.out (pz_size HZ.out.2.1) (by rw [HZ1.out, HZ.out.2.1]) HZ.out.2.2 ?_))
    refine bodyPost_ret (v := .tuple #[.agg Z2, .bool false]) (results_row_tmp (fn := Tryz.f80) rfl _ _ w.heap.size 88 Z2 (0, 0) _ rfl (Go.setRow_heap _ _ Z _ _ _ X1.out) _ rfl Tryz.underlying88 rfl (pz_size HZ.out.2.1)) rfl ?_
    exact catRet_none (by first | rfl | exact HV.out) HZ.out.2.1 HZ.out.2.2 rfl (B1.out.trans (below_setRow (Below.refl _ _) (Nat.le_refl _) _))
   | some kb =>
    have hkb := bstP_lt hbs
    have hkb3 : (kb : Int) < k := by omega
    have hkb0 : (0 : Int) ≤ kb := by omega
    have hkb4 : ¬ (kb : Int) < 0 := by omega
    obtain ⟨b, off, rfl, hbl, HC, _, _⟩ := (HR.out.below B1.out).at hkb (HP.out kb hkb)
    have HCC := hide HC
    have HPK := hide (HP.out kb hkb)
    have HSZ := hide (pz_size (HP.out kb hkb).size)
    have HVB := hide hbs
    rw [bstV_some hbs]
    clear HC hbs hkb
    go_wp2_with (first
     | (with_reducible refine wpList_load_midA rfl 88 (.tmp 49) rfl b (off + kb * 19) rfl (P kb).C _ HCC.out Tryz.underlying88 rfl HSZ.out ?_)
     | (with_reducible refine Go.wpList_store_rowTo rfl 88 (.tmp 6) (.tmp 50) rfl rfl w.heap.size (P kb).C rfl rfl 88 Z X1.out HSZ.out (by rw [HZ1.out, HPK.out.size]) HPK.out.ones ?_))
    refine bodyPost_ret (v := .tuple #[.agg (P kb).C, .bool true]) (results_row_tmp (fn := Tryz.f80) rfl _ _ w.heap.size 88 (P kb).C (0, 0) _ rfl (Go.setRow_heap _ _ Z _ _ _ X1.out) _ rfl Tryz.underlying88 rfl HSZ.out) rfl ?_
    exact catRet_some (by first | rfl | exact HVB.out) HPK.out.size HPK.out.ones rfl (B1.out.trans (below_setRow (Below.refl _ _) (Nat.le_refl _) _))
set_option maxRecDepth 8000 in
set_option maxHeartbeats 4000000 in
theorem rcat_any (A : Option Addr) (n c : Nat) (P : Nat → LPro) (nm : ByteArray) (day : Int) (hn : n ≤ 1000000) (hP : ∀ k, k < n → PrC (P k).C (P k)) (w : World) (hr : RowPro w A n P) :
  Calls Tryz.prog 151 #[.slice A n c, .string nm, .int .i64 day] w (CatRet P (bstP P nm day n) w) := by
 have HR := hide hr
 have HP := hide hP
 clear hr hP
 obtain ⟨i0, Z, hi0, hi1, hi2⟩ := pz_zero
 obtain ⟨Z2, hz0, hz1, hz2⟩ := pz_built
 have HI := hide (And.intro hi0 hi1)
 have HZ := hide (And.intro hz0 (And.intro hz1 hz2))
 have HZ1 := hide hi2
 clear hi0 hi1 hi2 hz0 hz1 hz2
 go_enter Tryz.func151, Tryz.ntmps151
 go_wp2_with (with_reducible refine wpList_alloc_row rfl 88 rfl (some 6) rfl i0 HI.out.1 Z HI.out.2 w.heap.size rfl ?_)
 go_loopw [8, 9] (fun v8 v wr => CatI P nm day n (w.alloc (.cells Z 88)) v8 v wr) (fun _ v _ => n - (intOf v).toNat)
 case atStart => exact ⟨0, by omega, rfl, rfl, Below.refl _ _⟩
 case round =>
  obtain ⟨k, hk, rfl, rfl, hb⟩ := hrel
  have HB := hide hb
  have B1 := hide (show Below w.heap.size w wr from Below.trans belT (hb.mono (by simp)))
  have X1 := hide (blk_below hb (by simp) (blk_new rfl))
  have z1 := hb.size
  simp at z1
  clear hb
  by_cases hlt : k < n
  ·have hm : (k : Int) < n := by omega
   have hk0 : (0 : Int) ≤ k := by omega
   have HK := hide hlt
   obtain ⟨b, off, rfl, hbl, HC, c0, c3⟩ := (HR.out.below B1.out).at hlt (HP.out k hlt)
   have HCC := hide HC
   have HSZ := hide (pz_size (HP.out k hlt).size)
   clear HC hlt hk
   cases h1 : ((P k).nm.toList == nm.toList) with
   | true =>
    have HN := hide h1
    by_cases hfr : (P k).fr ≤ day
    ·have h2 : decide ((P k).fr ≤ day) = true := decide_eq_true hfr
     have HF := hide hfr
     cases hbs : bstP P nm day k with
     | none =>
      have HV := hide (bstV_some (bst_none HN.out HF.out hbs))
      rw [bstV_none hbs]
      clear hbs
      go_wp2_with fail
      go_quiet (fail)
      go_wp2_with fail
      go_roundw
      case rel => exact ⟨k + 1, HK.out, by go_num, by rw [HV.out], HB.out.trans belT⟩
      case measure => have := HK.out; simp [intOf]; omega
     | some kb =>
      have hkb := bstP_lt hbs
      have hkb2 : kb < n := by have := HK.out; omega
      have hkb3 : (kb : Int) < n := by omega
      have hkb0 : (0 : Int) ≤ kb := by omega
      have hkb4 : ¬ (kb : Int) < 0 := by omega
      have hd4 : decide ((kb : Int) < 0) = false := decide_eq_false hkb4
      obtain ⟨b', off', e', _, _, _, c3b⟩ := (HR.out.below B1.out).at hkb2 (HP.out kb hkb2)
      injection e' with e'
      injection e' with e1 e2
      subst e1 e2
      have hne : ¬ wr.heap.size = b := by omega
      by_cases hnew : (P kb).fr < (P k).fr
      ·have HV := hide (bstV_some (bst_new HN.out HF.out hbs hnew))
       have h3 : decide ((P kb).fr < (P k).fr) = true := decide_eq_true hnew
       rw [bstV_some hbs]
       clear hbs hkb hkb2
       go_wp2_with fail
       go_quiet (fail)
       go_wp2_with fail
       go_roundw
       case rel => exact ⟨k + 1, HK.out, by go_num, by rw [HV.out], HB.out.trans belT⟩
       case measure => have := HK.out; simp [intOf]; omega
      ·have HV := hide (show bstV P nm day (k + 1) = bstV P nm day k from by unfold bstV; rw [bst_old hbs (Int.not_lt.1 hnew)])
       have hold := Int.not_lt.1 hnew
       have h3 : decide ((P kb).fr < (P k).fr) = false := decide_eq_false hnew
       clear hnew
       have HW := hide (HV.out.trans (bstV_some hbs))
       rw [bstV_some hbs]
       clear hbs hkb hkb2
       go_wp2_with fail
       go_quiet (fail)
       go_wp2_with fail
       go_roundw
       case rel => exact ⟨k + 1, HK.out, by go_num, by rw [HW.out], HB.out.trans belT⟩
       case measure => have := HK.out; simp [intOf]; omega
    ·have h2 : decide ((P k).fr ≤ day) = false := decide_eq_false hfr
     have hfr2 := Int.not_le.1 hfr
     have HV := hide (show bstV P nm day (k + 1) = bstV P nm day k from by unfold bstV; rw [bst_fr (Int.not_le.1 hfr)])
     clear hfr
     go_wp2_with fail
     go_quiet (fail)
     go_wp2_with fail
     go_roundw
     case rel => exact ⟨k + 1, HK.out, by go_num, by rw [HV.out], HB.out.trans belT⟩
     case measure => have := HK.out; simp [intOf]; omega
   | false =>
    have HV := hide (show bstV P nm day (k + 1) = bstV P nm day k from by unfold bstV; rw [bst_nm h1])
    go_wp2_with fail
    go_quiet (fail)
    go_wp2_with fail
    go_roundw
    case rel => exact ⟨k + 1, HK.out, by go_num, by rw [HV.out], HB.out.trans belT⟩
    case measure => have := HK.out; simp [intOf]; omega
  ·obtain rfl : k = n := by omega
   clear hlt hk
   cases hbs : bstP P nm day k with
   | none =>
    have HV := hide hbs
    rw [bstV_none hbs]
    clear hbs
    go_wp2_with (first
     | ((with_reducible refine Go.wpList_buildTo rfl 88 #[] rfl (some 52) rfl Z2 ?_ ?_); (focus (refine Eq.trans (congrArg _ ?_) HZ.out.1; simp [Act.eval])))
     | (with_reducible refine Go.wpList_store_rowTo rfl 88 (.tmp 6) (.tmp 52) rfl rfl w.heap.size Z2 rfl rfl 88 Z X1.out (pz_size HZ.out.2.1) (by rw [HZ1.out, HZ.out.2.1]) HZ.out.2.2 ?_))
    refine bodyPost_ret (v := .tuple #[.agg Z2, .bool false]) (results_row_tmp (fn := Tryz.f151) rfl _ _ w.heap.size 88 Z2 (0, 0) _ rfl (Go.setRow_heap _ _ Z _ _ _ X1.out) _ rfl Tryz.underlying88 rfl (pz_size HZ.out.2.1)) rfl ?_
    exact catRet_none (by first | rfl | exact HV.out) HZ.out.2.1 HZ.out.2.2 rfl (B1.out.trans (below_setRow (Below.refl _ _) (Nat.le_refl _) _))
   | some kb =>
    have hkb := bstP_lt hbs
    have hkb3 : (kb : Int) < k := by omega
    have hkb0 : (0 : Int) ≤ kb := by omega
    have hkb4 : ¬ (kb : Int) < 0 := by omega
    obtain ⟨b, off, rfl, hbl, HC, _, _⟩ := (HR.out.below B1.out).at hkb (HP.out kb hkb)
    have HCC := hide HC
    have HPK := hide (HP.out kb hkb)
    have HSZ := hide (pz_size (HP.out kb hkb).size)
    have HVB := hide hbs
    rw [bstV_some hbs]
    clear HC hbs hkb
    go_wp2_with (first
     | (with_reducible refine wpList_load_midA rfl 88 (.tmp 55) rfl b (off + kb * 19) rfl (P kb).C _ HCC.out Tryz.underlying88 rfl HSZ.out ?_)
     | (with_reducible refine Go.wpList_store_rowTo rfl 88 (.tmp 6) (.tmp 56) rfl rfl w.heap.size (P kb).C rfl rfl 88 Z X1.out HSZ.out (by rw [HZ1.out, HPK.out.size]) HPK.out.ones ?_))
    refine bodyPost_ret (v := .tuple #[.agg (P kb).C, .bool true]) (results_row_tmp (fn := Tryz.f151) rfl _ _ w.heap.size 88 (P kb).C (0, 0) _ rfl (Go.setRow_heap _ _ Z _ _ _ X1.out) _ rfl Tryz.underlying88 rfl HSZ.out) rfl ?_
    exact catRet_some (by first | rfl | exact HVB.out) HPK.out.size HPK.out.ones rfl (B1.out.trans (below_setRow (Below.refl _ _) (Nat.le_refl _) _))
end Go.Proofs.YtpghciiifnjimaaGreatDoor
namespace Go.Proofs.YtpghciiifnjimaaGreatDoor
set_option maxRecDepth 4000
set_option linter.unusedSimpArgs false
set_option linter.unusedVariables false
open Go.RowKit
theorem bk_size {B : LBk} (h : BkOK B) : (Tryz.prog.info? 33).map (·.size) = some B.C.size := by rw [h.bks.size]; kernel_rfl
set_option maxRecDepth 4000 in
set_option maxHeartbeats 2000000 in
theorem active_any (B : LBk) (hB : BkOK B) (id day : Int) (w : World) (hw : BkIn w B) :
  Calls Tryz.prog 74 #[.agg B.C, .int .i64 id, .int .i64 day] w fun e w' => e = .returned (.bool (actB B id day)) ∧ Below w.heap.size w w' := by
 have HB := hide hB
 have HW := hide hw
 have HS := hide (bk_size hB)
 have h17 := hB.pro
 obtain ⟨x, hx⟩ : ∃ x, x = getA B.a id B.an := ⟨_, rfl⟩
 obtain ⟨h, hh⟩ : ∃ h, h = hasA B.a id B.an := ⟨_, rfl⟩
 have HF := hide (fun W hr => by have t := find_any B.C B.aA B.an B.ac B.jA B.jn B.jc HB.out.bks B.a id HB.out.an W hr; rw [← hx, ← hh] at t; exact t)
 have HA := hide (show actB B id day = (h && actL x day) from by unfold actB; rw [hx, hh])
 clear hx hh hB hw h17
 cases h with
 | false =>
  have HV := hide (show actB B id day = false from by rw [HA.out]; rfl)
  go_enter Tryz.func74, Tryz.ntmps74
  go_wp2_with (with_reducible refine wpList_load_row rfl 33 (.tmp 3) rfl w.heap.size rfl 33 B.C (0, 0) _ (blk_new rfl) Tryz.underlying33 rfl HS.out ?_)
  refine (HF.out _ (HW.out.acc.below belT)).mono ?_
  rintro e w1 ⟨rfl, hb⟩
  have q1B : Below w.heap.size w w1 := qB hb
  have q1z := hb.size
  try simp at q1z
  have q1t : w.heap.size ≤ w1.heap.size := (by omega)
  have q1o := belO q1B
  clear hb
  go_wp2_with fail
  go_ret
  exact ⟨by rw [HV.out]; rfl, by refine q1B.trans ?_; (repeat (first | (with_reducible first | exact Below.refl _ _ | assumption | refine Below.drew ?_ | refine below_drewN ?_ _) | ((with_reducible first | refine Below.alloc ?_ ?_ _ | refine Below.setCell ?_ ?_ _); rotate_left; (first | omega | (simp <;> omega)))))⟩
 | true =>
  by_cases h1 : x.op ≤ day
  ·have d1 : decide (x.op ≤ day) = true := decide_eq_true h1
   cases h2 : (x.cl == 0) with
   | true =>
    have HV := hide (show actB B id day = true from by rw [HA.out]; unfold actL; rw [d1, h2]; rfl)
    go_enter Tryz.func74, Tryz.ntmps74
    go_wp2_with (with_reducible refine wpList_load_row rfl 33 (.tmp 3) rfl w.heap.size rfl 33 B.C (0, 0) _ (blk_new rfl) Tryz.underlying33 rfl HS.out ?_)
    refine (HF.out _ (HW.out.acc.below belT)).mono ?_
    rintro e w1 ⟨rfl, hb⟩
    have q1B : Below w.heap.size w w1 := qB hb
    have q1z := hb.size
    try simp at q1z
    have q1t : w.heap.size ≤ w1.heap.size := (by omega)
    have q1o := belO q1B
    clear hb
    go_wp2_with fail
    go_ret
    exact ⟨by rw [HV.out]; rfl, by refine q1B.trans ?_; (repeat (first | (with_reducible first | exact Below.refl _ _ | assumption | refine Below.drew ?_ | refine below_drewN ?_ _) | ((with_reducible first | refine Below.alloc ?_ ?_ _ | refine Below.setCell ?_ ?_ _); rotate_left; (first | omega | (simp <;> omega)))))⟩
   | false =>
    by_cases h3 : day < x.cl
    ·have d3 : decide (day < x.cl) = true := decide_eq_true h3
     have HV := hide (show actB B id day = true from by rw [HA.out]; unfold actL; rw [d1, h2, d3]; rfl)
     go_enter Tryz.func74, Tryz.ntmps74
     go_wp2_with (with_reducible refine wpList_load_row rfl 33 (.tmp 3) rfl w.heap.size rfl 33 B.C (0, 0) _ (blk_new rfl) Tryz.underlying33 rfl HS.out ?_)
     refine (HF.out _ (HW.out.acc.below belT)).mono ?_
     rintro e w1 ⟨rfl, hb⟩
     have q1B : Below w.heap.size w w1 := qB hb
     have q1z := hb.size
     try simp at q1z
     have q1t : w.heap.size ≤ w1.heap.size := (by omega)
     have q1o := belO q1B
     clear hb
     go_wp2_with fail
     go_ret
     exact ⟨by rw [HV.out]; rfl, by refine q1B.trans ?_; (repeat (first | (with_reducible first | exact Below.refl _ _ | assumption | refine Below.drew ?_ | refine below_drewN ?_ _) | ((with_reducible first | refine Below.alloc ?_ ?_ _ | refine Below.setCell ?_ ?_ _); rotate_left; (first | omega | (simp <;> omega)))))⟩
    ·have d3 : decide (day < x.cl) = false := decide_eq_false h3
     have HV := hide (show actB B id day = false from by rw [HA.out]; unfold actL; rw [d1, h2, d3]; rfl)
     have h4 := Int.not_lt.1 h3
     clear h3
     go_enter Tryz.func74, Tryz.ntmps74
     go_wp2_with (with_reducible refine wpList_load_row rfl 33 (.tmp 3) rfl w.heap.size rfl 33 B.C (0, 0) _ (blk_new rfl) Tryz.underlying33 rfl HS.out ?_)
     refine (HF.out _ (HW.out.acc.below belT)).mono ?_
     rintro e w1 ⟨rfl, hb⟩
     have q1B : Below w.heap.size w w1 := qB hb
     have q1z := hb.size
     try simp at q1z
     have q1t : w.heap.size ≤ w1.heap.size := (by omega)
     have q1o := belO q1B
     clear hb
     go_wp2_with fail
     go_ret
     exact ⟨by rw [HV.out]; rfl, by refine q1B.trans ?_; (repeat (first | (with_reducible first | exact Below.refl _ _ | assumption | refine Below.drew ?_ | refine below_drewN ?_ _) | ((with_reducible first | refine Below.alloc ?_ ?_ _ | refine Below.setCell ?_ ?_ _); rotate_left; (first | omega | (simp <;> omega)))))⟩
  ·have d1 : decide (x.op ≤ day) = false := decide_eq_false h1
   have HV := hide (show actB B id day = false from by rw [HA.out]; unfold actL; rw [d1]; rfl)
   have h4 := Int.not_le.1 h1
   clear h1
   go_enter Tryz.func74, Tryz.ntmps74
   go_wp2_with (with_reducible refine wpList_load_row rfl 33 (.tmp 3) rfl w.heap.size rfl 33 B.C (0, 0) _ (blk_new rfl) Tryz.underlying33 rfl HS.out ?_)
   refine (HF.out _ (HW.out.acc.below belT)).mono ?_
   rintro e w1 ⟨rfl, hb⟩
   have q1B : Below w.heap.size w w1 := qB hb
   have q1z := hb.size
   try simp at q1z
   have q1t : w.heap.size ≤ w1.heap.size := (by omega)
   have q1o := belO q1B
   clear hb
   go_wp2_with fail
   go_ret
   exact ⟨by rw [HV.out]; rfl, by refine q1B.trans ?_; (repeat (first | (with_reducible first | exact Below.refl _ _ | assumption | refine Below.drew ?_ | refine below_drewN ?_ _) | ((with_reducible first | refine Below.alloc ?_ ?_ _ | refine Below.setCell ?_ ?_ _); rotate_left; (first | omega | (simp <;> omega)))))⟩
set_option maxRecDepth 4000 in
set_option maxHeartbeats 2000000 in
theorem ractive_any (B : LBk) (hB : BkOK B) (id day : Int) (w : World) (hw : BkIn w B) :
  Calls Tryz.prog 203 #[.agg B.C, .int .i64 id, .int .i64 day] w fun e w' => e = .returned (.bool (actB B id day)) ∧ Below w.heap.size w w' := by
 have HB := hide hB
 have HW := hide hw
 have HS := hide (bk_size hB)
 have h17 := hB.pro
 obtain ⟨x, hx⟩ : ∃ x, x = getA B.a id B.an := ⟨_, rfl⟩
 obtain ⟨h, hh⟩ : ∃ h, h = hasA B.a id B.an := ⟨_, rfl⟩
 have HF := hide (fun W hr => by have t := rfind_any B.C B.aA B.an B.ac B.jA B.jn B.jc HB.out.bks B.a id HB.out.an W hr; rw [← hx, ← hh] at t; exact t)
 have HA := hide (show actB B id day = (h && actL x day) from by unfold actB; rw [hx, hh])
 clear hx hh hB hw h17
 cases h with
 | false =>
  have HV := hide (show actB B id day = false from by rw [HA.out]; rfl)
  go_enter Tryz.func203, Tryz.ntmps203
  go_wp2_with (with_reducible refine wpList_load_row rfl 33 (.tmp 3) rfl w.heap.size rfl 33 B.C (0, 0) _ (blk_new rfl) Tryz.underlying33 rfl HS.out ?_)
  refine (HF.out _ (HW.out.acc.below belT)).mono ?_
  rintro e w1 ⟨rfl, hb⟩
  have q1B : Below w.heap.size w w1 := qB hb
  have q1z := hb.size
  try simp at q1z
  have q1t : w.heap.size ≤ w1.heap.size := (by omega)
  have q1o := belO q1B
  clear hb
  go_wp2_with fail
  go_ret
  exact ⟨by rw [HV.out]; rfl, by refine q1B.trans ?_; (repeat (first | (with_reducible first | exact Below.refl _ _ | assumption | refine Below.drew ?_ | refine below_drewN ?_ _) | ((with_reducible first | refine Below.alloc ?_ ?_ _ | refine Below.setCell ?_ ?_ _); rotate_left; (first | omega | (simp <;> omega)))))⟩
 | true =>
  by_cases h1 : x.op ≤ day
  ·have d1 : decide (x.op ≤ day) = true := decide_eq_true h1
   cases h2 : (x.cl == 0) with
   | true =>
    have HV := hide (show actB B id day = true from by rw [HA.out]; unfold actL; rw [d1, h2]; rfl)
    go_enter Tryz.func203, Tryz.ntmps203
    go_wp2_with (with_reducible refine wpList_load_row rfl 33 (.tmp 3) rfl w.heap.size rfl 33 B.C (0, 0) _ (blk_new rfl) Tryz.underlying33 rfl HS.out ?_)
    refine (HF.out _ (HW.out.acc.below belT)).mono ?_
    rintro e w1 ⟨rfl, hb⟩
    have q1B : Below w.heap.size w w1 := qB hb
    have q1z := hb.size
    try simp at q1z
    have q1t : w.heap.size ≤ w1.heap.size := (by omega)
    have q1o := belO q1B
    clear hb
    go_wp2_with fail
    go_ret
    exact ⟨by rw [HV.out]; rfl, by refine q1B.trans ?_; (repeat (first | (with_reducible first | exact Below.refl _ _ | assumption | refine Below.drew ?_ | refine below_drewN ?_ _) | ((with_reducible first | refine Below.alloc ?_ ?_ _ | refine Below.setCell ?_ ?_ _); rotate_left; (first | omega | (simp <;> omega)))))⟩
   | false =>
    by_cases h3 : day < x.cl
    ·have d3 : decide (day < x.cl) = true := decide_eq_true h3
     have HV := hide (show actB B id day = true from by rw [HA.out]; unfold actL; rw [d1, h2, d3]; rfl)
     go_enter Tryz.func203, Tryz.ntmps203
     go_wp2_with (with_reducible refine wpList_load_row rfl 33 (.tmp 3) rfl w.heap.size rfl 33 B.C (0, 0) _ (blk_new rfl) Tryz.underlying33 rfl HS.out ?_)
     refine (HF.out _ (HW.out.acc.below belT)).mono ?_
     rintro e w1 ⟨rfl, hb⟩
     have q1B : Below w.heap.size w w1 := qB hb
     have q1z := hb.size
     try simp at q1z
     have q1t : w.heap.size ≤ w1.heap.size := (by omega)
     have q1o := belO q1B
     clear hb
     go_wp2_with fail
     go_ret
     exact ⟨by rw [HV.out]; rfl, by refine q1B.trans ?_; (repeat (first | (with_reducible first | exact Below.refl _ _ | assumption | refine Below.drew ?_ | refine below_drewN ?_ _) | ((with_reducible first | refine Below.alloc ?_ ?_ _ | refine Below.setCell ?_ ?_ _); rotate_left; (first | omega | (simp <;> omega)))))⟩
    ·have d3 : decide (day < x.cl) = false := decide_eq_false h3
     have HV := hide (show actB B id day = false from by rw [HA.out]; unfold actL; rw [d1, h2, d3]; rfl)
     have h4 := Int.not_lt.1 h3
     clear h3
     go_enter Tryz.func203, Tryz.ntmps203
     go_wp2_with (with_reducible refine wpList_load_row rfl 33 (.tmp 3) rfl w.heap.size rfl 33 B.C (0, 0) _ (blk_new rfl) Tryz.underlying33 rfl HS.out ?_)
     refine (HF.out _ (HW.out.acc.below belT)).mono ?_
     rintro e w1 ⟨rfl, hb⟩
     have q1B : Below w.heap.size w w1 := qB hb
     have q1z := hb.size
     try simp at q1z
     have q1t : w.heap.size ≤ w1.heap.size := (by omega)
     have q1o := belO q1B
     clear hb
     go_wp2_with fail
     go_ret
     exact ⟨by rw [HV.out]; rfl, by refine q1B.trans ?_; (repeat (first | (with_reducible first | exact Below.refl _ _ | assumption | refine Below.drew ?_ | refine below_drewN ?_ _) | ((with_reducible first | refine Below.alloc ?_ ?_ _ | refine Below.setCell ?_ ?_ _); rotate_left; (first | omega | (simp <;> omega)))))⟩
  ·have d1 : decide (x.op ≤ day) = false := decide_eq_false h1
   have HV := hide (show actB B id day = false from by rw [HA.out]; unfold actL; rw [d1]; rfl)
   have h4 := Int.not_le.1 h1
   clear h1
   go_enter Tryz.func203, Tryz.ntmps203
   go_wp2_with (with_reducible refine wpList_load_row rfl 33 (.tmp 3) rfl w.heap.size rfl 33 B.C (0, 0) _ (blk_new rfl) Tryz.underlying33 rfl HS.out ?_)
   refine (HF.out _ (HW.out.acc.below belT)).mono ?_
   rintro e w1 ⟨rfl, hb⟩
   have q1B : Below w.heap.size w w1 := qB hb
   have q1z := hb.size
   try simp at q1z
   have q1t : w.heap.size ≤ w1.heap.size := (by omega)
   have q1o := belO q1B
   clear hb
   go_wp2_with fail
   go_ret
   exact ⟨by rw [HV.out]; rfl, by refine q1B.trans ?_; (repeat (first | (with_reducible first | exact Below.refl _ _ | assumption | refine Below.drew ?_ | refine below_drewN ?_ _) | ((with_reducible first | refine Below.alloc ?_ ?_ _ | refine Below.setCell ?_ ?_ _); rotate_left; (first | omega | (simp <;> omega)))))⟩
set_option maxRecDepth 8000 in
set_option maxHeartbeats 4000000 in
theorem product_any (B : LBk) (hB : BkOK B) (id day : Int) (w : World) (hw : BkIn w B) :
  Calls Tryz.prog 36 #[.agg B.C, .int .i64 id, .int .i64 day] w (CatRet B.P (prdB B id day) w) := by
 obtain ⟨i0, Z, hi0, hi1, hi2⟩ := pz_zero
 obtain ⟨Z2, hz0, hz1, hz2⟩ := pz_built
 have HI := hide (And.intro hi0 hi1)
 have HZ := hide (And.intro hz0 (And.intro hz1 hz2))
 have HZ1 := hide hi2
 have HB := hide hB
 have HW := hide hw
 have HS := hide (bk_size hB)
 have h17 := hB.pro
 obtain ⟨x, hx⟩ : ∃ x, x = getA B.a id B.an := ⟨_, rfl⟩
 obtain ⟨h, hh⟩ : ∃ h, h = hasA B.a id B.an := ⟨_, rfl⟩
 have HF := hide (fun W hr => by have t := find_any B.C B.aA B.an B.ac B.jA B.jn B.jc HB.out.bks B.a id HB.out.an W hr; rw [← hx, ← hh] at t; exact t)
 have HA := hide (show prdB B id day = if h = true then bstP B.P x.pr day B.pn else none from by unfold prdB; rw [hx, hh])
 clear hx hh hB hw hi0 hi1 hi2 hz0 hz1 hz2
 cases h with
 | false =>
  have HV := hide (show prdB B id day = none from by rw [HA.out]; rfl)
  go_enter Tryz.func36, Tryz.ntmps36
  go_wp2_with (first
   | (with_reducible refine wpList_load_row rfl 33 (.tmp 3) rfl w.heap.size rfl 33 B.C (0, 0) _ (two_boxes _ _ _) Tryz.underlying33 rfl HS.out ?_)
   | (with_reducible refine wpList_alloc_row rfl 88 rfl (some 6) rfl i0 HI.out.1 Z HI.out.2 (w.heap.size + 1) (by simp) ?_))
  refine (HF.out _ (HW.out.acc.below belT)).mono ?_
  rintro e w1 ⟨rfl, hb⟩
  have X1 := hide (blk_below hb (by simp) (blk_new (k := w.heap.size + 1) (by simp)))
  have q1B : Below w.heap.size w w1 := qB hb
  have q1z := hb.size
  try simp at q1z
  have q1t : w.heap.size ≤ w1.heap.size := (by omega)
  have q1o := belO q1B
  clear hb
  have zz : w.heap.size + 1 < w1.heap.size := by omega
  go_wp2_with (first
   | ((with_reducible refine Go.wpList_buildTo rfl 88 #[] rfl (some 18) rfl Z2 ?_ ?_); (focus (refine Eq.trans (congrArg _ ?_) HZ.out.1; simp [Act.eval])))
   | (with_reducible refine Go.wpList_store_rowTo rfl 88 (.tmp 6) (.tmp 18) rfl rfl (w.heap.size + 1) Z2 rfl rfl 88 Z (blk_under X1.out) (pz_size HZ.out.2.1) (by rw [HZ1.out, HZ.out.2.1]) HZ.out.2.2 ?_))
  refine bodyPost_ret (v := .tuple #[.agg Z2, .bool false]) (results_row_tmp (fn := Tryz.f36) rfl _ _ (w.heap.size + 1) 88 Z2 (0, 0) _ rfl (Go.setRow_heap _ _ Z _ _ _ (blk_under X1.out)) _ rfl Tryz.underlying88 rfl (pz_size HZ.out.2.1)) rfl ?_
  exact catRet_none HV.out HZ.out.2.1 HZ.out.2.2 rfl (below_setRow (q1B.trans belT) (by omega) _)
 | true =>
  have HV := hide (show prdB B id day = bstP B.P x.pr day B.pn from by rw [HA.out]; rfl)
  go_enter Tryz.func36, Tryz.ntmps36
  go_wp2_with (first
   | (with_reducible refine wpList_load_row rfl 33 (.tmp 3) rfl w.heap.size rfl 33 B.C (0, 0) _ (two_boxes _ _ _) Tryz.underlying33 rfl HS.out ?_)
   | (with_reducible refine wpList_alloc_row rfl 88 rfl (some 6) rfl i0 HI.out.1 Z HI.out.2 (w.heap.size + 1) (by simp) ?_))
  refine (HF.out _ (HW.out.acc.below belT)).mono ?_
  rintro e w1 ⟨rfl, hb⟩
  have X1 := hide (blk_below hb (by simp) (blk_new (k := w.heap.size + 1) (by simp)))
  have q1B : Below w.heap.size w w1 := qB hb
  have q1z := hb.size
  try simp at q1z
  have q1t : w.heap.size ≤ w1.heap.size := (by omega)
  obtain ⟨q1s0, q1n0_0, q1n0_1, q1n0_2⟩ := kB w1.heap.size w.heap.size
  have q1c0_17 := cel hb w.heap.size 17
  simp [go_sem, *] at q1c0_17
  have q1f0 := fun o => fro hb w.heap.size o
  simp [go_sem, *] at q1f0
  have q1o := belO q1B
  clear hb
  have zz : w.heap.size + 1 < w1.heap.size := by omega
  go_wp2_with fail
  refine (cat_any B.pA B.pn B.pc B.P x.pr day HB.out.pn HB.out.cells _ (HW.out.pro.below (q1B.trans belT))).mono ?_
  rintro e w2 ⟨C, b, rfl, hs, h1, ho, hb⟩
  have X2 := hide (blk_below hb (by simp; omega) (blk_under X1.out))
  have HH := hide (And.intro hs (And.intro h1 ho))
  have Ba : Below w.heap.size w1 (w1.alloc (.cells #[.int .i64 x.id, .int .i64 x.op, .int .i64 x.cl, .int .i64 x.ex, .string x.ow, .string x.pr, .string x.nu] 44)) := by (repeat (first | (with_reducible first | exact Below.refl _ _ | assumption | refine Below.drew ?_ | refine below_drewN ?_ _) | ((with_reducible first | refine Below.alloc ?_ ?_ _ | refine Below.setCell ?_ ?_ _); rotate_left; (first | omega | (simp <;> omega)))))
  have B2 := hide (q1B.trans (Ba.trans (hb.mono (by simp; omega))))
  clear hs h1 ho hb
  go_wp2_with (with_reducible refine Go.wpList_store_rowTo rfl 88 (.tmp 6) (.tmp 25) rfl rfl (w.heap.size + 1) C rfl rfl 88 Z X2.out (pz_size HH.out.1) (by rw [HZ1.out, HH.out.1]) HH.out.2.1 ?_)
  refine bodyPost_ret (v := .tuple #[.agg C, .bool b]) (results_row_tmp (fn := Tryz.f36) rfl _ _ (w.heap.size + 1) 88 C (0, 0) _ rfl (Go.setRow_heap _ _ Z _ _ _ X2.out) _ rfl Tryz.underlying88 rfl (pz_size HH.out.1)) rfl ?_
  exact ⟨C, b, rfl, HH.out.1, HH.out.2.1, by rw [HV.out]; exact HH.out.2.2, below_setRow B2.out (by omega) _⟩
end Go.Proofs.YtpghciiifnjimaaGreatDoor
