/- Texts laid together: ClB. -/
import Derived.Test.YtdjhkhadjmndoaaDoorQClA
namespace Go.Proofs.YtdjhkhadjmndoaaDoor
set_option maxRecDepth 4000
set_option linter.unusedSimpArgs false
set_option linter.unusedVariables false
open Go.RowKit
theorem ones_of {D : Array Value} (h : D.all (·.oneCell') = true) : ∀ u ∈ D.toList, u.oneCell' = true := fun u hu => by
  rw [Array.all_eq_true'] at h
  exact h u (by simpa using hu)
theorem inf_Expr : (Tryd.prog.info? 79).map (fun i => (i.zero, i.size, i.bytes)) = some (some (.agg #[.int .i64 0, .int .i64 0, .string ⟨#[]⟩, .slice none 0 0]), 4, 56) := by kernel_rfl
theorem siz_Expr : (Tryd.prog.info? 79).map (·.size) = some 4 := by kernel_rfl
set_option maxRecDepth 20000 in
set_option maxHeartbeats 4000000 in
theorem each_Expr (n : Nat) (c : Nat → Nat → Tr) (hF : ∀ k, k < n → FnOK Tryd.prog 5 (c k) 88) (hK : RowK 5 n c) (A : Option Addr) (cap : Nat) (C : Nat → Nat → Value) (w : World) (hr : RowT (Old w) w 5 A n c C) :
    Calls Tryd.prog 102 #[.slice A n cap, .func (.func 88) #[] #[]] w (SlRet 5 n c w) := by
  obtain ⟨i0, hi0, hz00, hz1, hz2⟩ := info_parts inf_Expr
  have I0 := hide hi0
  have I1 := hide hz00
  have I2 := hide hz1
  have I3 := hide hz2
  have HF := hide hF
  have HK := hide hK
  have HR := hide hr
  have hn1 : n ≤ 140737488351232 := by have := hK.room; simp only [tby] at this; omega
  have HN := hide (show n * 56 ≤ 140737488351232 from hK.room)
  clear hF hK hr hi0 hz00 hz1 hz2
  go_enter Tryd.func102, Tryd.ntmps102
  go_wp2_with (with_reducible refine wpList_make_own _ rfl (.const (.int .i64 0)) (.tmp 9) 77 rfl w.heap.size 79 i0 (.agg #[.int .i64 0, .int .i64 0, .string ⟨#[]⟩, .slice none 0 0]) 4 Tryd.underlying77 I0.out I1.out I2.out .i64 .i64 (n : Int) n rfl rfl rfl (by rw [I3.out]; have := HN.out; omega) (by simp only [maxLen]; omega) (by simp) ?_; intro w1 ho1 hg1)
  have HO1 := hide ho1
  have HB1 := hide (below_grown (B := w.heap.size) hg1 (Nat.le_refl _) (fun k hk => by cases hk))
  clear ho1 hg1
  go_loopw [5, 13] (fun v5 v13 wr => EachI 79 5 n c w.heap.size w v5 v13 wr) (fun _ v _ => n - (intOf v).toNat)
  case atStart => exact ⟨0, _, n, fun _ => #[], by omega, rfl, rfl, HO1.out, fun i hi => by omega, HB1.out, HB1.out.size⟩
  case round =>
    have hst := hrel
    obtain ⟨k, A', cap', R, hk, rfl, rfl, ho, hRk, hB, hBs⟩ := hrel
    have HO := hide ho
    have HRk := hide hRk
    have HB := hide hB
    have HBs := hide hBs
    have HST := hide hst
    clear ho hRk hB hst hBs
    by_cases hlt : k < n
    · have hm : (k : Int) < n := by omega
      have hk0 : (0 : Int) ≤ k := by omega
      have HLT := hide hlt
      obtain ⟨b, off, rfl, hbl, hc⟩ := (HR.out.below HB.out).cells (by decide) hlt
      have HCC := hide (show ∀ j v, (elA 5 C k)[j]? = some v → wr.cell? ⟨b, off + k * 4 + j, none⟩ = some v from hc)
      have HEL := hide ((HR.out.below HB.out).el HK.out hlt)
      have HSZ := hide (show (Tryd.prog.info? 79).map (·.size) = some (elA 5 C k).size by rw [elA_size]; exact siz_Expr)
      obtain ⟨X, hX⟩ : ∃ X, X = elA 5 C k := ⟨_, rfl⟩
      rw [← hX] at HCC HEL HSZ
      have HZS := hide (show (#[.int .i64 0, .int .i64 0, .string ⟨#[]⟩, .slice none 0 0] : Array Value).size = X.size from HEL.out.size.symm)
      have HLN := hide (fun (D : Array Value) (h : D.size = (tbl 5).length) => show D.toList.length = 1 * 4 by rw [Array.length_toList, h]; rfl)
      clear hc hlt hk hX
      go_wp2_with (first
        | (with_reducible refine wpList_load_midA rfl 79 (.tmp 15) rfl b (off + k * 4) rfl X _ HCC.out Tryd.underlying79 rfl HSZ.out ?_)
        | (with_reducible refine wpList_alloc_row rfl 79 rfl (some 7) rfl i0 I0.out #[.int .i64 0, .int .i64 0, .string ⟨#[]⟩, .slice none 0 0] I1.out wr.heap.size rfl ?_)
        | ((with_reducible refine wpList_store_newrow2 rfl 79 (.tmp 7) (.tmp 16) rfl rfl wr.heap.size X rfl rfl 79 #[.int .i64 0, .int .i64 0, .string ⟨#[]⟩, .slice none 0 0] (blk_new rfl) HSZ.out HZS.out HEL.out.ones ?_); intro w5 hb5 hs5 hx5 hk5; have HX5 := hide hx5; have HB5 := hide (show Below wr.heap.size wr w5 from Below.trans (by (repeat (first | (with_reducible first | exact Below.refl _ _ | assumption | refine Below.drew ?_) | ((with_reducible first | refine Below.alloc ?_ ?_ _ | refine Below.setCell ?_ ?_ _); rotate_left; (first | omega | (simp <;> omega)))))) hb5); have hz5 : w5.heap.size = wr.heap.size + 1 := (by rw [hs5]; simp); have hz5' : wr.heap.size < w5.heap.size := (by omega); clear hb5 hs5 hx5 hk5 hz5)
        | (with_reducible refine wpList_load_row rfl 79 (.tmp 7) rfl wr.heap.size rfl 79 X (0, 0) _ HX5.out Tryd.underlying79 rfl HSZ.out ?_))
      refine (HF.out k HLT.out _ X (HEL.out.below HB5.out)).mono ?_
      rintro r w6 ⟨D, rfl, hD, hb6⟩
      have HD := hide hD
      have HDS := hide (show D.size = 4 from hD.size)
      have HB6 := hide hb6
      have HBr6 := hide (HB5.out.trans (hb6.mono (Nat.le_of_lt hz5')))
      have hz6 : wr.heap.size < w6.heap.size := Nat.lt_of_lt_of_le hz5' hb6.size
      clear hD hb6
      go_wp2_with (first
        | (with_reducible refine wpList_build1 rfl 77 79 (.tmp 20) rfl D rfl i0 #[.int .i64 0, .int .i64 0, .string ⟨#[]⟩, .slice none 0 0] Tryd.underlying77 I0.out I1.out 4 I2.out (by decide) (by decide) HDS.out (some 21) rfl w6.heap.size rfl ?_)
        | (at_builtin; go_loud (refine wpList_append_own2 _ rfl (.tmp 17) (.tmp 21) 77 rfl w.heap.size 79 i0 (.agg #[.int .i64 0, .int .i64 0, .string ⟨#[]⟩, .slice none 0 0]) 4 56 Tryd.underlying77 I0.out I1.out I2.out I3.out rfl (by decide) (.slice A' k cap') k (rowA R k) rfl ((owns_below HO.out HBr6.out).alloc _) ⟨w6.heap.size, 0, none⟩ 1 1 D.toList rfl (HLN.out D HD.out.size) (fun j u hu => news_cells (blk_new rfl) j u hu) (ones_of HD.out.ones) (by have := HLT.out; simp only [maxLen]; omega) (by have := HLT.out; have := HN.out; omega) (by have := HBs.out; simp; omega) ?_); intro A1 c1 w8 ho8 hg8 hv8))
      have HE := hide (each_next rfl HO.out HRk.out HB.out HBs.out (HBr6.out.trans ((Below.refl _ _).alloc (Nat.le_of_lt hz6) _)) HD.out (Nat.le_of_lt hz5') ((Below.refl _ _).alloc (Nat.le_refl _) _) ho8 hg8 hv8 HLT.out)
      clear ho8 hg8 hv8
      go_wp2_with fail
      go_roundw
      case rel => exact HE.out
      case measure => have := HLT.out; simp [intOf]; omega
    · obtain rfl : k = n := by omega
      clear hlt hk
      go_wp2_with fail
      go_ret
      exact each_end HST.out rfl rfl
theorem inf_Fee : (Tryd.prog.info? 118).map (fun i => (i.zero, i.size, i.bytes)) = some (some (.agg #[.string ⟨#[]⟩, .int .i64 0, .int .i64 0, .int .i64 0, .string ⟨#[]⟩, .slice none 0 0, .int .i64 0, .int .i64 0, .string ⟨#[]⟩, .slice none 0 0]), 10, 136) := by kernel_rfl
theorem siz_Fee : (Tryd.prog.info? 118).map (·.size) = some 10 := by kernel_rfl
set_option maxRecDepth 20000 in
set_option maxHeartbeats 4000000 in
theorem each_Fee (n : Nat) (c : Nat → Nat → Tr) (hF : ∀ k, k < n → FnOK Tryd.prog 6 (c k) 87) (hK : RowK 6 n c) (A : Option Addr) (cap : Nat) (C : Nat → Nat → Value) (w : World) (hr : RowT (Old w) w 6 A n c C) :
    Calls Tryd.prog 86 #[.slice A n cap, .func (.func 87) #[] #[]] w (SlRet 6 n c w) := by
  obtain ⟨i0, hi0, hz00, hz1, hz2⟩ := info_parts inf_Fee
  have I0 := hide hi0
  have I1 := hide hz00
  have I2 := hide hz1
  have I3 := hide hz2
  have HF := hide hF
  have HK := hide hK
  have HR := hide hr
  have hn1 : n ≤ 140737488351232 := by have := hK.room; simp only [tby] at this; omega
  have HN := hide (show n * 136 ≤ 140737488351232 from hK.room)
  clear hF hK hr hi0 hz00 hz1 hz2
  go_enter Tryd.func86, Tryd.ntmps86
  go_wp2_with (with_reducible refine wpList_make_own _ rfl (.const (.int .i64 0)) (.tmp 9) 50 rfl w.heap.size 118 i0 (.agg #[.string ⟨#[]⟩, .int .i64 0, .int .i64 0, .int .i64 0, .string ⟨#[]⟩, .slice none 0 0, .int .i64 0, .int .i64 0, .string ⟨#[]⟩, .slice none 0 0]) 10 Tryd.underlying50 I0.out I1.out I2.out .i64 .i64 (n : Int) n rfl rfl rfl (by rw [I3.out]; have := HN.out; omega) (by simp only [maxLen]; omega) (by simp) ?_; intro w1 ho1 hg1)
  have HO1 := hide ho1
  have HB1 := hide (below_grown (B := w.heap.size) hg1 (Nat.le_refl _) (fun k hk => by cases hk))
  clear ho1 hg1
  go_loopw [5, 13] (fun v5 v13 wr => EachI 118 6 n c w.heap.size w v5 v13 wr) (fun _ v _ => n - (intOf v).toNat)
  case atStart => exact ⟨0, _, n, fun _ => #[], by omega, rfl, rfl, HO1.out, fun i hi => by omega, HB1.out, HB1.out.size⟩
  case round =>
    have hst := hrel
    obtain ⟨k, A', cap', R, hk, rfl, rfl, ho, hRk, hB, hBs⟩ := hrel
    have HO := hide ho
    have HRk := hide hRk
    have HB := hide hB
    have HBs := hide hBs
    have HST := hide hst
    clear ho hRk hB hst hBs
    by_cases hlt : k < n
    · have hm : (k : Int) < n := by omega
      have hk0 : (0 : Int) ≤ k := by omega
      have HLT := hide hlt
      obtain ⟨b, off, rfl, hbl, hc⟩ := (HR.out.below HB.out).cells (by decide) hlt
      have HCC := hide (show ∀ j v, (elA 6 C k)[j]? = some v → wr.cell? ⟨b, off + k * 10 + j, none⟩ = some v from hc)
      have HEL := hide ((HR.out.below HB.out).el HK.out hlt)
      have HSZ := hide (show (Tryd.prog.info? 118).map (·.size) = some (elA 6 C k).size by rw [elA_size]; exact siz_Fee)
      obtain ⟨X, hX⟩ : ∃ X, X = elA 6 C k := ⟨_, rfl⟩
      rw [← hX] at HCC HEL HSZ
      have HZS := hide (show (#[.string ⟨#[]⟩, .int .i64 0, .int .i64 0, .int .i64 0, .string ⟨#[]⟩, .slice none 0 0, .int .i64 0, .int .i64 0, .string ⟨#[]⟩, .slice none 0 0] : Array Value).size = X.size from HEL.out.size.symm)
      have HLN := hide (fun (D : Array Value) (h : D.size = (tbl 6).length) => show D.toList.length = 1 * 10 by rw [Array.length_toList, h]; rfl)
      clear hc hlt hk hX
      go_wp2_with (first
        | (with_reducible refine wpList_load_midA rfl 118 (.tmp 15) rfl b (off + k * 10) rfl X _ HCC.out Tryd.underlying118 rfl HSZ.out ?_)
        | (with_reducible refine wpList_alloc_row rfl 118 rfl (some 7) rfl i0 I0.out #[.string ⟨#[]⟩, .int .i64 0, .int .i64 0, .int .i64 0, .string ⟨#[]⟩, .slice none 0 0, .int .i64 0, .int .i64 0, .string ⟨#[]⟩, .slice none 0 0] I1.out wr.heap.size rfl ?_)
        | ((with_reducible refine wpList_store_newrow2 rfl 118 (.tmp 7) (.tmp 16) rfl rfl wr.heap.size X rfl rfl 118 #[.string ⟨#[]⟩, .int .i64 0, .int .i64 0, .int .i64 0, .string ⟨#[]⟩, .slice none 0 0, .int .i64 0, .int .i64 0, .string ⟨#[]⟩, .slice none 0 0] (blk_new rfl) HSZ.out HZS.out HEL.out.ones ?_); intro w5 hb5 hs5 hx5 hk5; have HX5 := hide hx5; have HB5 := hide (show Below wr.heap.size wr w5 from Below.trans (by (repeat (first | (with_reducible first | exact Below.refl _ _ | assumption | refine Below.drew ?_) | ((with_reducible first | refine Below.alloc ?_ ?_ _ | refine Below.setCell ?_ ?_ _); rotate_left; (first | omega | (simp <;> omega)))))) hb5); have hz5 : w5.heap.size = wr.heap.size + 1 := (by rw [hs5]; simp); have hz5' : wr.heap.size < w5.heap.size := (by omega); clear hb5 hs5 hx5 hk5 hz5)
        | (with_reducible refine wpList_load_row rfl 118 (.tmp 7) rfl wr.heap.size rfl 118 X (0, 0) _ HX5.out Tryd.underlying118 rfl HSZ.out ?_))
      refine (HF.out k HLT.out _ X (HEL.out.below HB5.out)).mono ?_
      rintro r w6 ⟨D, rfl, hD, hb6⟩
      have HD := hide hD
      have HDS := hide (show D.size = 10 from hD.size)
      have HB6 := hide hb6
      have HBr6 := hide (HB5.out.trans (hb6.mono (Nat.le_of_lt hz5')))
      have hz6 : wr.heap.size < w6.heap.size := Nat.lt_of_lt_of_le hz5' hb6.size
      clear hD hb6
      go_wp2_with (first
        | (with_reducible refine wpList_build1 rfl 50 118 (.tmp 20) rfl D rfl i0 #[.string ⟨#[]⟩, .int .i64 0, .int .i64 0, .int .i64 0, .string ⟨#[]⟩, .slice none 0 0, .int .i64 0, .int .i64 0, .string ⟨#[]⟩, .slice none 0 0] Tryd.underlying50 I0.out I1.out 10 I2.out (by decide) (by decide) HDS.out (some 21) rfl w6.heap.size rfl ?_)
        | (at_builtin; go_loud (refine wpList_append_own2 _ rfl (.tmp 17) (.tmp 21) 50 rfl w.heap.size 118 i0 (.agg #[.string ⟨#[]⟩, .int .i64 0, .int .i64 0, .int .i64 0, .string ⟨#[]⟩, .slice none 0 0, .int .i64 0, .int .i64 0, .string ⟨#[]⟩, .slice none 0 0]) 10 136 Tryd.underlying50 I0.out I1.out I2.out I3.out rfl (by decide) (.slice A' k cap') k (rowA R k) rfl ((owns_below HO.out HBr6.out).alloc _) ⟨w6.heap.size, 0, none⟩ 1 1 D.toList rfl (HLN.out D HD.out.size) (fun j u hu => news_cells (blk_new rfl) j u hu) (ones_of HD.out.ones) (by have := HLT.out; simp only [maxLen]; omega) (by have := HLT.out; have := HN.out; omega) (by have := HBs.out; simp; omega) ?_); intro A1 c1 w8 ho8 hg8 hv8))
      have HE := hide (each_next rfl HO.out HRk.out HB.out HBs.out (HBr6.out.trans ((Below.refl _ _).alloc (Nat.le_of_lt hz6) _)) HD.out (Nat.le_of_lt hz5') ((Below.refl _ _).alloc (Nat.le_refl _) _) ho8 hg8 hv8 HLT.out)
      clear ho8 hg8 hv8
      go_wp2_with fail
      go_roundw
      case rel => exact HE.out
      case measure => have := HLT.out; simp [intOf]; omega
    · obtain rfl : k = n := by omega
      clear hlt hk
      go_wp2_with fail
      go_ret
      exact each_end HST.out rfl rfl
theorem inf_Rule : (Tryd.prog.info? 81).map (fun i => (i.zero, i.size, i.bytes)) = some (some (.agg #[.string ⟨#[]⟩, .int .i64 0, .int .i64 0, .int .i64 0, .string ⟨#[]⟩, .slice none 0 0]), 6, 80) := by kernel_rfl
theorem siz_Rule : (Tryd.prog.info? 81).map (·.size) = some 6 := by kernel_rfl
set_option maxRecDepth 20000 in
set_option maxHeartbeats 4000000 in
theorem each_Rule (n : Nat) (c : Nat → Nat → Tr) (hF : ∀ k, k < n → FnOK Tryd.prog 7 (c k) 90) (hK : RowK 7 n c) (A : Option Addr) (cap : Nat) (C : Nat → Nat → Value) (w : World) (hr : RowT (Old w) w 7 A n c C) :
    Calls Tryd.prog 89 #[.slice A n cap, .func (.func 90) #[] #[]] w (SlRet 7 n c w) := by
  obtain ⟨i0, hi0, hz00, hz1, hz2⟩ := info_parts inf_Rule
  have I0 := hide hi0
  have I1 := hide hz00
  have I2 := hide hz1
  have I3 := hide hz2
  have HF := hide hF
  have HK := hide hK
  have HR := hide hr
  have hn1 : n ≤ 140737488351232 := by have := hK.room; simp only [tby] at this; omega
  have HN := hide (show n * 80 ≤ 140737488351232 from hK.room)
  clear hF hK hr hi0 hz00 hz1 hz2
  go_enter Tryd.func89, Tryd.ntmps89
  go_wp2_with (with_reducible refine wpList_make_own _ rfl (.const (.int .i64 0)) (.tmp 9) 51 rfl w.heap.size 81 i0 (.agg #[.string ⟨#[]⟩, .int .i64 0, .int .i64 0, .int .i64 0, .string ⟨#[]⟩, .slice none 0 0]) 6 Tryd.underlying51 I0.out I1.out I2.out .i64 .i64 (n : Int) n rfl rfl rfl (by rw [I3.out]; have := HN.out; omega) (by simp only [maxLen]; omega) (by simp) ?_; intro w1 ho1 hg1)
  have HO1 := hide ho1
  have HB1 := hide (below_grown (B := w.heap.size) hg1 (Nat.le_refl _) (fun k hk => by cases hk))
  clear ho1 hg1
  go_loopw [5, 13] (fun v5 v13 wr => EachI 81 7 n c w.heap.size w v5 v13 wr) (fun _ v _ => n - (intOf v).toNat)
  case atStart => exact ⟨0, _, n, fun _ => #[], by omega, rfl, rfl, HO1.out, fun i hi => by omega, HB1.out, HB1.out.size⟩
  case round =>
    have hst := hrel
    obtain ⟨k, A', cap', R, hk, rfl, rfl, ho, hRk, hB, hBs⟩ := hrel
    have HO := hide ho
    have HRk := hide hRk
    have HB := hide hB
    have HBs := hide hBs
    have HST := hide hst
    clear ho hRk hB hst hBs
    by_cases hlt : k < n
    · have hm : (k : Int) < n := by omega
      have hk0 : (0 : Int) ≤ k := by omega
      have HLT := hide hlt
      obtain ⟨b, off, rfl, hbl, hc⟩ := (HR.out.below HB.out).cells (by decide) hlt
      have HCC := hide (show ∀ j v, (elA 7 C k)[j]? = some v → wr.cell? ⟨b, off + k * 6 + j, none⟩ = some v from hc)
      have HEL := hide ((HR.out.below HB.out).el HK.out hlt)
      have HSZ := hide (show (Tryd.prog.info? 81).map (·.size) = some (elA 7 C k).size by rw [elA_size]; exact siz_Rule)
      obtain ⟨X, hX⟩ : ∃ X, X = elA 7 C k := ⟨_, rfl⟩
      rw [← hX] at HCC HEL HSZ
      have HZS := hide (show (#[.string ⟨#[]⟩, .int .i64 0, .int .i64 0, .int .i64 0, .string ⟨#[]⟩, .slice none 0 0] : Array Value).size = X.size from HEL.out.size.symm)
      have HLN := hide (fun (D : Array Value) (h : D.size = (tbl 7).length) => show D.toList.length = 1 * 6 by rw [Array.length_toList, h]; rfl)
      clear hc hlt hk hX
      go_wp2_with (first
        | (with_reducible refine wpList_load_midA rfl 81 (.tmp 15) rfl b (off + k * 6) rfl X _ HCC.out Tryd.underlying81 rfl HSZ.out ?_)
        | (with_reducible refine wpList_alloc_row rfl 81 rfl (some 7) rfl i0 I0.out #[.string ⟨#[]⟩, .int .i64 0, .int .i64 0, .int .i64 0, .string ⟨#[]⟩, .slice none 0 0] I1.out wr.heap.size rfl ?_)
        | ((with_reducible refine wpList_store_newrow2 rfl 81 (.tmp 7) (.tmp 16) rfl rfl wr.heap.size X rfl rfl 81 #[.string ⟨#[]⟩, .int .i64 0, .int .i64 0, .int .i64 0, .string ⟨#[]⟩, .slice none 0 0] (blk_new rfl) HSZ.out HZS.out HEL.out.ones ?_); intro w5 hb5 hs5 hx5 hk5; have HX5 := hide hx5; have HB5 := hide (show Below wr.heap.size wr w5 from Below.trans (by (repeat (first | (with_reducible first | exact Below.refl _ _ | assumption | refine Below.drew ?_) | ((with_reducible first | refine Below.alloc ?_ ?_ _ | refine Below.setCell ?_ ?_ _); rotate_left; (first | omega | (simp <;> omega)))))) hb5); have hz5 : w5.heap.size = wr.heap.size + 1 := (by rw [hs5]; simp); have hz5' : wr.heap.size < w5.heap.size := (by omega); clear hb5 hs5 hx5 hk5 hz5)
        | (with_reducible refine wpList_load_row rfl 81 (.tmp 7) rfl wr.heap.size rfl 81 X (0, 0) _ HX5.out Tryd.underlying81 rfl HSZ.out ?_))
      refine (HF.out k HLT.out _ X (HEL.out.below HB5.out)).mono ?_
      rintro r w6 ⟨D, rfl, hD, hb6⟩
      have HD := hide hD
      have HDS := hide (show D.size = 6 from hD.size)
      have HB6 := hide hb6
      have HBr6 := hide (HB5.out.trans (hb6.mono (Nat.le_of_lt hz5')))
      have hz6 : wr.heap.size < w6.heap.size := Nat.lt_of_lt_of_le hz5' hb6.size
      clear hD hb6
      go_wp2_with (first
        | (with_reducible refine wpList_build1 rfl 51 81 (.tmp 20) rfl D rfl i0 #[.string ⟨#[]⟩, .int .i64 0, .int .i64 0, .int .i64 0, .string ⟨#[]⟩, .slice none 0 0] Tryd.underlying51 I0.out I1.out 6 I2.out (by decide) (by decide) HDS.out (some 21) rfl w6.heap.size rfl ?_)
        | (at_builtin; go_loud (refine wpList_append_own2 _ rfl (.tmp 17) (.tmp 21) 51 rfl w.heap.size 81 i0 (.agg #[.string ⟨#[]⟩, .int .i64 0, .int .i64 0, .int .i64 0, .string ⟨#[]⟩, .slice none 0 0]) 6 80 Tryd.underlying51 I0.out I1.out I2.out I3.out rfl (by decide) (.slice A' k cap') k (rowA R k) rfl ((owns_below HO.out HBr6.out).alloc _) ⟨w6.heap.size, 0, none⟩ 1 1 D.toList rfl (HLN.out D HD.out.size) (fun j u hu => news_cells (blk_new rfl) j u hu) (ones_of HD.out.ones) (by have := HLT.out; simp only [maxLen]; omega) (by have := HLT.out; have := HN.out; omega) (by have := HBs.out; simp; omega) ?_); intro A1 c1 w8 ho8 hg8 hv8))
      have HE := hide (each_next rfl HO.out HRk.out HB.out HBs.out (HBr6.out.trans ((Below.refl _ _).alloc (Nat.le_of_lt hz6) _)) HD.out (Nat.le_of_lt hz5') ((Below.refl _ _).alloc (Nat.le_refl _) _) ho8 hg8 hv8 HLT.out)
      clear ho8 hg8 hv8
      go_wp2_with fail
      go_roundw
      case rel => exact HE.out
      case measure => have := HLT.out; simp [intOf]; omega
    · obtain rfl : k = n := by omega
      clear hlt hk
      go_wp2_with fail
      go_ret
      exact each_end HST.out rfl rfl
theorem inf_Calendar : (Tryd.prog.info? 132).map (fun i => (i.zero, i.size, i.bytes)) = some (some (.agg #[.string ⟨#[]⟩, .slice none 0 0, .slice none 0 0]), 3, 64) := by kernel_rfl
theorem siz_Calendar : (Tryd.prog.info? 132).map (·.size) = some 3 := by kernel_rfl
set_option maxRecDepth 20000 in
set_option maxHeartbeats 4000000 in
theorem each_Calendar (n : Nat) (c : Nat → Nat → Tr) (hF : ∀ k, k < n → FnOK Tryd.prog 2 (c k) 71) (hK : RowK 2 n c) (A : Option Addr) (cap : Nat) (C : Nat → Nat → Value) (w : World) (hr : RowT (Old w) w 2 A n c C) :
    Calls Tryd.prog 70 #[.slice A n cap, .func (.func 71) #[] #[]] w (SlRet 2 n c w) := by
  obtain ⟨i0, hi0, hz00, hz1, hz2⟩ := info_parts inf_Calendar
  have I0 := hide hi0
  have I1 := hide hz00
  have I2 := hide hz1
  have I3 := hide hz2
  have HF := hide hF
  have HK := hide hK
  have HR := hide hr
  have hn1 : n ≤ 140737488351232 := by have := hK.room; simp only [tby] at this; omega
  have HN := hide (show n * 64 ≤ 140737488351232 from hK.room)
  clear hF hK hr hi0 hz00 hz1 hz2
  go_enter Tryd.func70, Tryd.ntmps70
  go_wp2_with (with_reducible refine wpList_make_own _ rfl (.const (.int .i64 0)) (.tmp 9) 31 rfl w.heap.size 132 i0 (.agg #[.string ⟨#[]⟩, .slice none 0 0, .slice none 0 0]) 3 Tryd.underlying31 I0.out I1.out I2.out .i64 .i64 (n : Int) n rfl rfl rfl (by rw [I3.out]; have := HN.out; omega) (by simp only [maxLen]; omega) (by simp) ?_; intro w1 ho1 hg1)
  have HO1 := hide ho1
  have HB1 := hide (below_grown (B := w.heap.size) hg1 (Nat.le_refl _) (fun k hk => by cases hk))
  clear ho1 hg1
  go_loopw [5, 13] (fun v5 v13 wr => EachI 132 2 n c w.heap.size w v5 v13 wr) (fun _ v _ => n - (intOf v).toNat)
  case atStart => exact ⟨0, _, n, fun _ => #[], by omega, rfl, rfl, HO1.out, fun i hi => by omega, HB1.out, HB1.out.size⟩
  case round =>
    have hst := hrel
    obtain ⟨k, A', cap', R, hk, rfl, rfl, ho, hRk, hB, hBs⟩ := hrel
    have HO := hide ho
    have HRk := hide hRk
    have HB := hide hB
    have HBs := hide hBs
    have HST := hide hst
    clear ho hRk hB hst hBs
    by_cases hlt : k < n
    · have hm : (k : Int) < n := by omega
      have hk0 : (0 : Int) ≤ k := by omega
      have HLT := hide hlt
      obtain ⟨b, off, rfl, hbl, hc⟩ := (HR.out.below HB.out).cells (by decide) hlt
      have HCC := hide (show ∀ j v, (elA 2 C k)[j]? = some v → wr.cell? ⟨b, off + k * 3 + j, none⟩ = some v from hc)
      have HEL := hide ((HR.out.below HB.out).el HK.out hlt)
      have HSZ := hide (show (Tryd.prog.info? 132).map (·.size) = some (elA 2 C k).size by rw [elA_size]; exact siz_Calendar)
      obtain ⟨X, hX⟩ : ∃ X, X = elA 2 C k := ⟨_, rfl⟩
      rw [← hX] at HCC HEL HSZ
      have HZS := hide (show (#[.string ⟨#[]⟩, .slice none 0 0, .slice none 0 0] : Array Value).size = X.size from HEL.out.size.symm)
      have HLN := hide (fun (D : Array Value) (h : D.size = (tbl 2).length) => show D.toList.length = 1 * 3 by rw [Array.length_toList, h]; rfl)
      clear hc hlt hk hX
      go_wp2_with (first
        | (with_reducible refine wpList_load_midA rfl 132 (.tmp 15) rfl b (off + k * 3) rfl X _ HCC.out Tryd.underlying132 rfl HSZ.out ?_)
        | (with_reducible refine wpList_alloc_row rfl 132 rfl (some 7) rfl i0 I0.out #[.string ⟨#[]⟩, .slice none 0 0, .slice none 0 0] I1.out wr.heap.size rfl ?_)
        | ((with_reducible refine wpList_store_newrow2 rfl 132 (.tmp 7) (.tmp 16) rfl rfl wr.heap.size X rfl rfl 132 #[.string ⟨#[]⟩, .slice none 0 0, .slice none 0 0] (blk_new rfl) HSZ.out HZS.out HEL.out.ones ?_); intro w5 hb5 hs5 hx5 hk5; have HX5 := hide hx5; have HB5 := hide (show Below wr.heap.size wr w5 from Below.trans (by (repeat (first | (with_reducible first | exact Below.refl _ _ | assumption | refine Below.drew ?_) | ((with_reducible first | refine Below.alloc ?_ ?_ _ | refine Below.setCell ?_ ?_ _); rotate_left; (first | omega | (simp <;> omega)))))) hb5); have hz5 : w5.heap.size = wr.heap.size + 1 := (by rw [hs5]; simp); have hz5' : wr.heap.size < w5.heap.size := (by omega); clear hb5 hs5 hx5 hk5 hz5)
        | (with_reducible refine wpList_load_row rfl 132 (.tmp 7) rfl wr.heap.size rfl 132 X (0, 0) _ HX5.out Tryd.underlying132 rfl HSZ.out ?_))
      refine (HF.out k HLT.out _ X (HEL.out.below HB5.out)).mono ?_
      rintro r w6 ⟨D, rfl, hD, hb6⟩
      have HD := hide hD
      have HDS := hide (show D.size = 3 from hD.size)
      have HB6 := hide hb6
      have HBr6 := hide (HB5.out.trans (hb6.mono (Nat.le_of_lt hz5')))
      have hz6 : wr.heap.size < w6.heap.size := Nat.lt_of_lt_of_le hz5' hb6.size
      clear hD hb6
      go_wp2_with (first
        | (with_reducible refine wpList_build1 rfl 31 132 (.tmp 20) rfl D rfl i0 #[.string ⟨#[]⟩, .slice none 0 0, .slice none 0 0] Tryd.underlying31 I0.out I1.out 3 I2.out (by decide) (by decide) HDS.out (some 21) rfl w6.heap.size rfl ?_)
        | (at_builtin; go_loud (refine wpList_append_own2 _ rfl (.tmp 17) (.tmp 21) 31 rfl w.heap.size 132 i0 (.agg #[.string ⟨#[]⟩, .slice none 0 0, .slice none 0 0]) 3 64 Tryd.underlying31 I0.out I1.out I2.out I3.out rfl (by decide) (.slice A' k cap') k (rowA R k) rfl ((owns_below HO.out HBr6.out).alloc _) ⟨w6.heap.size, 0, none⟩ 1 1 D.toList rfl (HLN.out D HD.out.size) (fun j u hu => news_cells (blk_new rfl) j u hu) (ones_of HD.out.ones) (by have := HLT.out; simp only [maxLen]; omega) (by have := HLT.out; have := HN.out; omega) (by have := HBs.out; simp; omega) ?_); intro A1 c1 w8 ho8 hg8 hv8))
      have HE := hide (each_next rfl HO.out HRk.out HB.out HBs.out (HBr6.out.trans ((Below.refl _ _).alloc (Nat.le_of_lt hz6) _)) HD.out (Nat.le_of_lt hz5') ((Below.refl _ _).alloc (Nat.le_refl _) _) ho8 hg8 hv8 HLT.out)
      clear ho8 hg8 hv8
      go_wp2_with fail
      go_roundw
      case rel => exact HE.out
      case measure => have := HLT.out; simp [intOf]; omega
    · obtain rfl : k = n := by omega
      clear hlt hk
      go_wp2_with fail
      go_ret
      exact each_end HST.out rfl rfl
theorem inf_Product : (Tryd.prog.info? 53).map (fun i => (i.zero, i.size, i.bytes)) = some (some (.agg #[.string ⟨#[]⟩, .string ⟨#[]⟩, .string ⟨#[]⟩, .int .i64 0, .int .i64 0, .int .i64 0, .int .i64 0, .slice none 0 0, .bool false, .int .i64 0, .int .i64 0, .bool false, .slice none 0 0, .bool false, .int .i64 0, .int .i64 0, .bool false, .slice none 0 0, .slice none 0 0]), 19, 240) := by kernel_rfl
theorem siz_Product : (Tryd.prog.info? 53).map (·.size) = some 19 := by kernel_rfl
set_option maxRecDepth 20000 in
set_option maxHeartbeats 4000000 in
theorem each_Product (n : Nat) (c : Nat → Nat → Tr) (hF : ∀ k, k < n → FnOK Tryd.prog 8 (c k) 74) (hK : RowK 8 n c) (A : Option Addr) (cap : Nat) (C : Nat → Nat → Value) (w : World) (hr : RowT (Old w) w 8 A n c C) :
    Calls Tryd.prog 73 #[.slice A n cap, .func (.func 74) #[] #[]] w (SlRet 8 n c w) := by
  obtain ⟨i0, hi0, hz00, hz1, hz2⟩ := info_parts inf_Product
  have I0 := hide hi0
  have I1 := hide hz00
  have I2 := hide hz1
  have I3 := hide hz2
  have HF := hide hF
  have HK := hide hK
  have HR := hide hr
  have hn1 : n ≤ 140737488351232 := by have := hK.room; simp only [tby] at this; omega
  have HN := hide (show n * 240 ≤ 140737488351232 from hK.room)
  clear hF hK hr hi0 hz00 hz1 hz2
  go_enter Tryd.func73, Tryd.ntmps73
  go_wp2_with (with_reducible refine wpList_make_own _ rfl (.const (.int .i64 0)) (.tmp 9) 35 rfl w.heap.size 53 i0 (.agg #[.string ⟨#[]⟩, .string ⟨#[]⟩, .string ⟨#[]⟩, .int .i64 0, .int .i64 0, .int .i64 0, .int .i64 0, .slice none 0 0, .bool false, .int .i64 0, .int .i64 0, .bool false, .slice none 0 0, .bool false, .int .i64 0, .int .i64 0, .bool false, .slice none 0 0, .slice none 0 0]) 19 Tryd.underlying35 I0.out I1.out I2.out .i64 .i64 (n : Int) n rfl rfl rfl (by rw [I3.out]; have := HN.out; omega) (by simp only [maxLen]; omega) (by simp) ?_; intro w1 ho1 hg1)
  have HO1 := hide ho1
  have HB1 := hide (below_grown (B := w.heap.size) hg1 (Nat.le_refl _) (fun k hk => by cases hk))
  clear ho1 hg1
  go_loopw [5, 13] (fun v5 v13 wr => EachI 53 8 n c w.heap.size w v5 v13 wr) (fun _ v _ => n - (intOf v).toNat)
  case atStart => exact ⟨0, _, n, fun _ => #[], by omega, rfl, rfl, HO1.out, fun i hi => by omega, HB1.out, HB1.out.size⟩
  case round =>
    have hst := hrel
    obtain ⟨k, A', cap', R, hk, rfl, rfl, ho, hRk, hB, hBs⟩ := hrel
    have HO := hide ho
    have HRk := hide hRk
    have HB := hide hB
    have HBs := hide hBs
    have HST := hide hst
    clear ho hRk hB hst hBs
    by_cases hlt : k < n
    · have hm : (k : Int) < n := by omega
      have hk0 : (0 : Int) ≤ k := by omega
      have HLT := hide hlt
      obtain ⟨b, off, rfl, hbl, hc⟩ := (HR.out.below HB.out).cells (by decide) hlt
      have HCC := hide (show ∀ j v, (elA 8 C k)[j]? = some v → wr.cell? ⟨b, off + k * 19 + j, none⟩ = some v from hc)
      have HEL := hide ((HR.out.below HB.out).el HK.out hlt)
      have HSZ := hide (show (Tryd.prog.info? 53).map (·.size) = some (elA 8 C k).size by rw [elA_size]; exact siz_Product)
      obtain ⟨X, hX⟩ : ∃ X, X = elA 8 C k := ⟨_, rfl⟩
      rw [← hX] at HCC HEL HSZ
      have HZS := hide (show (#[.string ⟨#[]⟩, .string ⟨#[]⟩, .string ⟨#[]⟩, .int .i64 0, .int .i64 0, .int .i64 0, .int .i64 0, .slice none 0 0, .bool false, .int .i64 0, .int .i64 0, .bool false, .slice none 0 0, .bool false, .int .i64 0, .int .i64 0, .bool false, .slice none 0 0, .slice none 0 0] : Array Value).size = X.size from HEL.out.size.symm)
      have HLN := hide (fun (D : Array Value) (h : D.size = (tbl 8).length) => show D.toList.length = 1 * 19 by rw [Array.length_toList, h]; rfl)
      clear hc hlt hk hX
      go_wp2_with (first
        | (with_reducible refine wpList_load_midA rfl 53 (.tmp 15) rfl b (off + k * 19) rfl X _ HCC.out Tryd.underlying53 rfl HSZ.out ?_)
        | (with_reducible refine wpList_alloc_row rfl 53 rfl (some 7) rfl i0 I0.out #[.string ⟨#[]⟩, .string ⟨#[]⟩, .string ⟨#[]⟩, .int .i64 0, .int .i64 0, .int .i64 0, .int .i64 0, .slice none 0 0, .bool false, .int .i64 0, .int .i64 0, .bool false, .slice none 0 0, .bool false, .int .i64 0, .int .i64 0, .bool false, .slice none 0 0, .slice none 0 0] I1.out wr.heap.size rfl ?_)
        | ((with_reducible refine wpList_store_newrow2 rfl 53 (.tmp 7) (.tmp 16) rfl rfl wr.heap.size X rfl rfl 53 #[.string ⟨#[]⟩, .string ⟨#[]⟩, .string ⟨#[]⟩, .int .i64 0, .int .i64 0, .int .i64 0, .int .i64 0, .slice none 0 0, .bool false, .int .i64 0, .int .i64 0, .bool false, .slice none 0 0, .bool false, .int .i64 0, .int .i64 0, .bool false, .slice none 0 0, .slice none 0 0] (blk_new rfl) HSZ.out HZS.out HEL.out.ones ?_); intro w5 hb5 hs5 hx5 hk5; have HX5 := hide hx5; have HB5 := hide (show Below wr.heap.size wr w5 from Below.trans (by (repeat (first | (with_reducible first | exact Below.refl _ _ | assumption | refine Below.drew ?_) | ((with_reducible first | refine Below.alloc ?_ ?_ _ | refine Below.setCell ?_ ?_ _); rotate_left; (first | omega | (simp <;> omega)))))) hb5); have hz5 : w5.heap.size = wr.heap.size + 1 := (by rw [hs5]; simp); have hz5' : wr.heap.size < w5.heap.size := (by omega); clear hb5 hs5 hx5 hk5 hz5)
        | (with_reducible refine wpList_load_row rfl 53 (.tmp 7) rfl wr.heap.size rfl 53 X (0, 0) _ HX5.out Tryd.underlying53 rfl HSZ.out ?_))
      refine (HF.out k HLT.out _ X (HEL.out.below HB5.out)).mono ?_
      rintro r w6 ⟨D, rfl, hD, hb6⟩
      have HD := hide hD
      have HDS := hide (show D.size = 19 from hD.size)
      have HB6 := hide hb6
      have HBr6 := hide (HB5.out.trans (hb6.mono (Nat.le_of_lt hz5')))
      have hz6 : wr.heap.size < w6.heap.size := Nat.lt_of_lt_of_le hz5' hb6.size
      clear hD hb6
      go_wp2_with (first
        | (with_reducible refine wpList_build1 rfl 35 53 (.tmp 20) rfl D rfl i0 #[.string ⟨#[]⟩, .string ⟨#[]⟩, .string ⟨#[]⟩, .int .i64 0, .int .i64 0, .int .i64 0, .int .i64 0, .slice none 0 0, .bool false, .int .i64 0, .int .i64 0, .bool false, .slice none 0 0, .bool false, .int .i64 0, .int .i64 0, .bool false, .slice none 0 0, .slice none 0 0] Tryd.underlying35 I0.out I1.out 19 I2.out (by decide) (by decide) HDS.out (some 21) rfl w6.heap.size rfl ?_)
        | (at_builtin; go_loud (refine wpList_append_own2 _ rfl (.tmp 17) (.tmp 21) 35 rfl w.heap.size 53 i0 (.agg #[.string ⟨#[]⟩, .string ⟨#[]⟩, .string ⟨#[]⟩, .int .i64 0, .int .i64 0, .int .i64 0, .int .i64 0, .slice none 0 0, .bool false, .int .i64 0, .int .i64 0, .bool false, .slice none 0 0, .bool false, .int .i64 0, .int .i64 0, .bool false, .slice none 0 0, .slice none 0 0]) 19 240 Tryd.underlying35 I0.out I1.out I2.out I3.out rfl (by decide) (.slice A' k cap') k (rowA R k) rfl ((owns_below HO.out HBr6.out).alloc _) ⟨w6.heap.size, 0, none⟩ 1 1 D.toList rfl (HLN.out D HD.out.size) (fun j u hu => news_cells (blk_new rfl) j u hu) (ones_of HD.out.ones) (by have := HLT.out; simp only [maxLen]; omega) (by have := HLT.out; have := HN.out; omega) (by have := HBs.out; simp; omega) ?_); intro A1 c1 w8 ho8 hg8 hv8))
      have HE := hide (each_next rfl HO.out HRk.out HB.out HBs.out (HBr6.out.trans ((Below.refl _ _).alloc (Nat.le_of_lt hz6) _)) HD.out (Nat.le_of_lt hz5') ((Below.refl _ _).alloc (Nat.le_refl _) _) ho8 hg8 hv8 HLT.out)
      clear ho8 hg8 hv8
      go_wp2_with fail
      go_roundw
      case rel => exact HE.out
      case measure => have := HLT.out; simp [intOf]; omega
    · obtain rfl : k = n := by omega
      clear hlt hk
      go_wp2_with fail
      go_ret
      exact each_end HST.out rfl rfl
theorem inf_Entry : (Tryd.prog.info? 72).map (fun i => (i.zero, i.size, i.bytes)) = some (some (.agg #[.int .i64 0, .int .i64 0, .int .i64 0, .int .i64 0, .int .i64 0, .int .i64 0, .string ⟨#[]⟩, .string ⟨#[]⟩, .slice none 0 0, .int .u64 0]), 10, 112) := by kernel_rfl
theorem siz_Entry : (Tryd.prog.info? 72).map (·.size) = some 10 := by kernel_rfl
set_option maxRecDepth 20000 in
set_option maxHeartbeats 4000000 in
theorem each_Entry (n : Nat) (c : Nat → Nat → Tr) (hF : ∀ k, k < n → FnOK Tryd.prog 11 (c k) 92) (hK : RowK 11 n c) (A : Option Addr) (cap : Nat) (C : Nat → Nat → Value) (w : World) (hr : RowT (Old w) w 11 A n c C) :
    Calls Tryd.prog 91 #[.slice A n cap, .func (.func 92) #[] #[]] w (SlRet 11 n c w) := by
  obtain ⟨i0, hi0, hz00, hz1, hz2⟩ := info_parts inf_Entry
  have I0 := hide hi0
  have I1 := hide hz00
  have I2 := hide hz1
  have I3 := hide hz2
  have HF := hide hF
  have HK := hide hK
  have HR := hide hr
  have hn1 : n ≤ 140737488351232 := by have := hK.room; simp only [tby] at this; omega
  have HN := hide (show n * 112 ≤ 140737488351232 from hK.room)
  clear hF hK hr hi0 hz00 hz1 hz2
  go_enter Tryd.func91, Tryd.ntmps91
  go_wp2_with (with_reducible refine wpList_make_own _ rfl (.const (.int .i64 0)) (.tmp 9) 37 rfl w.heap.size 72 i0 (.agg #[.int .i64 0, .int .i64 0, .int .i64 0, .int .i64 0, .int .i64 0, .int .i64 0, .string ⟨#[]⟩, .string ⟨#[]⟩, .slice none 0 0, .int .u64 0]) 10 Tryd.underlying37 I0.out I1.out I2.out .i64 .i64 (n : Int) n rfl rfl rfl (by rw [I3.out]; have := HN.out; omega) (by simp only [maxLen]; omega) (by simp) ?_; intro w1 ho1 hg1)
  have HO1 := hide ho1
  have HB1 := hide (below_grown (B := w.heap.size) hg1 (Nat.le_refl _) (fun k hk => by cases hk))
  clear ho1 hg1
  go_loopw [5, 13] (fun v5 v13 wr => EachI 72 11 n c w.heap.size w v5 v13 wr) (fun _ v _ => n - (intOf v).toNat)
  case atStart => exact ⟨0, _, n, fun _ => #[], by omega, rfl, rfl, HO1.out, fun i hi => by omega, HB1.out, HB1.out.size⟩
  case round =>
    have hst := hrel
    obtain ⟨k, A', cap', R, hk, rfl, rfl, ho, hRk, hB, hBs⟩ := hrel
    have HO := hide ho
    have HRk := hide hRk
    have HB := hide hB
    have HBs := hide hBs
    have HST := hide hst
    clear ho hRk hB hst hBs
    by_cases hlt : k < n
    · have hm : (k : Int) < n := by omega
      have hk0 : (0 : Int) ≤ k := by omega
      have HLT := hide hlt
      obtain ⟨b, off, rfl, hbl, hc⟩ := (HR.out.below HB.out).cells (by decide) hlt
      have HCC := hide (show ∀ j v, (elA 11 C k)[j]? = some v → wr.cell? ⟨b, off + k * 10 + j, none⟩ = some v from hc)
      have HEL := hide ((HR.out.below HB.out).el HK.out hlt)
      have HSZ := hide (show (Tryd.prog.info? 72).map (·.size) = some (elA 11 C k).size by rw [elA_size]; exact siz_Entry)
      obtain ⟨X, hX⟩ : ∃ X, X = elA 11 C k := ⟨_, rfl⟩
      rw [← hX] at HCC HEL HSZ
      have HZS := hide (show (#[.int .i64 0, .int .i64 0, .int .i64 0, .int .i64 0, .int .i64 0, .int .i64 0, .string ⟨#[]⟩, .string ⟨#[]⟩, .slice none 0 0, .int .u64 0] : Array Value).size = X.size from HEL.out.size.symm)
      have HLN := hide (fun (D : Array Value) (h : D.size = (tbl 11).length) => show D.toList.length = 1 * 10 by rw [Array.length_toList, h]; rfl)
      clear hc hlt hk hX
      go_wp2_with (first
        | (with_reducible refine wpList_load_midA rfl 72 (.tmp 15) rfl b (off + k * 10) rfl X _ HCC.out Tryd.underlying72 rfl HSZ.out ?_)
        | (with_reducible refine wpList_alloc_row rfl 72 rfl (some 7) rfl i0 I0.out #[.int .i64 0, .int .i64 0, .int .i64 0, .int .i64 0, .int .i64 0, .int .i64 0, .string ⟨#[]⟩, .string ⟨#[]⟩, .slice none 0 0, .int .u64 0] I1.out wr.heap.size rfl ?_)
        | ((with_reducible refine wpList_store_newrow2 rfl 72 (.tmp 7) (.tmp 16) rfl rfl wr.heap.size X rfl rfl 72 #[.int .i64 0, .int .i64 0, .int .i64 0, .int .i64 0, .int .i64 0, .int .i64 0, .string ⟨#[]⟩, .string ⟨#[]⟩, .slice none 0 0, .int .u64 0] (blk_new rfl) HSZ.out HZS.out HEL.out.ones ?_); intro w5 hb5 hs5 hx5 hk5; have HX5 := hide hx5; have HB5 := hide (show Below wr.heap.size wr w5 from Below.trans (by (repeat (first | (with_reducible first | exact Below.refl _ _ | assumption | refine Below.drew ?_) | ((with_reducible first | refine Below.alloc ?_ ?_ _ | refine Below.setCell ?_ ?_ _); rotate_left; (first | omega | (simp <;> omega)))))) hb5); have hz5 : w5.heap.size = wr.heap.size + 1 := (by rw [hs5]; simp); have hz5' : wr.heap.size < w5.heap.size := (by omega); clear hb5 hs5 hx5 hk5 hz5)
        | (with_reducible refine wpList_load_row rfl 72 (.tmp 7) rfl wr.heap.size rfl 72 X (0, 0) _ HX5.out Tryd.underlying72 rfl HSZ.out ?_))
      refine (HF.out k HLT.out _ X (HEL.out.below HB5.out)).mono ?_
      rintro r w6 ⟨D, rfl, hD, hb6⟩
      have HD := hide hD
      have HDS := hide (show D.size = 10 from hD.size)
      have HB6 := hide hb6
      have HBr6 := hide (HB5.out.trans (hb6.mono (Nat.le_of_lt hz5')))
      have hz6 : wr.heap.size < w6.heap.size := Nat.lt_of_lt_of_le hz5' hb6.size
      clear hD hb6
      go_wp2_with (first
        | (with_reducible refine wpList_build1 rfl 37 72 (.tmp 20) rfl D rfl i0 #[.int .i64 0, .int .i64 0, .int .i64 0, .int .i64 0, .int .i64 0, .int .i64 0, .string ⟨#[]⟩, .string ⟨#[]⟩, .slice none 0 0, .int .u64 0] Tryd.underlying37 I0.out I1.out 10 I2.out (by decide) (by decide) HDS.out (some 21) rfl w6.heap.size rfl ?_)
        | (at_builtin; go_loud (refine wpList_append_own2 _ rfl (.tmp 17) (.tmp 21) 37 rfl w.heap.size 72 i0 (.agg #[.int .i64 0, .int .i64 0, .int .i64 0, .int .i64 0, .int .i64 0, .int .i64 0, .string ⟨#[]⟩, .string ⟨#[]⟩, .slice none 0 0, .int .u64 0]) 10 112 Tryd.underlying37 I0.out I1.out I2.out I3.out rfl (by decide) (.slice A' k cap') k (rowA R k) rfl ((owns_below HO.out HBr6.out).alloc _) ⟨w6.heap.size, 0, none⟩ 1 1 D.toList rfl (HLN.out D HD.out.size) (fun j u hu => news_cells (blk_new rfl) j u hu) (ones_of HD.out.ones) (by have := HLT.out; simp only [maxLen]; omega) (by have := HLT.out; have := HN.out; omega) (by have := HBs.out; simp; omega) ?_); intro A1 c1 w8 ho8 hg8 hv8))
      have HE := hide (each_next rfl HO.out HRk.out HB.out HBs.out (HBr6.out.trans ((Below.refl _ _).alloc (Nat.le_of_lt hz6) _)) HD.out (Nat.le_of_lt hz5') ((Below.refl _ _).alloc (Nat.le_refl _) _) ho8 hg8 hv8 HLT.out)
      clear ho8 hg8 hv8
      go_wp2_with fail
      go_roundw
      case rel => exact HE.out
      case measure => have := HLT.out; simp [intOf]; omega
    · obtain rfl : k = n := by omega
      clear hlt hk
      go_wp2_with fail
      go_ret
      exact each_end HST.out rfl rfl
end Go.Proofs.YtdjhkhadjmndoaaDoor
