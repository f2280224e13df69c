/- Texts laid together: TpI TpK. -/
import Derived.Test.YtpghciiifnjimaaGreatDoorXTpG
import Derived.Test.YtpghciiifnjimaaGreatDoorXK0
namespace Go.Proofs.YtpghciiifnjimaaGreatDoor
set_option maxRecDepth 4000
set_option linter.unusedSimpArgs false
set_option linter.unusedVariables false
open Go.RowKit
def isStr : Value → Bool
 | .string _ => true
 | _ => false
theorem srow_all {w : World} {b : Nat} {cs : Array Value} {t : TypeId} (h : w.heap[b]? = some (.cells cs t (0, 0))) (hs : cs.all isStr = true) : SRow w (some ⟨b, 0, none⟩) cs.size := by
 refine ⟨.inr ⟨_, _, rfl⟩, fun k => match cs.getD k undef with | .string s => s | _ => ⟨#[]⟩, fun _ => ⟨b, 0, rfl, heap_lt h, fun k j hk hj => ?_⟩⟩
 obtain rfl : j = 0 := by omega
 have e0 : 0 + (k * 1 + 0) = k := by omega
 rw [e0, cell_of_cells h, Array.getElem?_eq_getElem hk]
 have h1 := Array.all_eq_true.1 hs k hk
 have h2 : cs.getD k undef = cs[k] := by rw [Array.getD, dif_pos hk]; rfl
 show some cs[k] = some (.string (match cs.getD k undef with | .string s => s | _ => ⟨#[]⟩))
 rw [h2]
 revert h1
 cases cs[k] <;> intro h1 <;> first | rfl | cases h1
def TxtR (m : Nat) (w : World) (e : Ending) (w' : World) : Prop := ∃ A n c, e = .returned (.slice A n c) ∧ n ≤ m ∧ n ≤ c ∧ SRow w' A n ∧ Below w.heap.size w w'
set_option maxRecDepth 8000 in
theorem wwords_any (w : World) : Calls Tryz.prog 334 #[] w (TxtR 100 w) := by
 go_enter Tryz.func334, Tryz.ntmps334
 go_wp2_with fail
 go_ret
 exact ⟨_, _, _, rfl, by omega, by omega, srow_all (blk_new rfl) (by kernel_rfl), by (repeat (first | (with_reducible first | exact Below.refl _ _ | assumption | refine Below.drew ?_) | ((with_reducible first | refine Below.alloc ?_ ?_ _ | refine Below.setCell ?_ ?_ _); rotate_left; (first | omega | (simp <;> omega)))))⟩
set_option maxRecDepth 8000 in
set_option maxHeartbeats 4000000 in
theorem wword_any (x : ByteArray) (w : World) : Calls Tryz.prog 329 #[.string x] w (SomB w) := by
 go_enter Tryz.func329, Tryz.ntmps329
 go_wp2_with fail
 refine (wwords_any _).mono ?_
 rintro r w1 ⟨A, n, c, rfl, hn, hc, hs, hb⟩
 have HS := hide hs
 have B1 := hide hb
 clear hs hb
 go_wp2_with fail
 go_loopw [4] (fun v wr => KW 0 n w1 v wr) (fun v _ => n - (intOf v).toNat)
 case atStart => exact ⟨0, by omega, by omega, rfl, rfl⟩
 case round =>
  obtain ⟨k, hk0n, hk, rfl, rfl⟩ := hrel
  by_cases hlt : k < n
  ·have hm : (k : Int) < n := by omega
   have hk0 : (0 : Int) ≤ k := by omega
   obtain ⟨b, off, s, rfl, hbl, hc⟩ := HS.out.at hlt
   go_wp2_with fail
   all_goals first
    | (go_ret; exact ⟨⟨_, rfl⟩, B1.out⟩)
    | (go_roundw; (case rel => exact ⟨k + 1, by omega, by omega, by go_num, rfl⟩); (case measure => simp [intOf]; omega))
  ·obtain rfl : k = n := by omega
   go_wp2_with fail
   go_ret
   exact ⟨⟨_, rfl⟩, B1.out⟩
theorem wvar10_any (x : ByteArray) (w : World) : Calls Tryz.prog 306 #[.string x] w (SomB w) := by
 go_enter Tryz.func306, Tryz.ntmps306
 go_wp2_with fail
 refine (wname7_any x _).mono ?_
 rintro r w1 ⟨⟨b, rfl⟩, hb⟩
 have B1 := hide hb
 have z1 := hb.size
 clear hb
 cases b with
 | false =>
  go_wp2_with fail
  go_ret
  exact ⟨⟨_, rfl⟩, B1.out⟩
 | true =>
  go_wp2_with fail
  refine (wword_any x _).mono ?_
  rintro r w2 ⟨⟨b2, rfl⟩, hb⟩
  go_wp2_with fail
  go_ret
  exact ⟨⟨_, rfl⟩, B1.out.trans (hb.mono z1)⟩
theorem sumN_le (f : Nat → Nat) {k n : Nat} (h : k ≤ n) : sumN f k ≤ sumN f n := by
 induction h with
 | refl => exact Nat.le_refl _
 | step _ ih => exact Nat.le_trans ih (Nat.le_add_right _ _)
def NmJ (n : Nat) (f : Nat → Nat) (W : World) (v3 v4 : Value) (wr : World) : Prop := ∃ (k m c : Nat) (A : Option Addr), k ≤ n ∧ v4 = .int .i64 k ∧ v3 = .slice A m c ∧ m ≤ 1 + sumN f k ∧ m ≤ c ∧ SRow wr A m ∧ Below W.heap.size W wr
def NmK (n q : Nat) (W : World) (v3 v6 : Value) (wr : World) : Prop := ∃ (j m c : Nat) (A : Option Addr), j ≤ n ∧ v6 = .int .i64 j ∧ v3 = .slice A m c ∧ m ≤ q + j ∧ m ≤ c ∧ SRow wr A m ∧ Below W.heap.size W wr
def NmOK (ck : Nat → Tr) : Prop := ∀ (w : World) (X : Array Value), ElT (Old w) w 5 ck X → nodesE ck ≤ 1000 → Calls Tryz.prog 305 #[.agg X] w (TxtR (nodesE ck) w)
set_option maxRecDepth 8000 in
set_option maxHeartbeats 8000000 in
theorem nm_expr (ck : Nat → Tr) (hw : KnOK 5 ck) (hE : ∀ n c, ck 3 = .row n (tbl 5).length c → ∀ k, k < n → NmOK (c k)) : NmOK ck := by
 intro w X hX hBD
 obtain ⟨n3, c3, hc3, hk3, A3, cap3, C3, e3, _, hA3⟩ := rd_row (e := 5) (hX.rd 3 (by decide)) (hw 3 (by decide))
 obtain ⟨z0, _, e0, _⟩ := rd_int (hX.rd 0 (by decide)) (hw 0 (by decide))
 obtain ⟨s2, _, e2, _⟩ := rd_str (hX.rd 2 (by decide)) (hw 2 (by decide))
 have hXs : X.size = 4 := hX.size
 have g0 : X[0]? = some (.int .i64 z0) := at_eq hXs (by decide) e0
 have g2 : X[2]? = some (.string s2) := at_eq hXs (by decide) e2
 have g3 : X[3]? = some (.slice A3 n3 cap3) := at_eq hXs (by decide) e3
 have HE := hide (fun k hk => hE n3 c3 hc3 k hk)
 have HND := hide (nodesE_row hc3)
 have HBD := hide hBD
 have HA := hide hA3
 have HK := hide hk3
 have hn : n3 ≤ 140737488351232 := by have := hk3.room; simp only [tby] at this; omega
 obtain ⟨i0, hi0, hz00, hz1, hz2⟩ := info_parts str_info
 clear e0 e2 e3 hA3 hk3 hc3 hE hX hw hXs hBD
 by_cases h4 : z0 = 4
 ·subst h4
  have HO0 := hide (show ((w.alloc (.cells X 226)).alloc (.cells #[.string s2] 9)).ownsRow (w.heap.size + 1) 9 1 (.slice none 0 0) 0 (strs []) from ⟨rfl, .inl ⟨rfl, rfl⟩⟩)
  go_enter Tryz.func305, Tryz.ntmps305
  go_wp2_with (at_builtin; go_loud (refine wpList_append_own2 _ rfl (.tmp 10) (.tmp 13) 173 rfl (w.heap.size + 1) 9 i0 (.string ⟨#[]⟩) 1 16 Tryz.underlying173 hi0 hz00 hz1 hz2 rfl (by decide) _ _ _ rfl HO0.out ⟨w.heap.size + 1, 0, none⟩ 1 1 (strs [s2]) rfl rfl (news1 (by simp [go_sem])) (strs_ones _) (by simp only [maxLen]; omega) (by omega) (by first | omega | (simp <;> omega)) ?_; intro A2 c2 w2 ho2 hg2 hv2; have B2 := hide (below_grown (B := w.heap.size + 1) hg2 (by simp) (own_ge HO0.out)); rw [Nat.zero_add] at ho2; have HO2 := hide (show w2.ownsRow (w.heap.size + 1) 9 1 (.slice A2 1 c2) 1 (strs [s2]) from ho2); clear ho2 hg2 hv2))
  go_loopw [3, 4] (fun v3 v4 wr => NmJ n3 (fun k => nodesE (c3 k)) (w.alloc (.cells X 226)) v3 v4 wr) (fun _ v _ => n3 - (intOf v).toNat)
  case atStart =>
   obtain ⟨e1, e2⟩ := own_srow HO2.out
   exact ⟨0, 1, c2, A2, by omega, rfl, rfl, by omega, e1, e2, Below.trans belT (B2.out.mono (by simp))⟩
  case round =>
   obtain ⟨k, m, c, A, hkn, rfl, rfl, hmk, hmc, hsr, hb⟩ := hrel
   have H0 := hide hb
   have HSR := hide hsr
   have HMK := hide hmk
   have q1B : Below w.heap.size w wr := qB hb
   have q1z := hb.size
   try simp at q1z
   have q1t : w.heap.size ≤ wr.heap.size := (by omega)
   obtain ⟨q1s0, q1n0_0, q1n0_1, q1n0_2⟩ := kB wr.heap.size w.heap.size
   have q1c0_0 := cel hb w.heap.size 0
   simp [go_sem, *] at q1c0_0
   have q1c0_2 := cel hb w.heap.size 2
   simp [go_sem, *] at q1c0_2
   have q1c0_3 := cel hb w.heap.size 3
   simp [go_sem, *] at q1c0_3
   have q1f0 := fun o => fro hb w.heap.size o
   simp [go_sem, *] at q1f0
   have q1o := belO q1B
   clear hb
   clear hsr
   by_cases hlt : k < n3
   ·have hm : (k : Int) < n3 := by omega
    have hk0 : (0 : Int) ≤ k := by omega
    have HLT := hide hlt
    have QB := hide q1B
    obtain ⟨b, off, rfl, hbl, hc⟩ := (HA.out.below q1B).cells (by decide) hlt
    have HC := hide (show ∀ j v, (elA 5 C3 k)[j]? = some v → wr.cell? ⟨b, off + k * 4 + j, none⟩ = some v from hc)
    have HX := hide ((HA.out.below q1B).el HK.out hlt)
    have HS := hide (ex_size (elA_size 5 C3 k))
    have HF := hide (show 1 + sumN (fun k => nodesE (c3 k)) k + nodesE (c3 k) ≤ 1000 from by
     have h1 := sumN_le (fun k => nodesE (c3 k)) (show k + 1 ≤ n3 from hlt)
     have h2 : sumN (fun k => nodesE (c3 k)) (k + 1) = sumN (fun k => nodesE (c3 k)) k + nodesE (c3 k) := rfl
     have h3 := HND.out
     have h4 := HBD.out
     omega)
    clear hc hlt hmk
    go_wp2_with (with_reducible refine wpList_load_midA rfl 226 (.tmp 25) rfl b (off + k * 4) rfl (elA 5 C3 k) _ HC.out Tryz.underlying226 rfl HS.out ?_)
    refine (HE.out k HLT.out _ _ HX.out (by have := HF.out; omega)).mono ?_
    rintro r w5 ⟨A5, n5, p5, rfl, hn5, hp5, hs5, hb⟩
    have HS5 := hide hs5
    have B5 := hide (hb.mono (Nat.le_refl _))
    have z5 := hb.size
    have HN5 := hide hn5
    have hn5 : n5 ≤ 1000 := by have := HF.out; omega
    have HSR5 := hide (HSR.out.below hb)
    clear hb hs5
    go_wp2_with fail
    go_loopw [3, 6] (fun v3 v6 wr => NmK n5 (1 + sumN (fun k => nodesE (c3 k)) k) w5 v3 v6 wr) (fun _ v _ => n5 - (intOf v).toNat)
    case atStart => exact ⟨0, m, c, A, by omega, rfl, rfl, by have := HMK.out; omega, hmc, HSR5.out, Below.refl _ _⟩
    case round =>
     obtain ⟨j, mj, cj, Aj, hj, rfl, rfl, hmj, hcj, hsj, hb⟩ := hrel
     have HJ0 := hide hb
     have HMJ := hide hmj
     have HSJ := hide hsj
     have z6 := hb.size
     by_cases hjt : j < n5
     ·have hm : (j : Int) < n5 := by omega
      have hj0 : (0 : Int) ≤ j := by omega
      have HJT := hide hjt
      obtain ⟨b6, off6, s6, rfl, hbl6, hc6⟩ := (HS5.out.below hb).at hjt
      clear hjt hj hb hsj hmj
      go_wp2_with fail
      refine (wins_any Aj mj cj s6 (by have h1 := HMJ.out; have h2 := HF.out; have h3 := HN5.out; have h4 := HJT.out; omega) hcj _ HSJ.out).mono ?_
      rintro r w7 ⟨A7, n7, p7, rfl, hn7, hp7, hs7, hb⟩
      go_wp2_with fail
      go_roundw
      case rel => exact ⟨j + 1, n7, p7, A7, HJT.out, by go_num, rfl, by have := HMJ.out; omega, hp7, hs7, HJ0.out.trans (hb.mono z6)⟩
      case measure => have := HJT.out; simp [intOf]; omega
     ·obtain rfl : j = n5 := by omega
      clear hjt hj hb hsj hmj
      go_wp2_with fail
      go_roundw
      case rel => exact ⟨k + 1, mj, cj, Aj, HLT.out, by go_num, rfl, by
       have h1 := HMJ.out
       have h2 : sumN (fun k => nodesE (c3 k)) (k + 1) = sumN (fun k => nodesE (c3 k)) k + nodesE (c3 k) := rfl
       have h3 := HN5.out
       omega, hcj, HSJ.out, H0.out.trans ((B5.out.trans (HJ0.out.mono z5)).mono H0.out.size)⟩
      case measure => have := HLT.out; simp [intOf]; omega
   ·obtain rfl : k = n3 := by omega
    clear hlt hkn
    go_wp2_with fail
    go_ret
    exact ⟨_, _, _, rfl, by have h1 := HMK.out; have h2 := HND.out; omega, hmc, HSR.out, q1B⟩
 ·have d4 : (z0 == 4) = false := by simpa using h4
  go_enter Tryz.func305, Tryz.ntmps305
  go_wp2_with fail
  go_loopw [3, 4] (fun v3 v4 wr => NmJ n3 (fun k => nodesE (c3 k)) (w.alloc (.cells X 226)) v3 v4 wr) (fun _ v _ => n3 - (intOf v).toNat)
  case atStart => exact ⟨0, 0, 0, none, by omega, rfl, rfl, by omega, by omega, ⟨.inl ⟨rfl, rfl⟩, fun _ => ⟨#[]⟩, fun h => by omega⟩, Below.refl _ _⟩
  case round =>
   obtain ⟨k, m, c, A, hkn, rfl, rfl, hmk, hmc, hsr, hb⟩ := hrel
   have H0 := hide hb
   have HSR := hide hsr
   have HMK := hide hmk
   have q1B : Below w.heap.size w wr := qB hb
   have q1z := hb.size
   try simp at q1z
   have q1t : w.heap.size ≤ wr.heap.size := (by omega)
   obtain ⟨q1s0, q1n0_0, q1n0_1, q1n0_2⟩ := kB wr.heap.size w.heap.size
   have q1c0_0 := cel hb w.heap.size 0
   simp [go_sem, *] at q1c0_0
   have q1c0_2 := cel hb w.heap.size 2
   simp [go_sem, *] at q1c0_2
   have q1c0_3 := cel hb w.heap.size 3
   simp [go_sem, *] at q1c0_3
   have q1f0 := fun o => fro hb w.heap.size o
   simp [go_sem, *] at q1f0
   have q1o := belO q1B
   clear hb
   clear hsr
   by_cases hlt : k < n3
   ·have hm : (k : Int) < n3 := by omega
    have hk0 : (0 : Int) ≤ k := by omega
    have HLT := hide hlt
    have QB := hide q1B
    obtain ⟨b, off, rfl, hbl, hc⟩ := (HA.out.below q1B).cells (by decide) hlt
    have HC := hide (show ∀ j v, (elA 5 C3 k)[j]? = some v → wr.cell? ⟨b, off + k * 4 + j, none⟩ = some v from hc)
    have HX := hide ((HA.out.below q1B).el HK.out hlt)
    have HS := hide (ex_size (elA_size 5 C3 k))
    have HF := hide (show 1 + sumN (fun k => nodesE (c3 k)) k + nodesE (c3 k) ≤ 1000 from by
     have h1 := sumN_le (fun k => nodesE (c3 k)) (show k + 1 ≤ n3 from hlt)
     have h2 : sumN (fun k => nodesE (c3 k)) (k + 1) = sumN (fun k => nodesE (c3 k)) k + nodesE (c3 k) := rfl
     have h3 := HND.out
     have h4 := HBD.out
     omega)
    clear hc hlt hmk
    go_wp2_with (with_reducible refine wpList_load_midA rfl 226 (.tmp 25) rfl b (off + k * 4) rfl (elA 5 C3 k) _ HC.out Tryz.underlying226 rfl HS.out ?_)
    refine (HE.out k HLT.out _ _ HX.out (by have := HF.out; omega)).mono ?_
    rintro r w5 ⟨A5, n5, p5, rfl, hn5, hp5, hs5, hb⟩
    have HS5 := hide hs5
    have B5 := hide (hb.mono (Nat.le_refl _))
    have z5 := hb.size
    have HN5 := hide hn5
    have hn5 : n5 ≤ 1000 := by have := HF.out; omega
    have HSR5 := hide (HSR.out.below hb)
    clear hb hs5
    go_wp2_with fail
    go_loopw [3, 6] (fun v3 v6 wr => NmK n5 (1 + sumN (fun k => nodesE (c3 k)) k) w5 v3 v6 wr) (fun _ v _ => n5 - (intOf v).toNat)
    case atStart => exact ⟨0, m, c, A, by omega, rfl, rfl, by have := HMK.out; omega, hmc, HSR5.out, Below.refl _ _⟩
    case round =>
     obtain ⟨j, mj, cj, Aj, hj, rfl, rfl, hmj, hcj, hsj, hb⟩ := hrel
     have HJ0 := hide hb
     have HMJ := hide hmj
     have HSJ := hide hsj
     have z6 := hb.size
     by_cases hjt : j < n5
     ·have hm : (j : Int) < n5 := by omega
      have hj0 : (0 : Int) ≤ j := by omega
      have HJT := hide hjt
      obtain ⟨b6, off6, s6, rfl, hbl6, hc6⟩ := (HS5.out.below hb).at hjt
      clear hjt hj hb hsj hmj
      go_wp2_with fail
      refine (wins_any Aj mj cj s6 (by have h1 := HMJ.out; have h2 := HF.out; have h3 := HN5.out; have h4 := HJT.out; omega) hcj _ HSJ.out).mono ?_
      rintro r w7 ⟨A7, n7, p7, rfl, hn7, hp7, hs7, hb⟩
      go_wp2_with fail
      go_roundw
      case rel => exact ⟨j + 1, n7, p7, A7, HJT.out, by go_num, rfl, by have := HMJ.out; omega, hp7, hs7, HJ0.out.trans (hb.mono z6)⟩
      case measure => have := HJT.out; simp [intOf]; omega
     ·obtain rfl : j = n5 := by omega
      clear hjt hj hb hsj hmj
      go_wp2_with fail
      go_roundw
      case rel => exact ⟨k + 1, mj, cj, Aj, HLT.out, by go_num, rfl, by
       have h1 := HMJ.out
       have h2 : sumN (fun k => nodesE (c3 k)) (k + 1) = sumN (fun k => nodesE (c3 k)) k + nodesE (c3 k) := rfl
       have h3 := HN5.out
       omega, hcj, HSJ.out, H0.out.trans ((B5.out.trans (HJ0.out.mono z5)).mono H0.out.size)⟩
      case measure => have := HLT.out; simp [intOf]; omega
   ·obtain rfl : k = n3 := by omega
    clear hlt hkn
    go_wp2_with fail
    go_ret
    exact ⟨_, _, _, rfl, by have h1 := HMK.out; have h2 := HND.out; omega, hmc, HSR.out, q1B⟩
end Go.Proofs.YtpghciiifnjimaaGreatDoor
namespace Go.Proofs.YtpghciiifnjimaaGreatDoor
set_option maxRecDepth 4000
set_option linter.unusedSimpArgs false
set_option linter.unusedVariables false
open Go.RowKit
def PuB (w : World) (e : Ending) (w' : World) : Prop := (∃ b : Bool, e = .returned (.bool b)) ∧ w = w'
def PuT (w : World) (e : Ending) (w' : World) : Prop := (∃ (z : Int) (b : Bool), e = .returned (.tuple #[.int .i64 z, .bool b])) ∧ w = w'
/-- A row of some numbers. -/
def IRow (w : World) (A : Option Addr) (n : Nat) : Prop := ((A = none ∧ n = 0) ∨ ∃ b off, A = some ⟨b, off, none⟩) ∧ ∃ Z : Nat → Int, RowS w A n 1 (fun k _ => .int .i64 (Z k))
theorem IRow.at {w : World} {A : Option Addr} {n : Nat} (h : IRow w A n) (h0 : 0 < n) : ∃ b off, A = some ⟨b, off, none⟩ ∧ b < w.heap.size ∧ ∀ k, k < n → ∃ z : Int, w.cell? ⟨b, off + k, none⟩ = some (.int .i64 z) := by
 obtain ⟨_, Z, h⟩ := h
 obtain ⟨b, off, e, hb, hc⟩ := h h0
 exact ⟨b, off, e, hb, fun k hk => ⟨Z k, by have := hc k 0 hk (by decide); simpa using this⟩⟩
theorem wgood11_any (x : Int) (w : World) : Calls Tryz.prog 307 #[.int .i64 x] w (PuB w) := by
 go_enter Tryz.func307, Tryz.ntmps307
 go_wp2_with fail
 all_goals (go_ret; exact ⟨⟨_, rfl⟩, rfl⟩)
theorem wscal_any (x : Int) (w : World) : Calls Tryz.prog 335 #[.int .i64 x] w (PuB w) := by
 go_enter Tryz.func335, Tryz.ntmps335
 go_wp2_with fail
 all_goals (go_ret; exact ⟨⟨_, rfl⟩, rfl⟩)
set_option maxHeartbeats 4000000 in
theorem wprod_any (x y : Int) (w : World) : Calls Tryz.prog 340 #[.int .i64 x, .int .i64 y] w (PuT w) := by
 go_enter Tryz.func340, Tryz.ntmps340
 go_wp2_with (go_at_call 335; refine (wscal_any _ _).mono ?_; rintro r w1 ⟨⟨b, rfl⟩, rfl⟩)
 all_goals (first | go_ret | go_ret2) <;> exact ⟨⟨_, _, rfl⟩, rfl⟩
set_option maxRecDepth 8000 in
set_option maxHeartbeats 16000000 in
theorem wtwo_any (op x y : Int) (w : World) : Calls Tryz.prog 336 #[.int .i64 op, .int .i64 x, .int .i64 y] w (PuT w) := by
 go_enter Tryz.func336, Tryz.ntmps336
 go_wp2_with (first | (go_at_call 335; refine (wscal_any _ _).mono ?_; rintro r w1 ⟨⟨b, rfl⟩, rfl⟩) | (go_at_call 340; refine (wprod_any _ _ _).mono ?_; rintro r w1 ⟨⟨z, b, rfl⟩, rfl⟩))
 all_goals (first | go_ret | go_ret2) <;> exact ⟨⟨_, _, rfl⟩, rfl⟩
def TuT (w : World) (e : Ending) (w' : World) : Prop := (∃ (z : Int) (b : Bool), e = .returned (.tuple #[.int .i64 z, .bool b])) ∧ Below w.heap.size w w'
set_option maxRecDepth 8000 in
set_option maxHeartbeats 8000000 in
theorem wresult_any (op : Int) (A : Option Addr) (n cap : Nat) (w : World) (hA : IRow w A n) : Calls Tryz.prog 330 #[.int .i64 op, .slice A n cap] w (TuT w) := by
 have HA := hide hA
 clear hA
 by_cases h1 : n = 1
 ·subst h1
  obtain ⟨b, off, rfl, hb, hc⟩ := HA.out.at (by decide)
  obtain ⟨z0, c0⟩ := hc 0 (by decide)
  rw [Nat.add_zero] at c0
  clear hc
  go_enter Tryz.func330, Tryz.ntmps330
  go_wp2_with fail
  all_goals try ((first | go_ret | go_ret2) <;> exact ⟨⟨_, _, rfl⟩, by (repeat (first | (with_reducible first | exact Below.refl _ _ | assumption | refine Below.drew ?_) | ((with_reducible first | refine Below.alloc ?_ ?_ _ | refine Below.setCell ?_ ?_ _); rotate_left; (first | omega | (simp <;> omega)))))⟩)
  ·
   refine ord_start (SB (w.heap.size) [] _) 9 (preB 0 9) (by kernel_rfl) (by kernel_rfl) (by kernel_rfl) SB.refl.drew (fun hHeld => ?_)
   refine oS (i := 0) (preB 1 8) rfl hHeld ?_
   (try simp only [Act.put, putS])
   refine oS (i := 1) (preB 2 7) rfl hHeld ?_
   (try simp only [Act.put, putS])
   refine oS (i := 2) (preB 3 6) rfl hHeld ?_
   (try simp only [Act.put, putS])
   refine oS (i := 3) (preB 4 5) rfl hHeld ?_
   (try simp only [Act.put, putS])
   refine oS (i := 4) (preB 5 4) rfl hHeld ?_
   (try simp only [Act.put, putS])
   refine oS (i := 5) (preB 6 3) rfl hHeld ?_
   (try simp only [Act.put, putS])
   refine wpAnyH_ready (rs := [6]) (by kernel_rfl) (by simp) ?_
   refine ord_run (i := 6) (preB 7 2) rfl (by kernel_rfl) (by rfl) (fun K hK => ?_) AllReadyH.nil
   go_simp
   go_wp2_with (go_at_call 335; refine (wscal_any _ _).mono ?_; rintro r w1 ⟨⟨b, rfl⟩, rfl⟩)
   refine hK.out _ _ ?_ (fun hHeld => ?_)
   ·exact sbT
   clear hK K
   (try simp only [Act.put, putS])
   refine oS (i := 7) (preB 8 1) rfl hHeld ?_
   (try simp only [Act.put, putS])
   refine oS (i := 8) (preB 9 0) rfl hHeld ?_
   (try simp only [Act.put, putS])
   refine wpAnyH_done (by kernel_rfl) ?_ _
   go_wp2_with fail
   all_goals (first | go_ret | go_ret2) <;> exact ⟨⟨_, _, rfl⟩, by (repeat (first | (with_reducible first | exact Below.refl _ _ | assumption | refine Below.drew ?_) | ((with_reducible first | refine Below.alloc ?_ ?_ _ | refine Below.setCell ?_ ?_ _); rotate_left; (first | omega | (simp <;> omega)))))⟩
  ·
   refine ord_start (SB (w.heap.size) [] _) 6 (preB 0 6) (by kernel_rfl) (by kernel_rfl) (by kernel_rfl) SB.refl.drew (fun hHeld => ?_)
   refine oS (i := 0) (preB 1 5) rfl hHeld ?_
   (try simp only [Act.put, putS])
   refine oS (i := 1) (preB 2 4) rfl hHeld ?_
   (try simp only [Act.put, putS])
   refine oS (i := 2) (preB 3 3) rfl hHeld ?_
   (try simp only [Act.put, putS])
   refine oS (i := 3) (preB 4 2) rfl hHeld ?_
   (try simp only [Act.put, putS])
   refine oS (i := 4) (preB 5 1) rfl hHeld ?_
   (try simp only [Act.put, putS])
   refine oS (i := 5) (preB 6 0) rfl hHeld ?_
   (try simp only [Act.put, putS])
   refine wpAnyH_done (by kernel_rfl) ?_ _
   go_wp2_with fail
   all_goals (first | go_ret | go_ret2) <;> exact ⟨⟨_, _, rfl⟩, by (repeat (first | (with_reducible first | exact Below.refl _ _ | assumption | refine Below.drew ?_) | ((with_reducible first | refine Below.alloc ?_ ?_ _ | refine Below.setCell ?_ ?_ _); rotate_left; (first | omega | (simp <;> omega)))))⟩
 by_cases h2 : n = 2
 ·subst h2
  obtain ⟨b, off, rfl, hb, hc⟩ := HA.out.at (by decide)
  obtain ⟨z0, c0⟩ := hc 0 (by decide)
  obtain ⟨z1, c1⟩ := hc 1 (by decide)
  rw [Nat.add_zero] at c0
  clear hc
  go_enter Tryz.func330, Tryz.ntmps330
  go_wp2_with fail
  all_goals
   refine ord_start (SB (w.heap.size) [] _) 12 (preB 0 12) (by kernel_rfl) (by kernel_rfl) (by kernel_rfl) SB.refl.drew (fun hHeld => ?_)
   refine oS (i := 0) (preB 1 11) rfl hHeld ?_
   (try simp only [Act.put, putS])
   refine oS (i := 1) (preB 2 10) rfl hHeld ?_
   (try simp only [Act.put, putS])
   refine oS (i := 2) (preB 3 9) rfl hHeld ?_
   (try simp only [Act.put, putS])
   refine oS (i := 3) (preB 4 8) rfl hHeld ?_
   (try simp only [Act.put, putS])
   refine oS (i := 4) (preB 5 7) rfl hHeld ?_
   (try simp only [Act.put, putS])
   refine oS (i := 5) (preB 6 6) rfl hHeld ?_
   (try simp only [Act.put, putS])
   refine oS (i := 6) (preB 7 5) rfl hHeld ?_
   (try simp only [Act.put, putS])
   refine wpAnyH_ready (rs := [7]) (by kernel_rfl) (by simp) ?_
   refine ord_run (i := 7) (preB 8 4) rfl (by kernel_rfl) (by rfl) (fun K hK => ?_) AllReadyH.nil
   go_simp
   go_wp2_with (go_at_call 336; refine (wtwo_any _ _ _ _).mono ?_; rintro r w1 ⟨⟨z, b, rfl⟩, rfl⟩)
   refine hK.out _ _ ?_ (fun hHeld => ?_)
   ·exact sbT
   clear hK K
   (try simp only [Act.put, putS])
   refine oS (i := 8) (preB 9 3) rfl hHeld ?_
   (try simp only [Act.put, putS])
   refine oS (i := 9) (preB 10 2) rfl hHeld ?_
   (try simp only [Act.put, putS])
   refine oS (i := 10) (preB 11 1) rfl hHeld ?_
   (try simp only [Act.put, putS])
   refine oS (i := 11) (preB 12 0) rfl hHeld ?_
   (try simp only [Act.put, putS])
   refine wpAnyH_done (by kernel_rfl) ?_ _
   go_wp2_with fail
   all_goals (first | go_ret | go_ret2) <;> exact ⟨⟨_, _, rfl⟩, by (repeat (first | (with_reducible first | exact Below.refl _ _ | assumption | refine Below.drew ?_) | ((with_reducible first | refine Below.alloc ?_ ?_ _ | refine Below.setCell ?_ ?_ _); rotate_left; (first | omega | (simp <;> omega)))))⟩
 by_cases h3 : n = 3
 ·subst h3
  obtain ⟨b, off, rfl, hb, hc⟩ := HA.out.at (by decide)
  obtain ⟨z0, c0⟩ := hc 0 (by decide)
  obtain ⟨z1, c1⟩ := hc 1 (by decide)
  obtain ⟨z2, c2⟩ := hc 2 (by decide)
  rw [Nat.add_zero] at c0
  clear hc
  by_cases h5 : z0 = 5
  ·have d5 : (z0 == 5) = true := by simpa using h5
   clear h5
   go_enter Tryz.func330, Tryz.ntmps330
   go_wp2_with fail
   all_goals try ((first | go_ret | go_ret2) <;> exact ⟨⟨_, _, rfl⟩, by (repeat (first | (with_reducible first | exact Below.refl _ _ | assumption | refine Below.drew ?_) | ((with_reducible first | refine Below.alloc ?_ ?_ _ | refine Below.setCell ?_ ?_ _); rotate_left; (first | omega | (simp <;> omega)))))⟩)
   refine ord_start (SB (w.heap.size) [] _) 18 (preB 0 18) (by kernel_rfl) (by kernel_rfl) (by kernel_rfl) SB.refl.drew (fun hHeld => ?_)
   refine oS (i := 0) (preB 1 17) rfl hHeld ?_
   (try simp only [Act.put, putS])
   refine oS (i := 1) (preB 2 16) rfl hHeld ?_
   (try simp only [Act.put, putS])
   refine oS (i := 2) (preB 3 15) rfl hHeld ?_
   (try simp only [Act.put, putS])
   refine oS (i := 3) (preB 4 14) rfl hHeld ?_
   (try simp only [Act.put, putS])
   refine oS (i := 4) (preB 5 13) rfl hHeld ?_
   (try simp only [Act.put, putS])
   refine oS (i := 5) (preB 6 12) rfl hHeld ?_
   (try simp only [Act.put, putS])
   refine oS (i := 6) (preB 7 11) rfl hHeld ?_
   (try simp only [Act.put, putS])
   refine oS (i := 7) (preB 8 10) rfl hHeld ?_
   (try simp only [Act.put, putS])
   refine oS (i := 8) (preB 9 9) rfl hHeld ?_
   (try simp only [Act.put, putS])
   refine oS (i := 9) (preB 10 8) rfl hHeld ?_
   (try simp only [Act.put, putS])
   refine oS (i := 10) (preB 11 7) rfl hHeld ?_
   (try simp only [Act.put, putS])
   refine oS (i := 11) (preB 12 6) rfl hHeld ?_
   (try simp only [Act.put, putS])
   refine oS (i := 12) (preB 13 5) rfl hHeld ?_
   (try simp only [Act.put, putS])
   refine oS (i := 13) (preB 14 4) rfl hHeld ?_
   (try simp only [Act.put, putS])
   refine oS (i := 14) (preB 15 3) rfl hHeld ?_
   (try simp only [Act.put, putS])
   refine oS (i := 15) (preB 16 2) rfl hHeld ?_
   (try simp only [Act.put, putS])
   refine oS (i := 16) (preB 17 1) rfl hHeld ?_
   (try simp only [Act.put, putS])
   refine oS (i := 17) (preB 18 0) rfl hHeld ?_
   (try simp only [Act.put, putS])
   refine wpAnyH_done (by kernel_rfl) ?_ _
   go_wp2_with fail
   all_goals (first | go_ret | go_ret2) <;> exact ⟨⟨_, _, rfl⟩, by (repeat (first | (with_reducible first | exact Below.refl _ _ | assumption | refine Below.drew ?_) | ((with_reducible first | refine Below.alloc ?_ ?_ _ | refine Below.setCell ?_ ?_ _); rotate_left; (first | omega | (simp <;> omega)))))⟩
  ·have d5 : (z0 == 5) = false := by simpa using h5
   clear h5
   go_enter Tryz.func330, Tryz.ntmps330
   go_wp2_with fail
   all_goals try ((first | go_ret | go_ret2) <;> exact ⟨⟨_, _, rfl⟩, by (repeat (first | (with_reducible first | exact Below.refl _ _ | assumption | refine Below.drew ?_) | ((with_reducible first | refine Below.alloc ?_ ?_ _ | refine Below.setCell ?_ ?_ _); rotate_left; (first | omega | (simp <;> omega)))))⟩)
   refine ord_start (SB (w.heap.size) [] _) 18 (preB 0 18) (by kernel_rfl) (by kernel_rfl) (by kernel_rfl) SB.refl.drew (fun hHeld => ?_)
   refine oS (i := 0) (preB 1 17) rfl hHeld ?_
   (try simp only [Act.put, putS])
   refine oS (i := 1) (preB 2 16) rfl hHeld ?_
   (try simp only [Act.put, putS])
   refine oS (i := 2) (preB 3 15) rfl hHeld ?_
   (try simp only [Act.put, putS])
   refine oS (i := 3) (preB 4 14) rfl hHeld ?_
   (try simp only [Act.put, putS])
   refine oS (i := 4) (preB 5 13) rfl hHeld ?_
   (try simp only [Act.put, putS])
   refine oS (i := 5) (preB 6 12) rfl hHeld ?_
   (try simp only [Act.put, putS])
   refine oS (i := 6) (preB 7 11) rfl hHeld ?_
   (try simp only [Act.put, putS])
   refine oS (i := 7) (preB 8 10) rfl hHeld ?_
   (try simp only [Act.put, putS])
   refine ord_skip (i := 8) (preB 9 9) rfl (by kernel_rfl) (by kernel_rfl) (by kernel_rfl) (by kernel_rfl) (fun _ _ _ h => h) hHeld (by rfl) ?_
   (try simp only [Act.put, putS])
   refine ord_skip (i := 9) (preB 10 8) rfl (by kernel_rfl) (by kernel_rfl) (by kernel_rfl) (by kernel_rfl) (fun _ _ _ h => h) hHeld (by rfl) ?_
   (try simp only [Act.put, putS])
   refine ord_skip (i := 10) (preB 11 7) rfl (by kernel_rfl) (by kernel_rfl) (by kernel_rfl) (by kernel_rfl) (fun _ _ _ h => h) hHeld (by rfl) ?_
   (try simp only [Act.put, putS])
   refine ord_skip (i := 11) (preB 12 6) rfl (by kernel_rfl) (by kernel_rfl) (by kernel_rfl) (by kernel_rfl) (fun _ _ _ h => h) hHeld (by rfl) ?_
   (try simp only [Act.put, putS])
   refine ord_skip (i := 12) (preB 13 5) rfl (by kernel_rfl) (by kernel_rfl) (by kernel_rfl) (by kernel_rfl) (fun _ _ _ h => h) hHeld (by rfl) ?_
   (try simp only [Act.put, putS])
   refine ord_skip (i := 13) (preB 14 4) rfl (by kernel_rfl) (by kernel_rfl) (by kernel_rfl) (by kernel_rfl) (fun _ _ _ h => h) hHeld (by rfl) ?_
   (try simp only [Act.put, putS])
   refine ord_skip (i := 14) (preB 15 3) rfl (by kernel_rfl) (by kernel_rfl) (by kernel_rfl) (by kernel_rfl) (fun _ _ _ h => h) hHeld (by rfl) ?_
   (try simp only [Act.put, putS])
   refine oS (i := 15) (preB 16 2) rfl hHeld ?_
   (try simp only [Act.put, putS])
   refine oS (i := 16) (preB 17 1) rfl hHeld ?_
   (try simp only [Act.put, putS])
   refine oS (i := 17) (preB 18 0) rfl hHeld ?_
   (try simp only [Act.put, putS])
   refine wpAnyH_done (by kernel_rfl) ?_ _
   go_wp2_with fail
   all_goals (first | go_ret | go_ret2) <;> exact ⟨⟨_, _, rfl⟩, by (repeat (first | (with_reducible first | exact Below.refl _ _ | assumption | refine Below.drew ?_) | ((with_reducible first | refine Below.alloc ?_ ?_ _ | refine Below.setCell ?_ ?_ _); rotate_left; (first | omega | (simp <;> omega)))))⟩
 have e1 : ((n : Int) == 1) = false := by simp; omega
 have e2 : ((n : Int) == 2) = false := by simp; omega
 have e3 : ((n : Int) == 3) = false := by simp; omega
 have e1' : (n == 1) = false := by simp; omega
 have e2' : (n == 2) = false := by simp; omega
 have e3' : (n == 3) = false := by simp; omega
 go_enter Tryz.func330, Tryz.ntmps330
 go_wp2_with fail
 all_goals ((first | go_ret | go_ret2) <;> exact ⟨⟨_, _, rfl⟩, by (repeat (first | (with_reducible first | exact Below.refl _ _ | assumption | refine Below.drew ?_) | ((with_reducible first | refine Below.alloc ?_ ?_ _ | refine Below.setCell ?_ ?_ _); rotate_left; (first | omega | (simp <;> omega)))))⟩)
end Go.Proofs.YtpghciiifnjimaaGreatDoor
