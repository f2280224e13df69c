/- Texts laid together: Eyq ExH Eyr. -/
import Derived.Test.YtdjlaiilngechaaGreatDoorXEyp
import Derived.Test.YtdjlaiilngechaaGreatDoorXExT
import Derived.Test.YtdjlaiilngechaaGreatDoorXExG
import Derived.Test.YtdjlaiilngechaaGreatDoorXExW
import Derived.Test.YtdjlaiilngechaaGreatDoorXK0
namespace Go.Proofs.YtdjlaiilngechaaGreatDoor
set_option maxRecDepth 4000
set_option linter.unusedSimpArgs false
set_option linter.unusedVariables false
open Go.RowKit
theorem ex_ents (later : Int) (b1 b2 : Nat) (k j : Nat) (hk : k < 2) (hj : j < 10) : (#[Value.int .i64 0, .int .i64 0, .int .i64 0, .int .i64 1, .int .i64 0, .int .i64 0, .string tD, .string tNone, .slice (some ⟨b1, 0, none⟩) 2 2, .int .u64 0, Value.int .i64 0, .int .i64 0, .int .i64 later, .int .i64 1, .int .i64 0, .int .i64 0, .string tD, .string tNone, .slice (some ⟨b2, 0, none⟩) 2 2, .int .u64 0] : Array Value)[k * 10 + j]? = some (entC (exE later b1 b2 k) j) := by
 match k, hk, j, hj with
 | 0, _, 0, _ | 0, _, 1, _ | 0, _, 2, _ | 0, _, 3, _ | 0, _, 4, _ | 0, _, 5, _ | 0, _, 6, _ | 0, _, 7, _ | 0, _, 8, _ | 0, _, 9, _ => rfl
 | 1, _, 0, _ | 1, _, 1, _ | 1, _, 2, _ | 1, _, 3, _ | 1, _, 4, _ | 1, _, 5, _ | 1, _, 6, _ | 1, _, 7, _ | 1, _, 8, _ | 1, _, 9, _ => rfl
theorem ex_leg (n : Int) (k j : Nat) (hk : k < 2) (hj : j < 3) : (exLg n)[k * 3 + j]? = some (legC (exLs n k) j) := by
 match k, hk, j, hj with
 | 0, _, 0, _ | 0, _, 1, _ | 0, _, 2, _ | 1, _, 0, _ | 1, _, 1, _ | 1, _, 2, _ => rfl
theorem ex_accs (k j : Nat) (hk : k < 1) (hj : j < 7) : (#[Value.int .i64 1000, .int .i64 0, .int .i64 0, .int .i64 0, .string tAnn, .string tBasic, .string tNone] : Array Value)[k * 7 + j]? = some (accC exA j) := by
 match k, hk, j, hj with
 | 0, _, 0, _ | 0, _, 1, _ | 0, _, 2, _ | 0, _, 3, _ | 0, _, 4, _ | 0, _, 5, _ | 0, _, 6, _ => rfl
theorem ex_tier {w : World} {tb : Nat} {t : TypeId} (h : w.heap[tb]? = some (.cells #[.int .i64 0, .int .i64 15000] t (0, 0))) : Row2 w (some ⟨tb, 0, none⟩) 1 (fun _ => 0) (fun _ => 15000) := fun _ =>
 ⟨tb, 0, rfl, heap_lt h, fun k hk => by
  obtain rfl : k = 0 := by omega
  exact ⟨(cell_of_cells h 0).trans rfl, (cell_of_cells h 1).trans rfl⟩⟩
theorem ex_in {w : World} {C : Array Value} {later : Int} {tb pb ab jb b1 b2 : Nat} {t1 t2 t3 t4 t5 t6 : TypeId} (h1 : w.heap[tb]? = some (.cells #[.int .i64 0, .int .i64 15000] t1 (0, 0))) (h2 : w.heap[pb]? = some (.cells (exPC tb) t2 (0, 0)))
  (h3 : w.heap[ab]? = some (.cells #[Value.int .i64 1000, .int .i64 0, .int .i64 0, .int .i64 0, .string tAnn, .string tBasic, .string tNone] t3 (0, 0)))
  (h4 : w.heap[jb]? = some (.cells #[Value.int .i64 0, .int .i64 0, .int .i64 0, .int .i64 1, .int .i64 0, .int .i64 0, .string tD, .string tNone, .slice (some ⟨b1, 0, none⟩) 2 2, .int .u64 0, Value.int .i64 0, .int .i64 0, .int .i64 later, .int .i64 1, .int .i64 0, .int .i64 0, .string tD, .string tNone, .slice (some ⟨b2, 0, none⟩) 2 2, .int .u64 0] t4 (0, 0)))
  (h5 : w.heap[b1]? = some (.cells (exLg 100000) t5 (0, 0))) (h6 : w.heap[b2]? = some (.cells (exLg 50000) t6 (0, 0))) : BkIn w (exB C later tb pb ab jb b1 b2) :=
 ⟨rowS_of h3 ex_accs, ⟨⟨rowS_of h4 (ex_ents later b1 b2), fun k hk => by
   match k, hk with
   | 0, _ => exact rowS_of h5 (ex_leg 100000)
   | 1, _ => exact rowS_of h6 (ex_leg 50000)⟩, fun k hk => by
   match k, hk with
   | 0, _ => show (2 : Nat) ≤ 1000000; decide
   | 1, _ => show (2 : Nat) ≤ 1000000; decide⟩,
  ⟨fun _ => ⟨pb, 0, rfl, heap_lt h2, fun k j v hk hv => by
   obtain rfl : k = 0 := by have : k < 1 := hk; omega
   have hv2 : (exPC tb)[j]? = some v := hv
   rw [cell_of_cells h2]
   simpa using hv2⟩, fun k hk => ex_tier h1, fun k hk => ex_tier h1⟩⟩
theorem ex_ok {C : Array Value} {later : Int} {tb pb ab jb b1 b2 : Nat} (h1 : Bks C (some ⟨ab, 0, none⟩) 1 1 (some ⟨jb, 0, none⟩) 2 2) (h2 : C[17]? = some (.slice (some ⟨pb, 0, none⟩) 1 1)) (h3 : C.all (·.oneCell') = true) : BkOK (exB C later tb pb ab jb b1 b2) :=
 ⟨h1, h2, by show (1 : Nat) ≤ 1000000; decide, by show (2 : Nat) ≤ 1000000; decide, by show (1 : Nat) ≤ 1000000; decide, h3, fun _ _ => ex_prc tb,
  fun _ _ => ⟨by show (1 : Nat) ≤ 1000000; decide, fun _ _ => ⟨⟨by show (-9223372036854775808 : Int) ≤ 0; decide, by show (0 : Int) ≤ 9223372036854775807; decide⟩, ⟨by show (-9223372036854775808 : Int) ≤ 15000; decide, by show (15000 : Int) ≤ 9223372036854775807; decide⟩⟩, ⟨by show (-9223372036854775808 : Int) ≤ 2; decide, by show (2 : Int) ≤ 9223372036854775807; decide⟩⟩,
  fun _ _ => ⟨by show (1 : Nat) ≤ 1000000; decide, fun _ _ => ⟨⟨by show (-9223372036854775808 : Int) ≤ 0; decide, by show (0 : Int) ≤ 9223372036854775807; decide⟩, ⟨by show (-9223372036854775808 : Int) ≤ 15000; decide, by show (15000 : Int) ≤ 9223372036854775807; decide⟩⟩, ⟨by show (-9223372036854775808 : Int) ≤ 2; decide, by show (2 : Int) ≤ 9223372036854775807; decide⟩⟩⟩
/-! ### The text -/
theorem ex_fmt0 : fmtL 0 = [50, 48, 48, 48, 45, 48, 49, 45, 48, 49] := by
 obtain ⟨e1, e2, e3⟩ := civ_of (show CivIs 0 2000 1 1 by unfold CivIs; decide)
 rw [fmt_yes rfl, e1, e2, e3]; rfl
theorem ex_fmt9 : fmtL 9 = [50, 48, 48, 48, 45, 48, 49, 45, 49, 48] := by
 obtain ⟨e1, e2, e3⟩ := civ_of (show CivIs 9 2000 1 10 by unfold CivIs; decide)
 rw [fmt_yes rfl, e1, e2, e3]; rfl
theorem ex_amt : amtL 100000 2 = [49, 48, 48, 48, 46, 48, 48] := by
 rw [(amt_yes (show mnB 100000 2 = true by decide)).1]
 unfold mnL wholeL
 rw [show (100000 : Int).natAbs / 10 ^ (2 : Int).toNat = 1000 from by decide, dec_step (by decide), dec_step (by decide), dec_step (by decide), dec_one (by decide)]
 rfl
theorem ex_amt41 : amtL 41 2 = [48, 46, 52, 49] := by
 rw [(amt_yes (show mnB 41 2 = true by decide)).1]
 unfold mnL wholeL
 rw [show (41 : Int).natAbs / 10 ^ (2 : Int).toNat = 0 from by decide, dec_one (by decide)]
 rfl
theorem ex_i15000 : Lib.itoa 15000 = [49, 53, 48, 48, 48] := by
 rw [show (15000 : Int) = ((15000 : Nat) : Int) from rfl, Lib.itoa_nonneg, dec_step (by decide), dec_step (by decide), dec_step (by decide), dec_step (by decide), dec_one (by decide)]
 rfl
theorem ex_i10 : Lib.itoa 10 = [49, 48] := by
 rw [show (10 : Int) = ((10 : Nat) : Int) from rfl, Lib.itoa_nonneg, dec_step (by decide), dec_one (by decide)]
 rfl
def exT : List UInt8 := [50, 48, 48, 48, 45, 48, 49, 45, 48, 49, 32, 116, 111, 32, 50, 48, 48, 48, 45, 48, 49, 45, 49, 48, 58, 32, 49, 48, 48, 48, 46, 48, 48, 44, 32, 49, 48, 48, 48, 46, 48, 48, 32, 97, 116, 32, 49, 53, 48, 48, 48, 32, 112, 112, 109, 44, 32, 49, 48, 32, 100, 97, 121, 115, 58, 32, 48, 46, 52, 49]
theorem ex_text : tE exL1 2 = 0 ∧ tL exL1 2 = exT := by
 have h := tE_ok (x := exL1) (d := 2) (by decide +kernel) (by decide) (by decide +kernel)
 refine ⟨h.1, h.2.trans ?_⟩
 have hv : raV exL1.gr = 41 := by decide +kernel
 rw [hv]
 unfold hdL endL
 show (((((fmtL 0 ++ [32, 116, 111, 32]) ++ fmtL 9) ++ [58, 32]) ++ amtL 100000 2) ++ ([] ++ pcL 100000 15000 2)) ++ ([44, 32] ++ (Lib.itoa 10 ++ ([32, 100, 97, 121, 115, 58, 32] ++ amtL 41 2))) = exT
 unfold pcL
 rw [ex_fmt0, ex_fmt9, ex_amt, ex_amt41, ex_i15000, ex_i10]
 rfl
end Go.Proofs.YtdjlaiilngechaaGreatDoor
namespace Go.Proofs.YtdjlaiilngechaaGreatDoor
set_option maxRecDepth 4000
set_option linter.unusedSimpArgs false
set_option linter.unusedVariables false
open Go.RowKit Go
attribute [local go_sem] Oper.semAt_some
/-- The body's state behind the assignment. -/
def LiX (C : Array Value) (id f t : Int) (w w1 : World) (A : Option Addr) (ln c : Nat) (x : LnR) (a' : Act) (W : World) : Prop :=
 ∃ p, w1.heap.size + 3 ≤ p ∧ W.heap[p]? = some (.cells (LinC x.1 x.2.1 x.2.2) 58 (0, 0)) ∧
  a' = { tmps := #[.agg C, .int .i64 id, .int .i64 f, .int .i64 t, .pointer (some ⟨w.heap.size, 0, none⟩), undef, undef, undef, .slice none 0 0, .int .i64 0, .slice A ln c, .int .i64 0, .pointer (some ⟨w1.heap.size, 0, none⟩), .pointer (some ⟨p, 0, none⟩),
   .tuple #[.slice A ln c, .int .i64 0], .agg C, .int .i64 id, .int .i64 f, .int .i64 t, .tuple #[.slice A ln c, .int .i64 0], .slice A ln c, .int .i64 0, .int .i64 0, .bool false, undef, .agg C, .slice A ln c,
   .func (.func 47) #[] #[.pointer (some ⟨w1.heap.size + 1 + 1, 0, none⟩), .pointer (some ⟨w1.heap.size + 1, 0, none⟩)], LinV x.1 x.2.1 x.2.2, undef, undef, undef, undef, undef], defers := [] }
theorem liX_own {C : Array Value} {id f t : Int} {w w1 : World} {A : Option Addr} {ln c z : Nat} (x : LnR) (a' : Act) : OwnFrom z (fun (_ : Unit) W => LiX C id f t w w1 A ln c x a' W) := by
 rintro u W W' row ⟨p, h1, h2, h3⟩ hg hr
 refine ⟨p, h1, (hg.block p (heap_lt h2) fun e => ?_).trans h2, h3⟩
 obtain ⟨_, o, h4, h5⟩ := hr p e.symm
 rw [h2] at h4
 injection h4 with h4
 subst h4
 cases h5
set_option maxRecDepth 100000 in
set_option maxHeartbeats 8000000 in
theorem lines_in (B : LBk) (hB : BkOK B) (id f t : Int) (hn : serE B id f t = 0 → t - f ≤ 199) (n : Nat) (h4 : 4 ≤ n) (w : World) (hw : BkIn w B) :
  CallsIn Fence.wide n Tryz.prog 8 #[.agg B.C, .int .i64 id, .int .i64 f, .int .i64 t] w (LinesRet B id f t w) := by
 have HB := hide hB
 have HW := hide hw
 have HS := hide (bk_size hB)
 have HN := hide hn
 refine callsIn_of_wp_marks Tryz.func8 rfl trivial ?_ rfl
 simp only [Tryz.ntmps8, List.size_toArray, List.length_cons, List.length_nil, Nat.reduceAdd, Nat.reduceSub, Array.replicate_succ, Array.replicate_zero, List.push_toArray, List.append_toArray, List.nil_append, List.cons_append]
 clear hn hB hw
 obtain ⟨E, hE⟩ : ∃ E, E = serE B id f t := ⟨_, rfl⟩
 gi_wp2_with (with_reducible refine wpListIn_load_row rfl 33 (.tmp 4) rfl w.heap.size rfl 33 B.C (0, 0) _ (blk_new rfl) Tryz.underlying33 rfl HS.out ?_)
 refine ⟨trivial, fun _ => (by omega), (callsIn_wide.2 (series_any B HB.out id f t _ (HW.out.below belT))).mono ?_⟩
 rintro e w1 ⟨A, c, rfl, hrow, hb⟩
 have hbk := blk_below (k := w.heap.size) (x := .cells B.C 33 (0, 0)) hb (by simp) (blk_new rfl)
 have hb1 : Below w.heap.size w w1 := Below.trans belT (hb.mono (by simp))
 have hs1 := hb.size
 simp at hs1
 clear hb
 by_cases h0 : serE B id f t = 0
 ·have hf := ser_fine h0
  rw [vday_iff, vday_iff] at hf
  have hle : f ≤ t := by
   by_cases h : t < f
   ·exfalso
    obtain ⟨a1, a2, a3⟩ := ser_fine h0
    unfold serE at h0
    rw [if_neg (by rw [a1]; decide), if_neg (by rw [a2]; decide), if_neg (by rw [a3]; decide), if_pos h] at h0
    cases h0
   ·omega
  obtain ⟨ln, hln⟩ : ∃ ln : Nat, (ln : Int) = t - f + 1 := ⟨(t - f + 1).toNat, by omega⟩
  obtain ⟨hl, hr⟩ := ser_row h0 hln hrow
  have hl2 : ln ≤ 200 := by have := HN.out h0; omega
  have hto : (t - f + 1).toNat = ln := by omega
  rw [hl, h0]
  rw [h0] at hE
  have HE := hide h0
  clear hrow hf h0 hle
  gi_wp2_with (with_reducible refine wpListIn_load_row rfl 33 (.tmp 4) rfl w.heap.size rfl 33 B.C (0, 0) _ (blk_under hbk) Tryz.underlying33 rfl HS.out ?_)
  refine ⟨trivial, fun _ => (by omega), (callsIn_wide.2 (lns_any B.C A ln c _)).mono ?_⟩
  rintro e w2 ⟨rfl, rfl⟩
  gi_wp2
  obtain ⟨i0, hi0, hz00, hz1, hz2⟩ := info_parts line_info
  have b2 := ((Boxed.new w1 37 (.slice none 0 0)).alloc (.cells B.C 33)).alloc (.cells #[.slice A ln c] 64)
  have b3 : (((w1.alloc (.cells #[.slice none 0 0] 37)).alloc (.cells B.C 33)).alloc (.cells #[.slice A ln c] 64)).heap[w1.heap.size + 1]? = some (.cells B.C 33 (0, 0)) := blk_under (blk_new (by simp))
  have b4 : Boxed (((w1.alloc (.cells #[.slice none 0 0] 37)).alloc (.cells B.C 33)).alloc (.cells #[.slice A ln c] 64)) (w1.heap.size + 1 + 1) 64 (.slice A ln c) := blk_new (by simp)
  have hB0 : Below w1.heap.size w1 (((w1.alloc (.cells #[.slice none 0 0] 37)).alloc (.cells B.C 33)).alloc (.cells #[.slice A ln c] 64)) := by (repeat (first | (with_reducible first | exact Below.refl _ _ | assumption | refine Below.drew ?_) | ((with_reducible first | refine Below.alloc ?_ ?_ _ | refine Below.setCell ?_ ?_ _); rotate_left; (first | omega | (simp <;> omega)))))
  have hsz : (((w1.alloc (.cells #[.slice none 0 0] 37)).alloc (.cells B.C 33)).alloc (.cells #[.slice A ln c] 64)).heap.size = w1.heap.size + 3 := by simp
  obtain ⟨W0, hW0⟩ : ∃ W0, (((w1.alloc (.cells #[.slice none 0 0] 37)).alloc (.cells B.C 33)).alloc (.cells #[.slice A ln c] 64)) = W0 := ⟨_, rfl⟩
  rw [hW0] at b2 b3 b4 hB0 hsz ⊢
  clear hW0
  have hz : w1.heap.size < W0.heap.size := by omega
  have HSZ := hide hsz
  clear hsz
  refine wpIn_range_told rfl (by omega) (gf := 47) (lb := #[.pointer (some ⟨w1.heap.size + 1 + 1, 0, none⟩), .pointer (some ⟨w1.heap.size + 1, 0, none⟩)]) rfl trivial (enters_of Tryz.func47 (by kernel_rfl) rfl)
   (lines1_told B HB.out w1.heap.size (w1.heap.size + 1 + 1) (w1.heap.size + 1) A ln c (acrN B id f) (fun k _ => acrN_fine B id f k) hl2 w1 W0 (HW.out.below hb1) hr hB0 (Nat.le_refl _) (by omega) (by omega) (by omega) b4 b3 (obW_boxed b2) (n - 1) (by omega))
   (fun W => KpL.refl _ W) (fun h k => KpL.trans h k) (fun W o h => KpL.alloc W o (by have := HSZ.out; omega)) (fun W l o o' h1 h2 h3 _ => kpL_put W l o o' (by have := HSZ.out; omega) h2 h3) (fun _ => rfl)
   (LiI w1.heap.size W0.heap.size w1) (liI_stay hz w1) (told_own (nb := w1.heap.size) _ _) ⟨⟨_, b2, by simp, .inl ⟨rfl, rfl⟩⟩, hB0, Nat.le_refl _⟩
   (LiX B.C id f t w w1 A ln c) (fun x a' => liX_own x a') ?assign ?body ?done
  case assign =>
   rintro l pre x W K hI hK
   have hI2 := hI
   obtain ⟨⟨v, hv, ho⟩, hb, hzW⟩ := hI2
   have hlt := hv.lt
   gi_wp2
   exact hK _ _ ((KeepsOthers.alloc W _).from _) (KpL.alloc W _ hlt) (liI_stay hz w1 pre W _ none hI (World.grownBy_alloc W _ none) (fun r e => by cases e)) ⟨W.heap.size, by have := HSZ.out; omega, blk_new rfl, rfl⟩
  case body =>
   rintro l pre x a' W ⟨⟨v, hv, ho⟩, hb, hzW⟩ ⟨p, hp, hh, rfl⟩ hlen
   have hc := hv.cell
   have hf := hv.frozen
   have hlt := hv.lt
   have hnr : some w1.heap.size ≠ v.ownBlock := fun e => by have := (ho.lt _ e.symm).1; omega
   have y0 := cell_of_cells hh 0
   have y1 := cell_of_cells hh 1
   have y2 := cell_of_cells hh 2
   have y3 := cell_of_cells hh 3
   have y4 := cell_of_cells hh 4
   have y5 := cell_of_cells hh 5
   have y6 := cell_of_cells hh 6
   simp [go_sem] at y0 y1 y2 y3 y4 y5 y6
   gi_wp2_with (gi_at_builtin; go_loud (refine wpListIn_append_own2 _ rfl (.tmp 29) (.tmp 31) 37 rfl W0.heap.size 58 i0 (.agg #[.int .i64 0, .int .i64 0, .int .i64 0, .int .i64 0, .slice none 0 0, .int .i64 0, .int .u64 0]) 7 72 Tryz.underlying37 hi0 hz00 hz1 hz2 rfl (by decide) _ _ _ rfl (ho.alloc _) ⟨W.heap.size, 0, none⟩ 1 1 (linLL x) rfl rfl (news_new (cs := ⟨linLL x⟩) (by simp)) (ones_all rfl) (by simp only [maxLen]; omega) (by omega) (by simp; omega) ?_); intro A1 c1 w9 ho9 hg9 hv9; have hb9 := (hv.alloc (.cells ⟨linLL x⟩ 58)).kept hg9 hnr; have hc9 := hb9.cell; have hf9 := hb9.frozen)
   exact liI_step hz hv ho hb hzW hg9 ho9 hv9
  case done =>
   rintro D xs W hD ⟨hm, hsl⟩ hI hK
   have hI2 := hI
   obtain ⟨⟨v, hv, ho⟩, hb, hzW⟩ := hI2
   have hcell := hv.cell
   gi_wp2
   refine ⟨by simp, .inl ⟨_, _, rfl, run_takeDeferred hK, ?_⟩⟩
   have hI3 := liI_stay hz w1 xs W (W.putObj D (.deferred none)) (some D) hI (grownBy_putObj' W D _) (fun r e => by cases e; exact ⟨hD, _, hK, fun h => by cases h⟩)
   have hS3 := (told_own (nb := w1.heap.size) (z := W0.heap.size) (fun k => oneP B (acrN B id f k)) ln).putObj (.deferred none) ⟨hm, hsl⟩ hD hK rfl
   obtain ⟨⟨v3, hv3, ho3⟩, hb3, _⟩ := hI3
   have hv4 : v3 = v := by
    have h1 : (W.putObj D (.deferred none)).heap[w1.heap.size]? = W.heap[w1.heap.size]? := World.putObj_heap_other (by omega)
    have h2 := hv3.symm.trans (h1.trans hv)
    injection h2 with h2
    injection h2 with h2
    simpa using h2
   subst hv4
   obtain ⟨A3, c3, hv5, hrl⟩ := own_rowLn ho3 hS3.2
   refine ⟨_, results_tmp2 rfl _ _ _, A3, c3, xs, ?_, hrl, ?_, hb1.trans (hb3.mono (by omega))⟩
   ·rw [HE.out, ← hv5]; rfl
   ·rw [hS3.1]
    unfold lnsL
    rw [if_pos HE.out, hto]
 ·have h0b : ¬ E = 0 := by rw [hE]; exact h0
  rw [← hE]
  have h1b : (E == 0) = false := beq_eq_false_iff_ne.2 h0b
  gi_wp2
  refine ⟨_, results_tmp2 rfl _ _ _, none, 0, [], ?_, ⟨fun hn => absurd hn (by simp), fun k hk => absurd hk (by simp)⟩, ?_, hb1⟩
  ·rfl
  ·unfold lnsL
   rw [if_neg (by rw [← hE]; exact h0b)]
   rfl
/-- Lines of package explain, for spans of at most 200 days. -/
theorem lines_any (B : LBk) (hB : BkOK B) (id f t : Int) (hn : serE B id f t = 0 → t - f ≤ 199) (w : World) (hw : BkIn w B) :
  Calls Tryz.prog 8 #[.agg B.C, .int .i64 id, .int .i64 f, .int .i64 t] w (LinesRet B id f t w) :=
 (callsIn_wide (n := 4)).1 (lines_in B hB id f t hn 4 (by decide) w hw)
end Go.Proofs.YtdjlaiilngechaaGreatDoor
namespace Go.Proofs.YtdjlaiilngechaaGreatDoor
set_option maxRecDepth 4000
set_option linter.unusedSimpArgs false
set_option linter.unusedVariables false
open Go.RowKit
theorem ex_lns20 (C : Array Value) (tb pb ab jb b1 b2 : Nat) : lnsL (exB C 20 tb pb ab jb b1 b2) 1000 0 9 = [exL1] := by
 have h : serE (exB C 20 tb pb ab jb b1 b2) 1000 0 9 = 0 := rfl
 unfold lnsL
 rw [if_pos h, show ((9 : Int) - 0 + 1).toNat = 10 from rfl, lnL_congr (g := exF 20) (fun i hi => ex_line C tb pb ab jb b1 b2 20 (by omega))]
 exact ex_ln20
theorem ex_lns5 (C : Array Value) (tb pb ab jb b1 b2 : Nat) : lnsL (exB C 5 tb pb ab jb b1 b2) 1000 0 9 = [exL2, exL3] := by
 have h : serE (exB C 5 tb pb ab jb b1 b2) 1000 0 9 = 0 := rfl
 unfold lnsL
 rw [if_pos h, show ((9 : Int) - 0 + 1).toNat = 10 from rfl, lnL_congr (g := exF 5) (fun i hi => ex_line C tb pb ab jb b1 b2 5 (by omega))]
 exact ex_ln5
theorem ex_lnsN (C : Array Value) (tb pb ab jb b1 b2 : Nat) : lnsL (exB C 5 tb pb ab jb b1 b2) 1001 0 9 = [] := by
 have h : serE (exB C 5 tb pb ab jb b1 b2) 1001 0 9 = 11 := rfl
 unfold lnsL
 rw [if_neg (by rw [h]; decide)]
def onX (A : Option Addr) (c : Nat) (_ : Nat) : LnR := (exL1, A, c)
def twX (A1 : Option Addr) (c1 : Nat) (A2 : Option Addr) (c2 : Nat) : Nat → LnR
 | 0 => (exL2, A1, c1)
 | _ => (exL3, A2, c2)
theorem RowLn.congr {w : World} {A : Option Addr} {n : Nat} {x y : Nat → LnR} (h : RowLn w A n x) (e : ∀ k, k < n → x k = y k) : RowLn w A n y :=
 ⟨RowS.congr h.row fun k j hk _ => by rw [e k hk], fun k hk => by rw [← e k hk]; exact h.sl k hk⟩
def LvL1 (w : World) (e : Ending) (w' : World) : Prop := ∃ A c A1 c1, e = .returned (.tuple #[.slice A 1 c, .int .i64 0]) ∧ RowLn w' A 1 (onX A1 c1) ∧ Below w.heap.size w w'
def LvL2 (w : World) (e : Ending) (w' : World) : Prop := ∃ A c A1 c1 A2 c2, e = .returned (.tuple #[.slice A 2 c, .int .i64 0]) ∧ RowLn w' A 2 (twX A1 c1 A2 c2) ∧ Below w.heap.size w w'
def LvL0 (w : World) (e : Ending) (w' : World) : Prop := ∃ A c, e = .returned (.tuple #[.slice A 0 c, .int .i64 11]) ∧ Below w.heap.size w w'
theorem lv_lines1 {C : Array Value} {tb pb ab jb b1 b2 : Nat} (hB : BkOK (exB C 20 tb pb ab jb b1 b2)) (w : World) (hw : BkIn w (exB C 20 tb pb ab jb b1 b2)) : Calls Tryz.prog 8 #[.agg C, .int .i64 1000, .int .i64 0, .int .i64 9] w (LvL1 w) := by
 refine (lines_any _ hB 1000 0 9 (fun _ => by decide) w hw).mono ?_
 rintro e w' ⟨A, c, l, rfl, hr, hl, hb⟩
 rw [ex_lns20] at hl
 match l, hl with
 | [(x, A1, c1)], hl =>
  have e1 : x = exL1 := by simpa using hl
  subst e1
  exact ⟨A, c, A1, c1, rfl, hr.congr (fun k hk => by
   have h0 : k < 1 := hk
   obtain rfl : k = 0 := by omega
   rfl), hb⟩
theorem lv_lines2 {C : Array Value} {tb pb ab jb b1 b2 : Nat} (hB : BkOK (exB C 5 tb pb ab jb b1 b2)) (w : World) (hw : BkIn w (exB C 5 tb pb ab jb b1 b2)) : Calls Tryz.prog 8 #[.agg C, .int .i64 1000, .int .i64 0, .int .i64 9] w (LvL2 w) := by
 refine (lines_any _ hB 1000 0 9 (fun _ => by decide) w hw).mono ?_
 rintro e w' ⟨A, c, l, rfl, hr, hl, hb⟩
 rw [ex_lns5] at hl
 match l, hl with
 | [(x, A1, c1), (y, A2, c2)], hl =>
  have e1 : x = exL2 ∧ y = exL3 := by simpa using hl
  obtain ⟨rfl, rfl⟩ := e1
  exact ⟨A, c, A1, c1, A2, c2, rfl, hr.congr fun k hk => by
   have : k = 0 ∨ k = 1 := by simp at hk; omega
   rcases this with rfl | rfl <;> rfl, hb⟩
theorem lv_lines0 {C : Array Value} {tb pb ab jb b1 b2 : Nat} (hB : BkOK (exB C 5 tb pb ab jb b1 b2)) (w : World) (hw : BkIn w (exB C 5 tb pb ab jb b1 b2)) : Calls Tryz.prog 8 #[.agg C, .int .i64 1001, .int .i64 0, .int .i64 9] w (LvL0 w) := by
 refine (lines_any _ hB 1001 0 9 (fun _ => by decide) w hw).mono ?_
 rintro e w' ⟨A, c, l, rfl, hr, hl, hb⟩
 rw [ex_lnsN] at hl
 match l, hl with
 | [], hl => exact ⟨A, c, rfl, hb⟩
theorem ex_win : WIn exL1.gr := by unfold WIn; decide
theorem ex_ib1 : IB exL1.sl.length (fsts exL1.sl) (snds exL1.sl) := fun k hk => by
 obtain rfl : k = 0 := by have : k < 1 := hk; omega
 unfold IIn
 exact ⟨by decide, by decide⟩
theorem lv_sum (A : Option Addr) (c : Nat) (A1 : Option Addr) (c1 : Nat) (w : World) (hr : RowLn w A 1 (onX A1 c1)) : Calls Tryz.prog 15 #[.slice A 1 c] w fun e w' => e = .returned (.tuple #[.agg #[.int .i64 0, .int .u64 65880000000000], .int .i64 0]) ∧ Below w.heap.size w w' := by
 have h := esum_any A 1 c (onX A1 c1) (by decide) (fun k _ => ex_win) w hr
 rw [show hiW (smFV (linOf (onX A1 c1)) 1) = 0 from by kernel_rfl, show loW (smFV (linOf (onX A1 c1)) 1) = 65880000000000 from by kernel_rfl, show smFE (linOf (onX A1 c1)) 1 = 0 from by kernel_rfl] at h
 exact h
def LvT (w : World) (e : Ending) (w' : World) : Prop := ∃ A c, e = .returned (.tuple #[.slice A 1 c, .int .i64 0]) ∧ RowTx w' A 1 (fun _ => ⟨exT.toArray⟩) ∧ Below w.heap.size w w'
theorem lv_text (A : Option Addr) (c : Nat) (A1 : Option Addr) (c1 : Nat) (w : World) (hr : RowLn w A 1 (onX A1 c1)) (ht : Tab w) : Calls Tryz.prog 13 #[.slice A 1 c, .int .i64 2] w (LvT w) := by
 refine (etexts_any A 1 c (onX A1 c1) 2 (by decide) (fun k _ => ⟨by show (1 : Nat) ≤ 1000; decide, ex_win, ex_ib1⟩) w hr ht).mono ?_
 rintro e w' ⟨B, d, m, rfl, hm, hr2, hb⟩
 have h0 : txE (linOf (onX A1 c1)) 2 1 = 0 := ex_text.1
 rw [h0] at hm ⊢
 rw [if_pos rfl] at hm
 subst hm
 refine ⟨B, d, rfl, fun hn => ?_, hb⟩
 obtain ⟨g, off, e, hlt, hc⟩ := hr2 hn
 refine ⟨g, off, e, hlt, fun k hk => ?_⟩
 rw [hc k hk]
 show some (Value.string ⟨(tL exL1 2).toArray⟩) = _
 rw [ex_text.2]
def LvD (w : World) (e : Ending) (w' : World) : Prop := ∃ A c A1 c1 A2 c2, e = .returned (.slice A 2 c) ∧ RowLn w' A 2 (twX A1 c1 A2 c2) ∧ Below w.heap.size w w'
theorem lv_diff (A B : Option Addr) (c d : Nat) (A0 : Option Addr) (c0 : Nat) (A1 : Option Addr) (c1 : Nat) (A2 : Option Addr) (c2 : Nat) (w : World) (hr : RowLn w B 1 (onX A0 c0)) (hs : RowLn w A 2 (twX A1 c1 A2 c2)) : Calls Tryz.prog 18 #[.slice B 1 d, .slice A 2 c] w (LvD w) := by
 refine (diff_any A B 1 2 c d (twX A1 c1 A2 c2) (onX A0 c0) (by decide) (by decide) (fun k hk => by
  have : k = 0 ∨ k = 1 := by omega
  rcases this with rfl | rfl <;> (show (1 : Nat) ≤ 1000000; decide)) w hs hr).mono ?_
 rintro e w' ⟨E, q, l, rfl, hr2, hl, hb⟩
 rw [show dfL (twX A1 c1 A2 c2) (onX A0 c0) 1 2 = [exL2, exL3] from by kernel_rfl] at hl
 match l, hl with
 | [(x, A3, c3), (y, A4, c4)], hl =>
  have e1 : x = exL2 ∧ y = exL3 := by simpa using hl
  obtain ⟨rfl, rfl⟩ := e1
  exact ⟨E, q, A3, c3, A4, c4, rfl, hr2.congr fun k hk => by
   have : k = 0 ∨ k = 1 := by simp at hk; omega
   rcases this with rfl | rfl <;> rfl, hb⟩
theorem lv_same (A B : Option Addr) (c d : Nat) (A1 : Option Addr) (c1 : Nat) (A2 : Option Addr) (c2 : Nat) (B1 : Option Addr) (d1 : Nat) (B2 : Option Addr) (d2 : Nat) (w : World) (hr : RowLn w A 2 (twX A1 c1 A2 c2)) (hs : RowLn w B 2 (twX B1 d1 B2 d2)) : Calls Tryz.prog 10 #[.slice A 2 c, .slice B 2 d] w fun e w' => e = .returned (.bool true) ∧ Below w.heap.size w w' := by
 refine (rsameX_any A B 2 2 c d _ _ (by decide) (fun k hk => by
  have : k = 0 ∨ k = 1 := by omega
  rcases this with rfl | rfl <;> (show (1 : Nat) ≤ 140737488355328; decide)) w hr hs).mono ?_
 rintro e w' ⟨rfl, hb⟩
 refine ⟨?_, hb⟩
 rw [decide_eq_true]
 refine ⟨rfl, fun k hk => ?_⟩
 have : k = 0 ∨ k = 1 := by omega
 rcases this with rfl | rfl
 ·exact eqLn_eq.2 rfl
 ·exact eqLn_eq.2 rfl
theorem lv_mul (w : World) : Calls Tryz.prog 34 #[.int .i64 1500000000, .int .i64 43920] w fun e w' => e = .returned (.agg #[.int .i64 0, .int .u64 65880000000000]) ∧ Below w.heap.size w w' := by
 have h := rmul_any 1500000000 43920 (by decide) (by decide) (by decide) (by decide) w
 rw [show hiW (1500000000 * 43920) = 0 from by decide +kernel, show loW (1500000000 * 43920) = 65880000000000 from by decide +kernel] at h
 exact h
end Go.Proofs.YtdjlaiilngechaaGreatDoor
