/- Texts laid together: ExH ExV. -/
import Derived.Test.YtdjlaiilngechaaGreatDoorVExG
import Derived.Test.YtdjlaiilngechaaGreatDoorVK0
namespace Go.Proofs.YtdjlaiilngechaaGreatDoor
set_option maxRecDepth 4000
set_option linter.unusedSimpArgs false
set_option linter.unusedVariables false
open Go.RowKit Go
attribute [local go_sem] Oper.semAt_some
/-- The body's state behind the assignment. -/
def LiX (C : Array Value) (id f t : Int) (w w1 : World) (A : Option Addr) (ln c : Nat) (x : LnR) (a' : Act) (W : World) : Prop :=
  ∃ p, w1.heap.size + 3 ≤ p ∧ W.heap[p]? = some (.cells (LinC x.1 x.2.1 x.2.2) 58 (0, 0)) ∧
    a' = { tmps := #[.agg C, .int .i64 id, .int .i64 f, .int .i64 t, .pointer (some ⟨w.heap.size, 0, none⟩), undef, undef, undef, .slice none 0 0, .int .i64 0, .slice A ln c, .int .i64 0, .pointer (some ⟨w1.heap.size, 0, none⟩), .pointer (some ⟨p, 0, none⟩),
      .tuple #[.slice A ln c, .int .i64 0], .agg C, .int .i64 id, .int .i64 f, .int .i64 t, .tuple #[.slice A ln c, .int .i64 0], .slice A ln c, .int .i64 0, .int .i64 0, .bool false, undef, .agg C, .slice A ln c,
      .func (.func 47) #[] #[.pointer (some ⟨w1.heap.size + 1 + 1, 0, none⟩), .pointer (some ⟨w1.heap.size + 1, 0, none⟩)], LinV x.1 x.2.1 x.2.2, undef, undef, undef, undef, undef], defers := [] }
theorem liX_own {C : Array Value} {id f t : Int} {w w1 : World} {A : Option Addr} {ln c z : Nat} (x : LnR) (a' : Act) : OwnFrom z (fun (_ : Unit) W => LiX C id f t w w1 A ln c x a' W) := by
  rintro u W W' row ⟨p, h1, h2, h3⟩ hg hr
  refine ⟨p, h1, (hg.block p (heap_lt h2) fun e => ?_).trans h2, h3⟩
  obtain ⟨_, o, h4, h5⟩ := hr p e.symm
  rw [h2] at h4
  injection h4 with h4
  subst h4
  cases h5
set_option maxRecDepth 100000 in
set_option maxHeartbeats 8000000 in
theorem lines_in (B : LBk) (hB : BkOK B) (id f t : Int) (hn : serE B id f t = 0 → t - f ≤ 199) (n : Nat) (h4 : 4 ≤ n) (w : World) (hw : BkIn w B) :
    CallsIn Fence.wide n Tryz.prog 8 #[.agg B.C, .int .i64 id, .int .i64 f, .int .i64 t] w (LinesRet B id f t w) := by
  have HB := hide hB
  have HW := hide hw
  have HS := hide (bk_size hB)
  have HN := hide hn
  refine callsIn_of_wp_marks Tryz.func8 rfl trivial ?_ rfl
  simp only [Tryz.ntmps8, List.size_toArray, List.length_cons, List.length_nil, Nat.reduceAdd, Nat.reduceSub, Array.replicate_succ, Array.replicate_zero, List.push_toArray, List.append_toArray, List.nil_append, List.cons_append]
  clear hn hB hw
  obtain ⟨E, hE⟩ : ∃ E, E = serE B id f t := ⟨_, rfl⟩
  gi_wp2_with (with_reducible refine wpListIn_load_row rfl 33 (.tmp 4) rfl w.heap.size rfl 33 B.C (0, 0) _ (blk_new rfl) Tryz.underlying33 rfl HS.out ?_)
  refine ⟨trivial, fun _ => (by omega), (callsIn_wide.2 (series_any B HB.out id f t _ (HW.out.below belT))).mono ?_⟩
  rintro e w1 ⟨A, c, rfl, hrow, hb⟩
  have hbk := blk_below (k := w.heap.size) (x := .cells B.C 33 (0, 0)) hb (by simp) (blk_new rfl)
  have hb1 : Below w.heap.size w w1 := Below.trans belT (hb.mono (by simp))
  have hs1 := hb.size
  simp at hs1
  clear hb
  by_cases h0 : serE B id f t = 0
  · have hf := ser_fine h0
    rw [vday_iff, vday_iff] at hf
    have hle : f ≤ t := by
      by_cases h : t < f
      · exfalso
        obtain ⟨a1, a2, a3⟩ := ser_fine h0
        unfold serE at h0
        rw [if_neg (by rw [a1]; decide), if_neg (by rw [a2]; decide), if_neg (by rw [a3]; decide), if_pos h] at h0
        cases h0
      · omega
    obtain ⟨ln, hln⟩ : ∃ ln : Nat, (ln : Int) = t - f + 1 := ⟨(t - f + 1).toNat, by omega⟩
    obtain ⟨hl, hr⟩ := ser_row h0 hln hrow
    have hl2 : ln ≤ 200 := by have := HN.out h0; omega
    have hto : (t - f + 1).toNat = ln := by omega
    rw [hl, h0]
    rw [h0] at hE
    have HE := hide h0
    clear hrow hf h0 hle
    gi_wp2_with (with_reducible refine wpListIn_load_row rfl 33 (.tmp 4) rfl w.heap.size rfl 33 B.C (0, 0) _ (blk_under hbk) Tryz.underlying33 rfl HS.out ?_)
    refine ⟨trivial, fun _ => (by omega), (callsIn_wide.2 (lns_any B.C A ln c _)).mono ?_⟩
    rintro e w2 ⟨rfl, rfl⟩
    gi_wp2
    obtain ⟨i0, hi0, hz00, hz1, hz2⟩ := info_parts line_info
    have b2 := ((Boxed.new w1 37 (.slice none 0 0)).alloc (.cells B.C 33)).alloc (.cells #[.slice A ln c] 64)
    have b3 : (((w1.alloc (.cells #[.slice none 0 0] 37)).alloc (.cells B.C 33)).alloc (.cells #[.slice A ln c] 64)).heap[w1.heap.size + 1]? = some (.cells B.C 33 (0, 0)) := blk_under (blk_new (by simp))
    have b4 : Boxed (((w1.alloc (.cells #[.slice none 0 0] 37)).alloc (.cells B.C 33)).alloc (.cells #[.slice A ln c] 64)) (w1.heap.size + 1 + 1) 64 (.slice A ln c) := blk_new (by simp)
    have hB0 : Below w1.heap.size w1 (((w1.alloc (.cells #[.slice none 0 0] 37)).alloc (.cells B.C 33)).alloc (.cells #[.slice A ln c] 64)) := by (repeat (first | (with_reducible first | exact Below.refl _ _ | assumption | refine Below.drew ?_) | ((with_reducible first | refine Below.alloc ?_ ?_ _ | refine Below.setCell ?_ ?_ _); rotate_left; (first | omega | (simp <;> omega)))))
    have hsz : (((w1.alloc (.cells #[.slice none 0 0] 37)).alloc (.cells B.C 33)).alloc (.cells #[.slice A ln c] 64)).heap.size = w1.heap.size + 3 := by simp
    obtain ⟨W0, hW0⟩ : ∃ W0, (((w1.alloc (.cells #[.slice none 0 0] 37)).alloc (.cells B.C 33)).alloc (.cells #[.slice A ln c] 64)) = W0 := ⟨_, rfl⟩
    rw [hW0] at b2 b3 b4 hB0 hsz ⊢
    clear hW0
    have hz : w1.heap.size < W0.heap.size := by omega
    have HSZ := hide hsz
    clear hsz
    refine wpIn_range_told rfl (by omega) (gf := 47) (lb := #[.pointer (some ⟨w1.heap.size + 1 + 1, 0, none⟩), .pointer (some ⟨w1.heap.size + 1, 0, none⟩)]) rfl trivial (enters_of Tryz.func47 (by kernel_rfl) rfl)
      (lines1_told B HB.out w1.heap.size (w1.heap.size + 1 + 1) (w1.heap.size + 1) A ln c (acrN B id f) (fun k _ => acrN_fine B id f k) hl2 w1 W0 (HW.out.below hb1) hr hB0 (Nat.le_refl _) (by omega) (by omega) (by omega) b4 b3 (obW_boxed b2) (n - 1) (by omega))
      (fun W => KpL.refl _ W) (fun h k => KpL.trans h k) (fun W o h => KpL.alloc W o (by have := HSZ.out; omega)) (fun W l o o' h1 h2 h3 _ => kpL_put W l o o' (by have := HSZ.out; omega) h2 h3) (fun _ => rfl)
      (LiI w1.heap.size W0.heap.size w1) (liI_stay hz w1) (told_own (nb := w1.heap.size) _ _) ⟨⟨_, b2, by simp, .inl ⟨rfl, rfl⟩⟩, hB0, Nat.le_refl _⟩
      (LiX B.C id f t w w1 A ln c) (fun x a' => liX_own x a') ?assign ?body ?done
    case assign =>
      rintro l pre x W K hI hK
      have hI2 := hI
      obtain ⟨⟨v, hv, ho⟩, hb, hzW⟩ := hI2
      have hlt := hv.lt
      gi_wp2
      exact hK _ _ ((KeepsOthers.alloc W _).from _) (KpL.alloc W _ hlt) (liI_stay hz w1 pre W _ none hI (World.grownBy_alloc W _ none) (fun r e => by cases e)) ⟨W.heap.size, by have := HSZ.out; omega, blk_new rfl, rfl⟩
    case body =>
      rintro l pre x a' W ⟨⟨v, hv, ho⟩, hb, hzW⟩ ⟨p, hp, hh, rfl⟩ hlen
      have hc := hv.cell
      have hf := hv.frozen
      have hlt := hv.lt
      have hnr : some w1.heap.size ≠ v.ownBlock := fun e => by have := (ho.lt _ e.symm).1; omega
      have y0 := cell_of_cells hh 0
      have y1 := cell_of_cells hh 1
      have y2 := cell_of_cells hh 2
      have y3 := cell_of_cells hh 3
      have y4 := cell_of_cells hh 4
      have y5 := cell_of_cells hh 5
      have y6 := cell_of_cells hh 6
      simp [go_sem] at y0 y1 y2 y3 y4 y5 y6
      gi_wp2_with (gi_at_builtin; go_loud (refine wpListIn_append_own2 _ rfl (.tmp 29) (.tmp 31) 37 rfl W0.heap.size 58 i0 (.agg #[.int .i64 0, .int .i64 0, .int .i64 0, .int .i64 0, .slice none 0 0, .int .i64 0, .int .u64 0]) 7 72 Tryz.underlying37 hi0 hz00 hz1 hz2 rfl (by decide) _ _ _ rfl (ho.alloc _) ⟨W.heap.size, 0, none⟩ 1 1 (linLL x) rfl rfl (news_new (cs := ⟨linLL x⟩) (by simp)) (ones_all rfl) (by simp only [maxLen]; omega) (by omega) (by simp; omega) ?_); intro A1 c1 w9 ho9 hg9 hv9; have hb9 := (hv.alloc (.cells ⟨linLL x⟩ 58)).kept hg9 hnr; have hc9 := hb9.cell; have hf9 := hb9.frozen)
      exact liI_step hz hv ho hb hzW hg9 ho9 hv9
    case done =>
      rintro D xs W hD ⟨hm, hsl⟩ hI hK
      have hI2 := hI
      obtain ⟨⟨v, hv, ho⟩, hb, hzW⟩ := hI2
      have hcell := hv.cell
      gi_wp2
      refine ⟨by simp, .inl ⟨_, _, rfl, run_takeDeferred hK, ?_⟩⟩
      have hI3 := liI_stay hz w1 xs W (W.putObj D (.deferred none)) (some D) hI (grownBy_putObj' W D _) (fun r e => by cases e; exact ⟨hD, _, hK, fun h => by cases h⟩)
      have hS3 := (told_own (nb := w1.heap.size) (z := W0.heap.size) (fun k => oneP B (acrN B id f k)) ln).putObj (.deferred none) ⟨hm, hsl⟩ hD hK rfl
      obtain ⟨⟨v3, hv3, ho3⟩, hb3, _⟩ := hI3
      have hv4 : v3 = v := by
        have h1 : (W.putObj D (.deferred none)).heap[w1.heap.size]? = W.heap[w1.heap.size]? := World.putObj_heap_other (by omega)
        have h2 := hv3.symm.trans (h1.trans hv)
        injection h2 with h2
        injection h2 with h2
        simpa using h2
      subst hv4
      obtain ⟨A3, c3, hv5, hrl⟩ := own_rowLn ho3 hS3.2
      refine ⟨_, results_tmp2 rfl _ _ _, A3, c3, xs, ?_, hrl, ?_, hb1.trans (hb3.mono (by omega))⟩
      · rw [HE.out, ← hv5]; rfl
      · rw [hS3.1]
        unfold lnsL
        rw [if_pos HE.out, hto]
  · have h0b : ¬ E = 0 := by rw [hE]; exact h0
    rw [← hE]
    have h1b : (E == 0) = false := beq_eq_false_iff_ne.2 h0b
    gi_wp2
    refine ⟨_, results_tmp2 rfl _ _ _, none, 0, [], ?_, ⟨fun hn => absurd hn (by simp), fun k hk => absurd hk (by simp)⟩, ?_, hb1⟩
    · rfl
    · unfold lnsL
      rw [if_neg (by rw [← hE]; exact h0b)]
      rfl
/-- Lines of package explain, for spans of at most 200 days. -/
theorem lines_any (B : LBk) (hB : BkOK B) (id f t : Int) (hn : serE B id f t = 0 → t - f ≤ 199) (w : World) (hw : BkIn w B) :
    Calls Tryz.prog 8 #[.agg B.C, .int .i64 id, .int .i64 f, .int .i64 t] w (LinesRet B id f t w) :=
  (callsIn_wide (n := 4)).1 (lines_in B hB id f t hn 4 (by decide) w hw)
end Go.Proofs.YtdjlaiilngechaaGreatDoor
namespace Go.Proofs.YtdjlaiilngechaaGreatDoor
set_option maxRecDepth 4000
set_option linter.unusedSimpArgs false
set_option linter.unusedVariables false
open Go.RowKit
def sameX (n m : Nat) (x y : Nat → LnR) : Prop := n = m ∧ ∀ k, k < n → eqLn (x k).1 (y k).1 = true
instance (n m : Nat) (x y : Nat → LnR) : Decidable (sameX n m x y) := by unfold sameX; exact inferInstance
def SameXI (x y : Nat → LnR) (n : Nat) (w : World) (v : Value) (wr : World) : Prop :=
  ∃ k : Nat, k ≤ n ∧ v = .int .i64 k ∧ (∀ j, j < k → eqLn (x j).1 (y j).1 = true) ∧ Below w.heap.size w wr
theorem same_any' {A B : Option Addr} {n m k : Nat} {x y : Nat → LnR} {w : World} (hx : ∀ k, k < n → (x k).1.sl.length ≤ 140737488355328) (hr : RowLn w A n x) (hs : RowLn w B m y) (hk : k < n) (hk2 : k < m) (W : World) (hw : Below w.heap.size w W) :
    Calls Tryz.prog 32 #[LinV (x k).1 (x k).2.1 (x k).2.2, LinV (y k).1 (y k).2.1 (y k).2.2] W fun e w' => e = .returned (.bool (eqLn (x k).1 (y k).1)) ∧ Below W.heap.size W w' :=
  requal_any _ _ _ _ _ _ (hx k hk) W ((hr.sl k hk).below hw) ((hs.sl k hk2).below hw)
set_option maxHeartbeats 4000000 in
theorem rsameX_any (A B : Option Addr) (n m c d : Nat) (x y : Nat → LnR) (hn : n ≤ 1000000) (hx : ∀ k, k < n → (x k).1.sl.length ≤ 140737488355328) (w : World) (hr : RowLn w A n x) (hs : RowLn w B m y) :
    Calls Tryz.prog 10 #[.slice A n c, .slice B m d] w fun e w' => e = .returned (.bool (decide (sameX n m x y))) ∧ Below w.heap.size w w' := by
  by_cases hnm : n = m
  · subst hnm
    have HR := hide (And.intro hr hs)
    clear hr hs
    go_enter Tryz.func10, Tryz.ntmps10
    go_wp2_with fail
    go_loopw [5] (fun v wr => SameXI x y n w v wr) (fun v _ => n - (intOf v).toNat)
    case atStart => exact ⟨0, by omega, rfl, fun j hj => by omega, by (repeat (first | (with_reducible first | exact Below.refl _ _ | assumption | refine Below.drew ?_) | ((with_reducible first | refine Below.alloc ?_ ?_ _ | refine Below.setCell ?_ ?_ _); rotate_left; (first | omega | (simp <;> omega)))))⟩
    case round =>
      obtain ⟨k, hk, rfl, ha, hB⟩ := hrel
      have HA := hide ha
      clear ha
      have hzB := hB.size
      by_cases hlt : k < n
      · obtain ⟨b1, o1, rfl, hb1, c0, c1, c2, c3, c4, c5, c6⟩ := (HR.out.1.below hB).at hlt
        obtain ⟨b2, o2, rfl, hb2, d0, d1, d2, d3, d4, d5, d6⟩ := (HR.out.2.below hB).at hlt
        have hm1 : (k : Int) < n := by omega
        have hm3 : (0 : Int) ≤ (k : Int) := by omega
        have HK := hide hlt
        have HCL := hide (fun (W : World) (hw : Below w.heap.size w W) => same_any' hx HR.out.1 HR.out.2 hlt hlt W hw)
        clear hlt hk
        cases he : eqLn (x k).1 (y k).1 with
        | true =>
          have HD : Hid (∀ j, j < k + 1 → eqLn (x j).1 (y j).1 = true) := fun j hj => by
            rcases Nat.lt_or_ge j k with h1 | h1
            · exact HA.out j h1
            · obtain rfl : j = k := by omega
              exact he
          have HE := hide he
          clear he
          go_wp2_with fail
          refine wp_region_seq (SB (wr.heap.size) [] _) [true, true, true, true, true, true, true, true, false, true] (by kernel_rfl) (by kernel_rfl) rfl (by kernel_rfl) (fun _ _ d _ _ h => by cases d <;> exact h) SB.refl.drew (fun hHeld => ?_)
          refine seq_take ?_ (by rfl) (fun wx hSx => ?_) ?_
          rotate_left
          · (unfold SB at hSx; go_simp; (try with_reducible rfl))
          (try simp only [Act.put, putS])
          refine seq_take ?_ (by rfl) (fun wx hSx => ?_) ?_
          rotate_left
          · (unfold SB at hSx; go_simp; (try with_reducible rfl))
          (try simp only [Act.put, putS])
          refine seq_take ?_ (by rfl) (fun wx hSx => ?_) ?_
          rotate_left
          · (unfold SB at hSx; go_simp; (try with_reducible rfl))
          (try simp only [Act.put, putS])
          refine seq_take ?_ (by rfl) (fun wx hSx => ?_) ?_
          rotate_left
          · (unfold SB at hSx; go_simp; (try with_reducible rfl))
          (try simp only [Act.put, putS])
          refine seq_take ?_ (by rfl) (fun wx hSx => ?_) ?_
          rotate_left
          · (unfold SB at hSx; go_simp; (try with_reducible rfl))
          (try simp only [Act.put, putS])
          refine seq_take ?_ (by rfl) (fun wx hSx => ?_) ?_
          rotate_left
          · (unfold SB at hSx; go_simp; (try with_reducible rfl))
          (try simp only [Act.put, putS])
          refine seq_take ?_ (by rfl) (fun wx hSx => ?_) ?_
          rotate_left
          · (unfold SB at hSx; go_simp; (try with_reducible rfl))
          (try simp only [Act.put, putS])
          refine seq_take ?_ (by rfl) (fun wx hSx => ?_) ?_
          rotate_left
          · (unfold SB at hSx; go_simp; (try with_reducible rfl))
          (try simp only [Act.put, putS])
          refine seq_run (by rfl) (fun K hK => ?_)
          go_simp
          go_wp2_with (go_at_call 32; refine (HCL.out _ (hB.trans belT)).mono ?_; rintro e w1 ⟨rfl, hb⟩; rw [HE.out]; have q1B : Below wr.heap.size wr w1 := qB hb; have q1z := hb.size; (try simp at q1z); have q1t : wr.heap.size ≤ w1.heap.size := (by omega); have q1o := belO q1B; have hbS := hb; have hbS1 := hb; clear hb)
          refine hK.out _ _ ?_ (fun hHeld => ?_)
          · exact sbT
          clear hK K
          (try simp only [Act.put, putS])
          refine seq_take ?_ (by rfl) (fun wx hSx => ?_) ?_
          rotate_left
          · (unfold SB at hSx; go_simp; (try with_reducible rfl))
          (try simp only [Act.put, putS])
          refine seq_end ?_
          go_wp2_with fail
          go_roundw
          case rel => exact ⟨k + 1, HK.out, by go_num, HD.out, by refine hB.trans (Below.trans (q1B.mono (by omega)) ?_); (repeat (first | (with_reducible first | exact Below.refl _ _ | assumption | refine Below.drew ?_) | ((with_reducible first | refine Below.alloc ?_ ?_ _ | refine Below.setCell ?_ ?_ _); rotate_left; (first | omega | (simp <;> omega)))))⟩
          case measure => have := HK.out; simp [intOf]; omega
        | false =>
          have HD := hide (show decide (sameX n n x y) = false from decide_eq_false (fun h => by have := h.2 k HK.out; rw [he] at this; cases this))
          have HE := hide he
          clear he
          go_wp2_with fail
          refine wp_region_seq (SB (wr.heap.size) [] _) [true, true, true, true, true, true, true, true, false, true] (by kernel_rfl) (by kernel_rfl) rfl (by kernel_rfl) (fun _ _ d _ _ h => by cases d <;> exact h) SB.refl.drew (fun hHeld => ?_)
          refine seq_take ?_ (by rfl) (fun wx hSx => ?_) ?_
          rotate_left
          · (unfold SB at hSx; go_simp; (try with_reducible rfl))
          (try simp only [Act.put, putS])
          refine seq_take ?_ (by rfl) (fun wx hSx => ?_) ?_
          rotate_left
          · (unfold SB at hSx; go_simp; (try with_reducible rfl))
          (try simp only [Act.put, putS])
          refine seq_take ?_ (by rfl) (fun wx hSx => ?_) ?_
          rotate_left
          · (unfold SB at hSx; go_simp; (try with_reducible rfl))
          (try simp only [Act.put, putS])
          refine seq_take ?_ (by rfl) (fun wx hSx => ?_) ?_
          rotate_left
          · (unfold SB at hSx; go_simp; (try with_reducible rfl))
          (try simp only [Act.put, putS])
          refine seq_take ?_ (by rfl) (fun wx hSx => ?_) ?_
          rotate_left
          · (unfold SB at hSx; go_simp; (try with_reducible rfl))
          (try simp only [Act.put, putS])
          refine seq_take ?_ (by rfl) (fun wx hSx => ?_) ?_
          rotate_left
          · (unfold SB at hSx; go_simp; (try with_reducible rfl))
          (try simp only [Act.put, putS])
          refine seq_take ?_ (by rfl) (fun wx hSx => ?_) ?_
          rotate_left
          · (unfold SB at hSx; go_simp; (try with_reducible rfl))
          (try simp only [Act.put, putS])
          refine seq_take ?_ (by rfl) (fun wx hSx => ?_) ?_
          rotate_left
          · (unfold SB at hSx; go_simp; (try with_reducible rfl))
          (try simp only [Act.put, putS])
          refine seq_run (by rfl) (fun K hK => ?_)
          go_simp
          go_wp2_with (go_at_call 32; refine (HCL.out _ (hB.trans belT)).mono ?_; rintro e w1 ⟨rfl, hb⟩; rw [HE.out]; have q1B : Below wr.heap.size wr w1 := qB hb; have q1z := hb.size; (try simp at q1z); have q1t : wr.heap.size ≤ w1.heap.size := (by omega); have q1o := belO q1B; have hbS := hb; have hbS1 := hb; clear hb)
          refine hK.out _ _ ?_ (fun hHeld => ?_)
          · exact sbT
          clear hK K
          (try simp only [Act.put, putS])
          refine seq_take ?_ (by rfl) (fun wx hSx => ?_) ?_
          rotate_left
          · (unfold SB at hSx; go_simp; (try with_reducible rfl))
          (try simp only [Act.put, putS])
          refine seq_end ?_
          go_wp2_with fail
          go_ret
          exact ⟨by rw [HD.out]; rfl, by refine hB.trans (Below.trans (q1B.mono (by omega)) ?_); (repeat (first | (with_reducible first | exact Below.refl _ _ | assumption | refine Below.drew ?_) | ((with_reducible first | refine Below.alloc ?_ ?_ _ | refine Below.setCell ?_ ?_ _); rotate_left; (first | omega | (simp <;> omega)))))⟩
      · have hkn : k = n := by omega
        subst hkn
        have HD := hide (show decide (sameX k k x y) = true from decide_eq_true ⟨rfl, HA.out⟩)
        go_wp2_with fail
        go_ret
        exact ⟨by rw [HD.out]; rfl, by refine hB.trans ?_; (repeat (first | (with_reducible first | exact Below.refl _ _ | assumption | refine Below.drew ?_) | ((with_reducible first | refine Below.alloc ?_ ?_ _ | refine Below.setCell ?_ ?_ _); rotate_left; (first | omega | (simp <;> omega)))))⟩
  · have HD := hide (show decide (sameX n m x y) = false from decide_eq_false (fun h => hnm h.1))
    have hnm2 : ¬ (n : Int) = (m : Int) := by omega
    go_enter Tryz.func10, Tryz.ntmps10
    go_wp2_with fail
    go_ret
    exact ⟨by rw [HD.out]; rfl, by (repeat (first | (with_reducible first | exact Below.refl _ _ | assumption | refine Below.drew ?_) | ((with_reducible first | refine Below.alloc ?_ ?_ _ | refine Below.setCell ?_ ?_ _); rotate_left; (first | omega | (simp <;> omega)))))⟩
end Go.Proofs.YtdjlaiilngechaaGreatDoor
