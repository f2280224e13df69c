/- Texts laid together: Eue Open PrO. -/
import Derived.Test.YtdjlaiilngechaaGreatDoorUEud
import Derived.Test.YtdjlaiilngechaaGreatDoorUExW
import Derived.Test.YtdjlaiilngechaaGreatDoorUTierM
import Derived.Test.YtdjlaiilngechaaGreatDoorURowM
import Derived.Test.YtdjlaiilngechaaGreatDoorUAcM
import Derived.Deep.Slices
import Derived.Deep.Fields
import Derived.Sort.WalkA
import Derived.Test.YtdjlaiilngechaaGreatDoorUK0
namespace Go.Proofs.YtdjlaiilngechaaGreatDoor
set_option maxRecDepth 4000
set_option linter.unusedSimpArgs false
set_option linter.unusedVariables false
open Go.RowKit
theorem eqLn_comm (a b : Lin) : eqLn a b = eqLn b a := by
 rw [Bool.eq_iff_iff, eqLn_eq, eqLn_eq]
 exact ⟨Eq.symm, Eq.symm⟩
def RdI (x y : Nat → LnR) (n m : Nat) (w : World) (v5 v6 : Value) (wr : World) : Prop :=
 ∃ (k : Nat) (A : Option Addr) (c : Nat) (l : List LnR), k ≤ m ∧ v6 = .int .i64 k ∧ v5 = .slice A l.length c ∧ wr.ownsRow w.heap.size 58 7 (.slice A l.length c) l.length (l.flatMap linLL) ∧
  (∀ z, z ∈ l → Row2 w z.2.1 z.1.sl.length (fsts z.1.sl) (snds z.1.sl)) ∧ l.map (·.1) = dfL x y n k ∧ Below w.heap.size w wr
def RdJ (a : Lin) (y : Nat → LnR) (n : Nat) (wo : World) (v7 v8 : Value) (wr : World) : Prop :=
 ∃ j : Nat, j ≤ n ∧ v8 = .int .i64 j ∧ v7 = .bool (hasX a y j) ∧ Below wo.heap.size wo wr
set_option maxHeartbeats 8000000 in
theorem rdiff_any (A B : Option Addr) (n m c d : Nat) (x y : Nat → LnR) (hn : n ≤ 1000000) (hm : m ≤ 1000000) (hy : ∀ k, k < n → (y k).1.sl.length ≤ 1000000) (w : World) (hr : RowLn w A m x) (hs : RowLn w B n y) :
  Calls Tryz.prog 19 #[.slice B n d, .slice A m c] w (DfRet (dfL x y n m) w) := by
 have HR := hide (And.intro hr hs)
 have HY := hide hy
 clear hr hs hy
 obtain ⟨i0, hi0, hz00, hz1, hz2⟩ := info_parts line_info
 go_enter Tryz.func19, Tryz.ntmps19
 go_wp2_with fail
 go_loopw [5, 6] (fun v5 v6 wr => RdI x y n m w v5 v6 wr) (fun _ v _ => m - (intOf v).toNat)
 case atStart => exact ⟨0, none, 0, [], by omega, rfl, rfl, ⟨by simp, .inl ⟨rfl, rfl⟩⟩, fun z hz => by simp at hz, rfl, Below.refl _ _⟩
 case round =>
  rename World => wo
  obtain ⟨k, A1, c1, l, hk, rfl, rfl, ho, hv, hl, hB⟩ := hrel
  have HO := hide ho
  have HV := hide hv
  have HL := hide hl
  have HB := hide hB
  clear ho hv hl
  have hzB := hB.size
  by_cases hlt : k < m
  ·obtain ⟨b1, o1, rfl, hb1, c0, c1', c2, c3, c4, c5, c6⟩ := (HR.out.1.below hB).at hlt
   have hm1 : (k : Int) < m := by omega
   have hm3 : (0 : Int) ≤ (k : Int) := by omega
   have HK := hide hlt
   have HSL := hide ((HR.out.1.below hB).sl k hlt)
   have HSW := hide (HR.out.1.sl k hlt)
   have HLN := hide (show l.length ≤ m from by have t := congrArg List.length HL.out; rw [List.length_map] at t; have := dfL_len (x := x) (y := y) (n := n) k; omega)
   clear hlt hk
   go_wp2_with fail
   go_loopw [7, 8] (fun v7 v8 wr => RdJ (x k).1 y n wo v7 v8 wr) (fun _ v _ => n - (intOf v).toNat)
   case atStart => exact ⟨0, by omega, rfl, rfl, Below.refl _ _⟩
   case round =>
    obtain ⟨j, hj, rfl, rfl, hB2⟩ := hrel
    have HB2 := hide hB2
    have hz2' := hB2.size
    have i0' := (hB2.cell (p := ⟨b1, o1 + k * 7, none⟩) hb1).trans c0
    have i1 := (hB2.cell (p := ⟨b1, o1 + k * 7 + 1, none⟩) hb1).trans c1'
    have i2 := (hB2.cell (p := ⟨b1, o1 + k * 7 + 2, none⟩) hb1).trans c2
    have i3 := (hB2.cell (p := ⟨b1, o1 + k * 7 + 3, none⟩) hb1).trans c3
    have i4 := (hB2.cell (p := ⟨b1, o1 + k * 7 + 4, none⟩) hb1).trans c4
    have i5 := (hB2.cell (p := ⟨b1, o1 + k * 7 + 5, none⟩) hb1).trans c5
    have i6 := (hB2.cell (p := ⟨b1, o1 + k * 7 + 6, none⟩) hb1).trans c6
    have hb1' : b1 < wr.heap.size := by omega
    clear c0 c1' c2 c3 c4 c5 c6
    by_cases hlj : j < n
    ·obtain ⟨b2, o2, rfl, hb2, d0, d1, d2, d3, d4, d5, d6⟩ := ((HR.out.2.below hB).below hB2).at hlj
     have hm2 : (j : Int) < n := by omega
     have hm4 : (0 : Int) ≤ (j : Int) := by omega
     have HJ := hide hlj
     have HSJ := hide (((HR.out.2.below hB).below hB2).sl j hlj)
     have HYJ := hide (HY.out j hlj)
     clear hlj hj
     cases hf : hasX (x k).1 y j with
     | true =>
      have HF := hide (show hasX (x k).1 y (j + 1) = true from by unfold hasX; rw [hf]; rfl)
      clear hf
      go_upto_region 9 with fail
      refine ord_start (SB (wr.heap.size) [] _) 13 (preB 0 13) (by kernel_rfl) (by kernel_rfl) (by kernel_rfl) SB.refl.drew (fun hHeld => ?_)
      refine oS (i := 0) (preB 1 12) rfl hHeld ?_
      (try simp only [Act.put, putS])
      refine oS (i := 1) (preB 2 11) rfl hHeld ?_
      (try simp only [Act.put, putS])
      refine ord_skip (i := 2) (preB 3 10) rfl (by kernel_rfl) (by kernel_rfl) (by kernel_rfl) (by kernel_rfl) (fun _ _ _ h => h) hHeld (by rfl) ?_
      (try simp only [Act.put, putS])
      refine ord_skip (i := 3) (preB 4 9) rfl (by kernel_rfl) (by kernel_rfl) (by kernel_rfl) (by kernel_rfl) (fun _ _ _ h => h) hHeld (by rfl) ?_
      (try simp only [Act.put, putS])
      refine ord_skip (i := 4) (preB 5 8) rfl (by kernel_rfl) (by kernel_rfl) (by kernel_rfl) (by kernel_rfl) (fun _ _ _ h => h) hHeld (by rfl) ?_
      (try simp only [Act.put, putS])
      refine ord_skip (i := 5) (preB 6 7) rfl (by kernel_rfl) (by kernel_rfl) (by kernel_rfl) (by kernel_rfl) (fun _ _ _ h => h) hHeld (by rfl) ?_
      (try simp only [Act.put, putS])
      refine ord_skip (i := 6) (preB 7 6) rfl (by kernel_rfl) (by kernel_rfl) (by kernel_rfl) (by kernel_rfl) (fun _ _ _ h => h) hHeld (by rfl) ?_
      (try simp only [Act.put, putS])
      refine ord_skip (i := 7) (preB 8 5) rfl (by kernel_rfl) (by kernel_rfl) (by kernel_rfl) (by kernel_rfl) (fun _ _ _ h => h) hHeld (by rfl) ?_
      (try simp only [Act.put, putS])
      refine ord_skip (i := 8) (preB 9 4) rfl (by kernel_rfl) (by kernel_rfl) (by kernel_rfl) (by kernel_rfl) (fun _ _ _ h => h) hHeld (by rfl) ?_
      (try simp only [Act.put, putS])
      refine ord_skip (i := 9) (preB 10 3) rfl (by kernel_rfl) (by kernel_rfl) (by kernel_rfl) (by kernel_rfl) (fun _ _ _ h => h) hHeld (by rfl) ?_
      (try simp only [Act.put, putS])
      refine ord_skip (i := 10) (preB 11 2) rfl (by kernel_rfl) (by kernel_rfl) (by kernel_rfl) (by kernel_rfl) (fun _ _ _ h => h) hHeld (by rfl) ?_
      (try simp only [Act.put, putS])
      refine oS (i := 11) (preB 12 1) rfl hHeld ?_
      (try simp only [Act.put, putS])
      refine oS (i := 12) (preB 13 0) rfl hHeld ?_
      (try simp only [Act.put, putS])
      refine wpAnyH_done (by kernel_rfl) ?_ _
      go_wp2_with fail
      go_roundw
      case rel => exact ⟨j + 1, HJ.out, by go_num, by rw [HF.out], HB2.out.trans (by have := HB2.out.size; (repeat (first | (with_reducible first | exact Below.refl _ _ | assumption | refine Below.drew ?_) | ((with_reducible first | refine Below.alloc ?_ ?_ _ | refine Below.setCell ?_ ?_ _); rotate_left; (first | omega | (simp <;> omega))))))⟩
      case measure => have := HJ.out; simp [intOf]; omega
     | false =>
      have HF := hide (show hasX (x k).1 y (j + 1) = eqLn (y j).1 (x k).1 from by unfold hasX; rw [hf, eqLn_comm]; rfl)
      clear hf
      go_upto_region 9 with fail
      refine ord_start (SB (wr.heap.size) [] _) 13 (preB 0 13) (by kernel_rfl) (by kernel_rfl) (by kernel_rfl) SB.refl.drew (fun hHeld => ?_)
      refine oS (i := 0) (preB 1 12) rfl hHeld ?_
      (try simp only [Act.put, putS])
      refine oS (i := 1) (preB 2 11) rfl hHeld ?_
      (try simp only [Act.put, putS])
      refine oS (i := 2) (preB 3 10) rfl hHeld ?_
      (try simp only [Act.put, putS])
      refine oS (i := 3) (preB 4 9) rfl hHeld ?_
      (try simp only [Act.put, putS])
      refine oS (i := 4) (preB 5 8) rfl hHeld ?_
      (try simp only [Act.put, putS])
      refine oS (i := 5) (preB 6 7) rfl hHeld ?_
      (try simp only [Act.put, putS])
      refine oS (i := 6) (preB 7 6) rfl hHeld ?_
      (try simp only [Act.put, putS])
      refine oS (i := 7) (preB 8 5) rfl hHeld ?_
      (try simp only [Act.put, putS])
      refine oS (i := 8) (preB 9 4) rfl hHeld ?_
      (try simp only [Act.put, putS])
      refine oS (i := 9) (preB 10 3) rfl hHeld ?_
      (try simp only [Act.put, putS])
      refine wpAnyH_ready (rs := [10]) (by kernel_rfl) (by simp) ?_
      refine ord_run (i := 10) (preB 11 2) rfl (by kernel_rfl) (by rfl) (fun K hK => ?_) AllReadyH.nil
      go_simp
      go_wp2_with (go_at_call 32; refine (requal_any (y j).1 (x k).1 (y j).2.1 (x k).2.1 (y j).2.2 (x k).2.2 (by have := HYJ.out; omega) _ (HSJ.out.below belT) ((HSL.out.below HB2.out).below belT)).mono ?_; rintro e w1 ⟨rfl, hb⟩; have q1B : Below wr.heap.size wr w1 := qB hb; have q1z := hb.size; (try simp at q1z); have q1t : wr.heap.size ≤ w1.heap.size := (by omega); have q1o := belO q1B; have hbS := hb; have hbS1 := hb; clear hb)
      refine hK.out _ _ ?_ (fun hHeld => ?_)
      ·exact sbT
      clear hK K
      (try simp only [Act.put, putS])
      refine oS (i := 11) (preB 12 1) rfl hHeld ?_
      (try simp only [Act.put, putS])
      refine oS (i := 12) (preB 13 0) rfl hHeld ?_
      (try simp only [Act.put, putS])
      refine wpAnyH_done (by kernel_rfl) ?_ _
      go_wp2_with fail
      go_roundw
      case rel => exact ⟨j + 1, HJ.out, by go_num, by rw [HF.out], HB2.out.trans (Below.trans (q1B.mono (by have := HB2.out.size; omega)) belT)⟩
      case measure => have := HJ.out; simp [intOf]; omega
    ·obtain rfl : j = n := by omega
     clear hlj hj
     cases hf : hasX (x k).1 y j with
     | true =>
      have HT := hide (dfL_yes hf)
      clear hf
      go_wp2_with fail
      go_roundw
      case rel => exact ⟨k + 1, A1, c1, l, HK.out, by go_num, rfl, owns_below HO.out HB2.out, HV.out, by rw [HL.out, HT.out], HB.out.trans (HB2.out.mono HB.out.size)⟩
      case measure => have := HK.out; simp [intOf]; omega
     | false =>
      have HT := hide (dfL_no hf)
      clear hf
      go_wp2_with (at_builtin; go_loud (refine wpList_append_own2 _ rfl (.tmp 35) (.tmp 40) 37 rfl w.heap.size 58 i0 (.agg #[.int .i64 0, .int .i64 0, .int .i64 0, .int .i64 0, .slice none 0 0, .int .i64 0, .int .u64 0]) 7 72 Tryz.underlying37 hi0 hz00 hz1 hz2 rfl (by decide) _ _ _ rfl ((owns_below HO.out HB2.out).alloc _) ⟨wr.heap.size, 0, none⟩ 1 1 (linLL (x k)) rfl rfl (news_new (cs := ⟨linLL (x k)⟩) (by simp)) (ones_all rfl) (by have := HLN.out; simp only [maxLen]; omega) (by have := HLN.out; omega) (by simp; omega) ?_); intro A9 c9 w9 ho9 hg9 hv9)
      have hs9 := hg9.size
      simp at hs9
      go_roundw
      case rel =>
       refine ⟨k + 1, A9, c9, l ++ [x k], HK.out, by go_num, by rw [List.length_append]; rfl, ?_, fun z hz => ?_, ?_, ?_⟩
       ·rw [List.length_append, List.flatMap_append]; simpa using ho9
       ·rcases List.mem_append.1 hz with hz | hz
        ·exact HV.out z hz
        ·rw [List.mem_singleton.1 hz]; exact HSW.out
       ·rw [List.map_append, HL.out, HT.out]; rfl
       ·exact (HB.out.trans (HB2.out.mono HB.out.size)).trans (by refine Below.trans ?_ (below_grown (B := w.heap.size) hg9 (by have := HB2.out.size; simp; omega) (own_ge (owns_below HO.out HB2.out))); have := HB2.out.size; have := HB.out.size; (repeat (first | (with_reducible first | exact Below.refl _ _ | assumption | refine Below.drew ?_) | ((with_reducible first | refine Below.alloc ?_ ?_ _ | refine Below.setCell ?_ ?_ _); rotate_left; (first | omega | (simp <;> omega))))))
      case measure => have := HK.out; simp [intOf]; omega
  ·obtain rfl : k = m := by omega
   clear hlt hk
   go_wp2_with fail
   go_ret
   obtain ⟨A3, c3, hv5, hrl⟩ := own_rowLn HO.out (fun z hz => (HV.out z hz).below HB.out)
   exact ⟨A3, c3, l, by rw [← hv5]; rfl, hrl, HL.out, HB.out⟩
end Go.Proofs.YtdjlaiilngechaaGreatDoor
namespace Go.Proofs.YtdjlaiilngechaaGreatDoor
set_option maxRecDepth 4000
set_option linter.unusedSimpArgs false
set_option linter.unusedVariables false
open Go.ChangeShapes Go.WideShapes Go.RowKit Go.Deep
theorem cell_lt {w : World} {a : Addr} {v : Value} (h : w.cell? a = some v) : a.block < w.heap.size := by
 unfold World.cell? at h
 split at h
 ·rename_i hx
  rcases Nat.lt_or_ge a.block w.heap.size with h1 | h1
  ·exact h1
  ·simp [Array.getElem?_eq_none h1] at hx
 ·simp at h
theorem row2_open {H : Type} {enc : TypeId × Value → H} {P : Program} {w : World} {base : Nat} {spare : Nat → Bool} {held : Bool} {t e : TypeId} {fs : Array Field} {fuel : Nat} {A : Option Addr} {n c : Nat} {x : DataW H × List MemPlace}
  (ht : P.underlying t = some (.slice e)) (he : P.underlying e = some (.struct fs)) (hfs : fs.size = 2) (hone : oneCellFields P fs = true) (hC : P.cellsOf e = 2)
  (k0 : ∀ f, fs[0]? = some f → P.underlying f.type = some (.int .i64)) (k1 : ∀ f, fs[1]? = some f → P.underlying f.type = some (.int .i64))
  (h : DataW.trod enc P w base spare held fuel t [.slice A n c] = some x) : ∃ f g, Row2 w A n f g ∧ IB n f g := by
 rcases open_slice ht h with ⟨h0, _⟩ | ⟨a, len, cap, m, q, D, Pl, hcs, _, hl, hm, hmm, _, hi⟩
 ·simp at h0
  obtain ⟨rfl, rfl, rfl⟩ := h0
  exact ⟨fun _ => 0, fun _ => 0, fun h => by omega, fun k hk => by omega⟩
 ·simp at hcs
  obtain ⟨rfl, rfl, rfl⟩ := hcs
  have key : ∀ i, i < n → (∃ y, w.cell? (a.add (i * 2)) = some (.int .i64 y) ∧ IIn y) ∧ (∃ y, w.cell? (a.add (i * 2 + 1)) = some (.int .i64 y) ∧ IIn y) := by
   intro i hin
   obtain ⟨cs', hc, ht'⟩ := hi i (by rw [hmm]; split <;> omega)
   rw [hC] at hc
   obtain ⟨xs, q', _, _, hlen, hxl, hf⟩ := DataW.trod_struct he ht'
   obtain ⟨_, hcl, hat⟩ := World.cells?_some hc
   have one : ∀ (j : Nat) (hj : j < 2) (f : Field), fs[j]? = some f → P.underlying f.type = some (.int .i64) → ∃ y, w.cell? (a.add (i * 2 + j)) = some (.int .i64 y) ∧ IIn y := by
    intro j hj f hfj hk
    obtain ⟨ho, hk1⟩ := hone_of hone j f hfj
    have h1 := hf j f hfj
    rw [ho, hk1] at h1
    have hone' : (cs'.drop j).take 1 = [cs'[j]'(by omega)] := by
     rw [List.drop_eq_getElem_cons (by omega)]
     rfl
    rw [hone'] at h1
    have hxs : xs[j]? = some (xs[j]'(by omega)) := List.getElem?_eq_getElem (by omega)
    rw [hxs] at h1
    obtain ⟨y, hy, _, hw⟩ := DataW.trod_int hk h1
    have hv : cs'[j]? = some (cs'[j]'(by omega)) := List.getElem?_eq_getElem (by omega)
    have hcell := hat j hj
    rw [hv] at hcell
    simp only [List.cons.injEq, and_true] at hy
    rw [hy] at hcell
    refine ⟨y, by rw [← hcell, Go.Deep.add_add], ?_⟩
    simp [Lit.wf] at hw
    exact ⟨hw.1, hw.2⟩
   have f0 : fs[0]? = some (fs[0]'(by omega)) := Array.getElem?_eq_getElem (by omega)
   have f1 : fs[1]? = some (fs[1]'(by omega)) := Array.getElem?_eq_getElem (by omega)
   exact ⟨one 0 (by omega) _ f0 (k0 _ f0), one 1 (by omega) _ f1 (k1 _ f1)⟩
  obtain ⟨b, off, spot⟩ := a
  refine ⟨fun i => intOf ((w.cell? (Addr.add ⟨b, off, spot⟩ (i * 2))).getD undef), fun i => intOf ((w.cell? (Addr.add ⟨b, off, spot⟩ (i * 2 + 1))).getD undef), fun hn => ?_, fun i hi => ?_⟩
  ·obtain ⟨⟨y, hy, _⟩, _⟩ := key 0 hn
   have hs : spot = none := by simpa [Addr.add] using World.cell?_spot hy
   subst hs
   refine ⟨b, off, rfl, by simpa [Addr.add] using cell_lt hy, fun i hi => ?_⟩
   obtain ⟨⟨y, hy, _⟩, ⟨z, hz, _⟩⟩ := key i hi
   have hadd : ∀ k, Addr.add ⟨b, off, none⟩ k = ⟨b, off + k, none⟩ := fun k => by
    cases k <;> simp [Addr.add]
   rw [hadd] at hy hz
   constructor
   ·simp [hadd, hy, intOf]
   ·rw [Nat.add_assoc]
    simp [hadd, hz, intOf]
  ·obtain ⟨⟨y, hy, hy2⟩, ⟨z, hz, hz2⟩⟩ := key i hi
   simp only [hy, hz, Option.getD_some]
   exact ⟨hy2, hz2⟩
end Go.Proofs.YtdjlaiilngechaaGreatDoor
namespace Go.Proofs.YtdjlaiilngechaaGreatDoor
set_option maxRecDepth 4000
set_option linter.unusedSimpArgs false
set_option linter.unusedVariables false
open Go.RowKit Go.Deep Go.WideShapes
/-- Field j of the struct t: s cells from o on, of the type ty. -/
def fieldSubB (P : Program) (t : TypeId) (j o s : Nat) (ty : TypeId) : Bool := match P.underlying t with
 | some (.struct fs) => match fs[j]? with
  | some f => f.offset == o && P.cellsOf f.type == s && f.type == ty
  | none => false
 | _ => false
section
variable {H : Type} {enc : TypeId × Value → H} {P : Program} {w : World} {base : Nat} {spare : Nat → Bool} {held : Bool}
theorem trod_field {t : TypeId} {fs : Array Field} {cs : List Value} {fu : Nat} {x : DataW H × List MemPlace} (he : P.underlying t = some (.struct fs)) (h : DataW.trod enc P w base spare held fu t cs = some x) {j : Nat} {f : Field} (hj : fs[j]? = some f) :
  ∃ fu' y, DataW.trod enc P w base spare held fu' f.type ((cs.drop f.offset).take (P.cellsOf f.type)) = some y := by
 obtain ⟨xs, n, _, _, hlen, hxl, hi⟩ := DataW.trod_struct he h
 have g := hi j f hj
 have hjl : j < fs.size := (Array.getElem?_eq_some_iff.1 hj).1
 exact ⟨n, _, g.trans (List.getElem?_eq_getElem (by omega))⟩
theorem trod_cell {t : TypeId} {cs : List Value} {fu : Nat} {x : DataW H × List MemPlace} {j o : Nat} {k : FK} (hk : fieldAtB P t j o k = true) (ho : o < cs.length) (h : DataW.trod enc P w base spare held fu t cs = some x) :
  ∃ ty, fkB P k ty = true ∧ ∃ fu y, DataW.trod enc P w base spare held fu ty [cs.getD o undef] = some y := by
 have hs : ∃ fs, P.underlying t = some (.struct fs) := by
  unfold fieldAtB at hk
  split at hk
  ·exact ⟨_, by assumption⟩
  ·cases hk
 obtain ⟨fs, he⟩ := hs
 obtain ⟨f, hfj, rfl, h1, hkk⟩ := fieldAtB_of he hk
 obtain ⟨fu', y, g⟩ := trod_field he h hfj
 rw [h1] at g
 have hone : (cs.drop f.offset).take 1 = [cs.getD f.offset undef] := by
  rw [List.drop_eq_getElem_cons ho, List.getD_eq_getElem?_getD, List.getElem?_eq_getElem ho]
  rfl
 rw [hone] at g
 exact ⟨f.type, hkk, fu', y, g⟩
theorem trod_sub {t ty : TypeId} {cs : List Value} {fu : Nat} {x : DataW H × List MemPlace} {j o s : Nat} (hk : fieldSubB P t j o s ty = true) (h : DataW.trod enc P w base spare held fu t cs = some x) :
  ∃ fu y, DataW.trod enc P w base spare held fu ty ((cs.drop o).take s) = some y := by
 unfold fieldSubB at hk
 split at hk
 ·rename_i fs he
  split at hk
  ·rename_i f hf
   simp only [Bool.and_eq_true, beq_iff_eq] at hk
   obtain ⟨⟨h1, h2⟩, h3⟩ := hk
   obtain ⟨fu', y, g⟩ := trod_field he h hf
   rw [h1, h2, h3] at g
   exact ⟨fu', y, g⟩
  ·cases hk
 ·cases hk
theorem rows_open {t e : TypeId} {sz fuel : Nat} {A : Option Addr} {n c : Nat} {x : DataW H × List MemPlace} (ht : P.underlying t = some (.slice e)) (hC : P.cellsOf e = sz) (hsz : 0 < sz)
  (h : DataW.trod enc P w base spare held fuel t [.slice A n c] = some x) :
  ∃ C : Nat → List Value, (0 < n → ∃ b off, A = some ⟨b, off, none⟩ ∧ b < w.heap.size ∧ ∀ k j v, k < n → (C k)[j]? = some v → w.cell? ⟨b, off + k * sz + j, none⟩ = some v) ∧ ∀ k, k < n → (C k).length = sz ∧ ∃ fu y, DataW.trod enc P w base spare held fu e (C k) = some y := by
 rcases Deep.open_slice ht h with ⟨h0, _⟩ | ⟨a, len, cap, m, q, D, Pl, hcs, _, hl, hm, hmm, _, hi⟩
 ·simp at h0
  obtain ⟨rfl, rfl, rfl⟩ := h0
  exact ⟨fun _ => [], fun h => by omega, fun k hk => by omega⟩
 ·simp at hcs
  obtain ⟨rfl, rfl, rfl⟩ := hcs
  have key : ∀ i, i < n → ∃ cs : List Value, cs.length = sz ∧ (∀ j v, cs[j]? = some v → w.cell? (a.add (i * sz + j)) = some v) ∧ ∃ fu y, DataW.trod enc P w base spare held fu e cs = some y := by
   intro i hin
   obtain ⟨cs', hc, ht'⟩ := hi i (by rw [hmm]; split <;> omega)
   rw [hC] at hc
   obtain ⟨_, hcl, hat⟩ := World.cells?_some hc
   refine ⟨cs', hcl, fun j v hv => ?_, _, _, ht'⟩
   have hj : j < sz := by rw [← hcl]; exact (List.getElem?_eq_some_iff.1 hv).1
   have hcell := hat j hj
   rw [hv, Deep.add_add] at hcell
   exact hcell
  obtain ⟨b, off, spot⟩ := a
  have hC' : ∃ C : Nat → List Value, ∀ i, i < n → (C i).length = sz ∧ (∀ j v, (C i)[j]? = some v → w.cell? (Addr.add ⟨b, off, spot⟩ (i * sz + j)) = some v) ∧ ∃ fu y, DataW.trod enc P w base spare held fu e (C i) = some y := by
   refine ⟨fun i => if hi : i < n then Classical.choose (key i hi) else [], fun i hi => ?_⟩
   simp only [dif_pos hi]
   exact Classical.choose_spec (key i hi)
  obtain ⟨C, hCC⟩ := hC'
  refine ⟨C, fun hn => ?_, fun k hk => ⟨(hCC k hk).1, (hCC k hk).2.2⟩⟩
  have h0 := hCC 0 hn
  obtain ⟨v0, hv0⟩ : ∃ v0, (C 0)[0]? = some v0 := ⟨_, List.getElem?_eq_getElem (by rw [h0.1]; exact hsz)⟩
  have hv := h0.2.1 0 v0 hv0
  have hs : spot = none := by simpa [Addr.add] using World.cell?_spot hv
  subst hs
  have hadd : ∀ k, Addr.add ⟨b, off, none⟩ k = ⟨b, off + k, none⟩ := fun k => by
   cases k <;> simp [Addr.add]
  rw [hadd] at hv
  refine ⟨b, off, rfl, World.block_lt_of_cell? _ _ hv, fun k j v hk hj => ?_⟩
  have := (hCC k hk).2.1 j v hj
  rw [hadd] at this
  rw [Nat.add_assoc]
  exact this
end
end Go.Proofs.YtdjlaiilngechaaGreatDoor
