/- Texts laid together: Euo Eyp. -/
import Derived.Test.YtdjlaiilngechaaGreatDoorUEue
import Derived.Test.YtdjlaiilngechaaGreatDoorUExT
import Derived.Test.YtdjlaiilngechaaGreatDoorUExL
import Derived.Test.YtdjlaiilngechaaGreatDoorUAcF
import Derived.Test.YtdjlaiilngechaaGreatDoorUTrM
import Derived.Test.YtdjlaiilngechaaGreatDoorUAcJ
namespace Go.Proofs.YtdjlaiilngechaaGreatDoor
set_option maxRecDepth 4000
set_option linter.unusedSimpArgs false
set_option linter.unusedVariables false
open Go.RowKit Go.Deep Go.WideShapes
theorem list7 {α : Type} {l : List α} (h : l.length = 7) : ∃ c0 c1 c2 c3 c4 c5 c6, l = [c0, c1, c2, c3, c4, c5, c6] := by
 match l, h with
 | [c0, c1, c2, c3, c4, c5, c6], _ => exact ⟨c0, c1, c2, c3, c4, c5, c6, rfl⟩
theorem hi_lo_of (a b : Int) (h0 : 0 ≤ b) (h1 : b < 18446744073709551616) : hiW (a * 18446744073709551616 + b) = a ∧ loW (a * 18446744073709551616 + b) = b := by
 unfold hiW loW; omega
theorem win_of {a b : Int} (ha : IIn a) (h0 : 0 ≤ b) (h1 : b < 18446744073709551616) : WIn (a * 18446744073709551616 + b) := by
 unfold IIn at ha; unfold WIn; omega
def slF (f g : Nat → Int) (n : Nat) : List (Int × Int) := (List.range n).map fun k => (f k, g k)
theorem slF_len (f g : Nat → Int) (n : Nat) : (slF f g n).length = n := by simp [slF]
theorem slF_at {f g : Nat → Int} {n k : Nat} (h : k < n) : fsts (slF f g n) k = f k ∧ snds (slF f g n) k = g k := by
 unfold fsts snds slF
 simp [List.getD_eq_getElem?_getD, h]
/-- What the cells of a line may hold. -/
structure LnIn (x : Lin) : Prop where
 fr : IIn x.fr
 tt : IIn x.tt
 bl : IIn x.bl
 we : IIn x.we
 gr : WIn x.gr
 sl : IB x.sl.length (fsts x.sl) (snds x.sl)
theorem cell_u {H : Type} {enc : TypeId × Value → H} {P : Program} {w : World} {base : Nat} {spare : Nat → Bool} {held : Bool} {t : TypeId} {v : Value} (ht : P.underlying t = some (.int .u64)) (h : ∃ fu y, DataW.trod enc P w base spare held fu t [v] = some y) :
  ∃ b : Int, v = .int .u64 b ∧ 0 ≤ b ∧ b < 18446744073709551616 := by
 obtain ⟨fu, y, h⟩ := h
 obtain ⟨n, e, _, wf⟩ := DataW.trod_int ht h
 simp only [List.cons.injEq, and_true] at e
 refine ⟨n, e, ?_⟩
 simp [Lit.wf, IntKind.min, IntKind.max, IntKind.signed, IntKind.bits] at wf
 omega
section
variable {H : Type} {enc : TypeId × Value → H} {P : Program} {w : World} {base : Nat} {spare : Nat → Bool} {held : Bool}
theorem line_open {t eT tw : TypeId} {fs : Array Field} {ds : List Value} {fu : Nat} {x : DataW H × List MemPlace} (hl : ds.length = 7) (k0 : fieldAtB P t 0 0 .i = true) (k1 : fieldAtB P t 1 1 .i = true) (k2 : fieldAtB P t 2 2 .i = true) (k3 : fieldAtB P t 3 3 .i = true) (k4 : fieldAtB P t 4 4 (.sl eT) = true)
  (k5 : fieldSubB P t 5 5 2 tw = true) (u0 : fieldAtB P tw 0 0 .i = true) (u1 : fieldAtB P tw 1 1 .u = true)
  (he : P.underlying eT = some (.struct fs)) (hfs : fs.size = 2) (hone : oneCellFields P fs = true) (hC : P.cellsOf eT = 2) (e0 : ∀ f, fs[0]? = some f → P.underlying f.type = some (.int .i64)) (e1 : ∀ f, fs[1]? = some f → P.underlying f.type = some (.int .i64))
  (h : DataW.trod enc P w base spare held fu t ds = some x) : ∃ x : LnR, ds = linLL x ∧ Row2 w x.2.1 x.1.sl.length (fsts x.1.sl) (snds x.1.sl) ∧ LnIn x.1 := by
 obtain ⟨c0, c1, c2, c3, c4, c5, c6, rfl⟩ := list7 hl
 obtain ⟨t0, f0, g0⟩ := trod_cell k0 (by simp) h
 obtain ⟨t1, f1, g1⟩ := trod_cell k1 (by simp) h
 obtain ⟨t2, f2, g2⟩ := trod_cell k2 (by simp) h
 obtain ⟨t3, f3, g3⟩ := trod_cell k3 (by simp) h
 obtain ⟨t4, f4, g4⟩ := trod_cell k4 (by simp) h
 obtain ⟨fu5, y5, g5⟩ := trod_sub k5 h
 obtain ⟨t5, f5, h5⟩ := trod_cell u0 (by simp) g5
 obtain ⟨t6, f6, h6⟩ := trod_cell u1 (by simp) g5
 obtain ⟨s0, b0⟩ := cell_int (fkB_i f0) g0
 obtain ⟨s1, b1⟩ := cell_int (fkB_i f1) g1
 obtain ⟨s2, b2⟩ := cell_int (fkB_i f2) g2
 obtain ⟨s3, b3⟩ := cell_int (fkB_i f3) g3
 obtain ⟨A, n, c, s4, _, _, fu4, y4, r4⟩ := cell_slice (fkB_sl f4) g4
 obtain ⟨f, g, hr, hib⟩ := row2_open (fkB_sl f4) he hfs hone hC e0 e1 r4
 obtain ⟨s5, b5⟩ := cell_int (fkB_i f5) h5
 obtain ⟨b6, s6, p0, p1⟩ := cell_u (fkB_u f6) h6
 have s0' : c0 = .int .i64 (intOf c0) := s0
 have s1' : c1 = .int .i64 (intOf c1) := s1
 have s2' : c2 = .int .i64 (intOf c2) := s2
 have s3' : c3 = .int .i64 (intOf c3) := s3
 have s4' : c4 = .slice A n c := s4
 have s5' : c5 = .int .i64 (intOf c5) := s5
 have s6' : c6 = .int .u64 b6 := s6
 have hw := hi_lo_of (intOf c5) b6 p0 p1
 refine ⟨(⟨intOf c0, intOf c1, intOf c2, intOf c3, slF f g n, intOf c5 * 18446744073709551616 + b6⟩, A, c), ?_, ?_, ?_⟩
 ·show [c0, c1, c2, c3, c4, c5, c6] = [.int .i64 (intOf c0), .int .i64 (intOf c1), .int .i64 (intOf c2), .int .i64 (intOf c3), .slice A (slF f g n).length c, .int .i64 (hiW (intOf c5 * 18446744073709551616 + b6)), .int .u64 (loW (intOf c5 * 18446744073709551616 + b6))]
  rw [hw.1, hw.2, slF_len, ← s0', ← s1', ← s2', ← s3', ← s4', ← s5', ← s6']
 ·show Row2 w A (slF f g n).length _ _
  rw [slF_len]
  exact hr.congr fun k hk => ⟨(slF_at hk).1.symm, (slF_at hk).2.symm⟩
 ·refine ⟨b0, b1, b2, b3, win_of b5 p0 p1, ?_⟩
  show IB (slF f g n).length _ _
  rw [slF_len]
  intro k hk
  rw [(slF_at hk).1, (slF_at hk).2]
  exact hib k hk
theorem lines_open {t e eT tw : TypeId} {fs : Array Field} {fuel : Nat} {A : Option Addr} {n c : Nat} {x : DataW H × List MemPlace} (ht : P.underlying t = some (.slice e)) (hCe : P.cellsOf e = 7)
  (k0 : fieldAtB P e 0 0 .i = true) (k1 : fieldAtB P e 1 1 .i = true) (k2 : fieldAtB P e 2 2 .i = true) (k3 : fieldAtB P e 3 3 .i = true) (k4 : fieldAtB P e 4 4 (.sl eT) = true)
  (k5 : fieldSubB P e 5 5 2 tw = true) (u0 : fieldAtB P tw 0 0 .i = true) (u1 : fieldAtB P tw 1 1 .u = true)
  (he : P.underlying eT = some (.struct fs)) (hfs : fs.size = 2) (hone : oneCellFields P fs = true) (hC : P.cellsOf eT = 2) (e0 : ∀ f, fs[0]? = some f → P.underlying f.type = some (.int .i64)) (e1 : ∀ f, fs[1]? = some f → P.underlying f.type = some (.int .i64))
  (h : DataW.trod enc P w base spare held fuel t [.slice A n c] = some x) : ∃ x : Nat → LnR, RowLn w A n x ∧ ∀ k, k < n → LnIn (x k).1 := by
 obtain ⟨C, hrow, hC7⟩ := rows_open ht hCe (by decide) h
 have key : ∀ k, k < n → ∃ x : LnR, C k = linLL x ∧ Row2 w x.2.1 x.1.sl.length (fsts x.1.sl) (snds x.1.sl) ∧ LnIn x.1 := fun k hk => by
  obtain ⟨hl, fu, y, hy⟩ := hC7 k hk
  exact line_open hl k0 k1 k2 k3 k4 k5 u0 u1 he hfs hone hC e0 e1 hy
 have hx : ∃ x : Nat → LnR, ∀ k, k < n → C k = linLL (x k) ∧ Row2 w (x k).2.1 (x k).1.sl.length (fsts (x k).1.sl) (snds (x k).1.sl) ∧ LnIn (x k).1 := by
  refine ⟨fun k => if hk : k < n then Classical.choose (key k hk) else zLnR, fun k hk => ?_⟩
  simp only [dif_pos hk]
  exact Classical.choose_spec (key k hk)
 obtain ⟨x, hx⟩ := hx
 refine ⟨x, ⟨fun hn => ?_, fun k hk => (hx k hk).2.1⟩, fun k hk => (hx k hk).2.2⟩
 obtain ⟨b, off, e, hb, hc⟩ := hrow hn
 refine ⟨b, off, e, hb, fun k j hk hj => ?_⟩
 have := hc k j (linF (x k) j) hk (by rw [(hx k hk).1]; exact linLL_at _ _ hj)
 rw [Nat.add_assoc] at this
 exact this
end
end Go.Proofs.YtdjlaiilngechaaGreatDoor
namespace Go.Proofs.YtdjlaiilngechaaGreatDoor
set_option maxRecDepth 4000
set_option linter.unusedSimpArgs false
set_option linter.unusedVariables false
open Go.RowKit
abbrev tBasic : ByteArray := ⟨#[98, 97, 115, 105, 99]⟩
abbrev tEur : ByteArray := ⟨#[69, 85, 82]⟩
abbrev tWeek : ByteArray := ⟨#[119, 101, 101, 107]⟩
abbrev tAnn : ByteArray := ⟨#[97, 110, 110]⟩
abbrev tD : ByteArray := ⟨#[100]⟩
abbrev tNone : ByteArray := ⟨#[]⟩
abbrev exLg (n : Int) : Array Value := #[.int .i64 1, .int .i64 n, .string tEur, .int .i64 1000, .int .i64 (-n), .string tEur]
abbrev exEn (d : Int) (b : Nat) : Array Value := #[.int .i64 0, .int .i64 0, .int .i64 d, .int .i64 1, .int .i64 0, .int .i64 0, .string tD, .string tNone, .slice (some ⟨b, 0, none⟩) 2 2, .int .u64 0]
abbrev exPC (tb : Nat) : Array Value := #[.string tBasic, .string tEur, .string tWeek, .int .i64 0, .int .i64 1, .int .i64 0, .int .i64 0, .slice (some ⟨tb, 0, none⟩) 1 1, .bool false, .int .i64 2, .int .i64 6, .bool false, .slice (some ⟨tb, 0, none⟩) 1 1, .bool false, .int .i64 2, .int .i64 6, .bool false, .slice none 0 0, .slice none 0 0]
def exI (tb : Nat) : LInt := ⟨some ⟨tb, 0, none⟩, 1, 1, false, 2, 6, false, fun _ => 0, fun _ => 15000⟩
def exP (tb : Nat) : LPro := ⟨exPC tb, tBasic, 0, exI tb, exI tb⟩
def exA : LAcc := ⟨1000, 0, 0, 0, tAnn, tBasic, tNone⟩
def exLs (n : Int) : Nat → LLeg
 | 0 => ⟨1, n, tEur⟩
 | _ => ⟨1000, -n, tEur⟩
def exE (later : Int) (b1 b2 : Nat) : Nat → LEnt
 | 0 => ⟨0, 0, 0, 1, 0, 0, tD, tNone, some ⟨b1, 0, none⟩, 2, 2, 0, exLs 100000⟩
 | _ => ⟨0, 0, later, 1, 0, 0, tD, tNone, some ⟨b2, 0, none⟩, 2, 2, 0, exLs 50000⟩
def exB (C : Array Value) (later : Int) (tb pb ab jb b1 b2 : Nat) : LBk := ⟨C, some ⟨ab, 0, none⟩, 1, 1, fun _ => exA, some ⟨jb, 0, none⟩, 2, 2, exE later b1 b2, some ⟨pb, 0, none⟩, 1, 1, fun _ => exP tb⟩
theorem ex_prc (tb : Nat) : PrC (exPC tb) (exP tb) := ⟨rfl, by unfold exPC; simp [Value.oneCell'], rfl, rfl, rfl, rfl, rfl, rfl, rfl, rfl, rfl, rfl, rfl, rfl⟩
section
variable (C : Array Value) (tb pb ab jb b1 b2 : Nat) (later : Int)
theorem ex_act {d : Int} (h : 0 ≤ d) : actB (exB C later tb pb ab jb b1 b2) 1000 d = true := by
 show (true && (decide ((0 : Int) ≤ d) && (((0 : Int) == 0) || decide (d < 0)))) = true
 rw [decide_eq_true h]
 rfl
theorem ex_prd {d : Int} (h : 0 ≤ d) : prdB (exB C later tb pb ab jb b1 b2) 1000 d = some 0 := by
 show bstP (fun _ => exP tb) tBasic d 1 = some 0
 exact bst_none (by simp [exP]) h rfl
theorem ex_bal {d : Int} (h0 : 0 ≤ d) : balB (exB C later tb pb ab jb b1 b2) 1000 d = (if later ≤ d then 150000 else 100000) := by
 show sumE (exE later b1 b2) 1000 (upB 73048 d) 2 = _
 by_cases h : later ≤ d
 ·rw [if_pos h]
  have e0 : upB 73048 d (exE later b1 b2 0) = true := by
   show upB 73048 d ⟨0, 0, 0, 1, 0, 0, tD, tNone, some ⟨b1, 0, none⟩, 2, 2, 0, exLs 100000⟩ = true
   simp [upB]; omega
  have e1 : upB 73048 d (exE later b1 b2 1) = true := by
   show upB 73048 d ⟨0, 0, later, 1, 0, 0, tD, tNone, some ⟨b2, 0, none⟩, 2, 2, 0, exLs 50000⟩ = true
   simp [upB]; omega
  have m1 : mvE (exE later b1 b2 0) 1000 = 100000 := by kernel_rfl
  have m2 : mvE (exE later b1 b2 1) 1000 = 50000 := by kernel_rfl
  simp only [sumE, e0, e1, m1, m2, if_true, Bool.false_eq_true, if_false]
  decide +kernel
 ·rw [if_neg h]
  have e0 : upB 73048 d (exE later b1 b2 0) = true := by
   show upB 73048 d ⟨0, 0, 0, 1, 0, 0, tD, tNone, some ⟨b1, 0, none⟩, 2, 2, 0, exLs 100000⟩ = true
   simp [upB]; omega
  have e1 : upB 73048 d (exE later b1 b2 1) = false := by
   show upB 73048 d ⟨0, 0, later, 1, 0, 0, tD, tNone, some ⟨b2, 0, none⟩, 2, 2, 0, exLs 50000⟩ = false
   simp [upB]; omega
  have m1 : mvE (exE later b1 b2 0) 1000 = 100000 := by kernel_rfl
  have m2 : mvE (exE later b1 b2 1) 1000 = 50000 := by kernel_rfl
  simp only [sumE, e0, e1, m1, m2, if_true, Bool.false_eq_true, if_false]
  decide +kernel
end
theorem ex_sl {b : Int} (hb : b = 100000 ∨ b = 150000) : slices 1 (fun _ => 0) (fun _ => 15000) false b (rate 1 (fun _ => 0) (fun _ => 15000) b) = [(b, 15000)] := by
 rcases hb with rfl | rfl <;> decide +kernel
theorem ex_gr {b : Int} (hb : b = 100000 ∨ b = 150000) : grR 1 (fsts [(b, 15000)]) (snds [(b, 15000)]) 4392 = b * 65880000 := by
 rcases hb with rfl | rfl <;> decide +kernel
theorem ex_grn (tb : Nat) {b d : Int} (hb : b = 100000 ∨ b = 150000) (hd : vday d = true) : grn (exI tb) b d = b * 65880000 := by
 have h : grn (exI tb) b d = grR (slices 1 (fun _ => 0) (fun _ => 15000) false b (rate 1 (fun _ => 0) (fun _ => 15000) b)).length (fsts (slices 1 (fun _ => 0) (fun _ => 15000) false b (rate 1 (fun _ => 0) (fun _ => 15000) b))) (snds (slices 1 (fun _ => 0) (fun _ => 15000) false b (rate 1 (fun _ => 0) (fun _ => 15000) b))) (wgt 2 d) := rfl
 rw [h, ex_sl hb, wgt_2 hd rfl]
 exact ex_gr hb
/-- The line of day k. -/
def exF (later : Int) (k : Nat) : Lin := ⟨k, k, if later ≤ k then 150000 else 100000, 4392, [(if later ≤ k then 150000 else 100000, 15000)], (if later ≤ k then 150000 else 100000) * 65880000⟩
theorem ex_line (C : Array Value) (tb pb ab jb b1 b2 : Nat) (later : Int) {k : Nat} (hk : k ≤ 9) : oneP (exB C later tb pb ab jb b1 b2) (acrN (exB C later tb pb ab jb b1 b2) 1000 0 k) = exF later k := by
 obtain ⟨b, hb⟩ : ∃ b : Int, b = if later ≤ (k : Int) then 150000 else 100000 := ⟨_, rfl⟩
 have hb2 : b = 100000 ∨ b = 150000 := by rw [hb]; split <;> simp
 have hv : vday (k : Int) = true := vday_iff.2 ⟨by omega, by omega⟩
 have hbal := ex_bal C tb pb ab jb b1 b2 later (d := (k : Int)) (by omega)
 rw [← hb] at hbal
 have ha : acrN (exB C later tb pb ab jb b1 b2) 1000 0 k = ⟨1000, k, b, b * 65880000, 0⟩ := by
  unfold acrN
  rw [Int.zero_add, acr_pos (ex_act C tb pb ab jb b1 b2 later (by omega)) (ex_prd C tb pb ab jb b1 b2 later (by omega)) (by rw [hbal]; omega), hbal]
  show (⟨1000, (k : Int), b, grn (exI tb) b k, 0⟩ : LAcr) = _
  rw [ex_grn tb hb2 hv]
 have hs : oneS (exB C later tb pb ab jb b1 b2) 1000 k b = [(b, 15000)] := by
  unfold oneS
  rw [if_pos (ex_act C tb pb ab jb b1 b2 later (by omega)), ex_prd C tb pb ab jb b1 b2 later (by omega)]
  have : sdP (exP tb) b = exI tb := by unfold sdP; split <;> rfl
  show sliL (sdP (exP tb) b) b = _
  rw [this]
  exact ex_sl hb2
 have hw : oneW (exB C later tb pb ab jb b1 b2) 1000 k b = 4392 := by
  unfold oneW
  rw [hs, if_neg (by simp), ex_prd C tb pb ab jb b1 b2 later (by omega)]
  have : (sdP (exP tb) b).ba = 2 := by unfold sdP; split <;> rfl
  show wgt (sdP (exP tb) b).ba k = _
  rw [this]
  exact wgt_2 hv rfl
 rw [ha]
 show (⟨(k : Int), k, b, oneW _ 1000 k b, oneS _ 1000 k b, b * 65880000 - 0⟩ : Lin) = _
 rw [hs, hw, Int.sub_zero, hb]
 rfl
theorem lnS_congr {f g : Nat → Lin} : ∀ {k : Nat}, (∀ i, i ≤ k → f i = g i) → lnS f k = lnS g k
 | 0, h => by show ([], f 0) = ([], g 0); rw [h 0 (Nat.le_refl _)]
 | k + 1, h => by rw [lnS_succ, lnS_succ, lnS_congr (fun i hi => h i (by omega)), h (k + 1) (Nat.le_refl _)]
theorem lnL_congr {f g : Nat → Lin} {n : Nat} (h : ∀ i, i < n → f i = g i) : lnL f n = lnL g n := by
 cases n with
 | zero => rfl
 | succ k =>
  show (lnS f k).1 ++ [(lnS f k).2] = (lnS g k).1 ++ [(lnS g k).2]
  rw [lnS_congr (fun i hi => h i (by omega))]
def exL1 : Lin := ⟨0, 9, 100000, 43920, [(100000, 15000)], 65880000000000⟩
def exL2 : Lin := ⟨0, 4, 100000, 21960, [(100000, 15000)], 32940000000000⟩
def exL3 : Lin := ⟨5, 9, 150000, 21960, [(150000, 15000)], 49410000000000⟩
theorem ex_ln20 : lnL (exF 20) 10 = [exL1] := by kernel_rfl
theorem ex_ln5 : lnL (exF 5) 10 = [exL2, exL3] := by kernel_rfl
end Go.Proofs.YtdjlaiilngechaaGreatDoor
