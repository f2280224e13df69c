/- Texts laid together: TvL TvM AcC AcD AcE. -/
import Derived.Test.YtpghciiifnjimaaGreatDoorXTvI
import Derived.Test.YtpghciiifnjimaaGreatDoorXAcF
import Derived.Test.YtpghciiifnjimaaGreatDoorXTqC
import Derived.Test.YtpghciiifnjimaaGreatDoorXStA
import Derived.Test.YtpghciiifnjimaaGreatDoorXRowM
import Derived.RangeFuncNested
import Derived.RangeFuncBound
import Derived.RangeFuncCalls
import Derived.RangeFuncLeaves
import Derived.Shelf.Abstract
import Derived.Shelf.RegionOpen
import Derived.WalkKit
import Derived.OwnWalkIn
import Derived.TacticsInMore
import Derived.LoopNIn
import Derived.LoopIn
import Derived.Test.YtpghciiifnjimaaGreatDoorXK0
namespace Go.Proofs.YtpghciiifnjimaaGreatDoor
set_option maxRecDepth 4000
set_option linter.unusedSimpArgs false
set_option linter.unusedVariables false
open Go.RowKit
/-- The chart and the currencies of books. -/
structure LTb where
 gA : Option Addr
 gn : Nat
 gc : Nat
 G : Nat → LGl
 uA : Option Addr
 un : Nat
 uc : Nat
 U : Nat → LCur
structure TbOK (B : LBk) (D : LTb) : Prop where
 cu : B.C[0]? = some (.slice D.uA D.un D.uc)
 ch : B.C[2]? = some (.slice D.gA D.gn D.gc)
 gn : D.gn ≤ 1000000
 un : D.un ≤ 1000000
 pc : ∀ k, k < B.pn → ∃ s, (B.P k).C[1]? = some (.string s)
structure TbIn (w : World) (D : LTb) : Prop where
 g : RowS w D.gA D.gn 4 (glR D.G)
 u : RowS w D.uA D.un 2 (curR D.U)
theorem TbIn.below {w w' : World} {D : LTb} (h : TbIn w D) (hb : Below w.heap.size w w') : TbIn w' D := ⟨h.g.below hb, h.u.below hb⟩
def curP (p : LPro) : ByteArray := strOf (p.C[1]?.getD undef)
theorem curP_of {p : LPro} {s : ByteArray} (h : p.C[1]? = some (.string s)) : p.C[1]? = some (.string (curP p)) := by unfold curP; rw [h]; rfl
/-- A leg of the general ledger. -/
def ledE (D : LTb) (ac : Int) (cu : ByteArray) : Int := if hasG D.G ac D.gn = false then 11 else if parG D.G ac D.gn = true then 11 else if hasU D.U cu D.un = false then 14 else 0
set_option maxRecDepth 8000 in
set_option maxHeartbeats 4000000 in
theorem ledger_any (B : LBk) (hB : BkOK B) (D : LTb) (hD : TbOK B D) (ac am : Int) (cu : ByteArray) (w : World) (hw : TbIn w D) :
  Calls Tryz.prog 71 #[.agg B.C, .agg #[.int .i64 ac, .int .i64 am, .string cu]] w fun e w' => e = .returned (.int .i64 (ledE D ac cu)) ∧ Below w.heap.size w w' := by
 have HW := hide hw
 have h2 := hD.ch
 have h0 := hD.cu
 have hmf : ∀ (fn : Fn) (first cap : Array Value) (w : World), (Instr.makeFunc fn first cap).run Tryz.prog w = .ok (.func fn first cap) w := fun _ _ _ _ => rfl
 have gn := hide hD.gn
 have un := hide hD.un
 obtain ⟨b1, hb1⟩ : ∃ b, b = hasG D.G ac D.gn := ⟨_, rfl⟩
 obtain ⟨b2, hb2⟩ : ∃ b, b = parG D.G ac D.gn := ⟨_, rfl⟩
 obtain ⟨b3, hb3⟩ : ∃ b, b = hasU D.U cu D.un := ⟨_, rfl⟩
 have HE := hide (show ledE D ac cu = if b1 = false then 11 else if b2 = true then 11 else if b3 = false then 14 else 0 from by rw [hb1, hb2, hb3]; rfl)
 have H1 := hide (fun W h => by have t := cfind_any D.gA D.gn D.gc D.G ac gn.out W h; rw [← hb1] at t; exact t)
 have H2 := hide (fun p W h hp h0 => by have t := conG_any D.gA D.gn D.gc D.G ac p gn.out W h hp h0; rw [← hb2] at t; exact t)
 have H3 := hide (fun W h => by have t := mfind_any D.uA D.un D.uc D.U cu un.out W h; rw [← hb3] at t; exact t)
 clear hw hb1 hb2 hb3 gn un
 go_enter Tryz.func71, Tryz.ntmps71
 go_wp2_with fail
 refine (H1.out _ (HW.out.g.below belT)).mono ?_
 rintro r w1 ⟨⟨z0, z1, z2, z3, rfl⟩, hb⟩
 have q1B : Below w.heap.size w w1 := qB hb
 have q1z := hb.size
 try simp at q1z
 have q1t : w.heap.size ≤ w1.heap.size := (by omega)
 obtain ⟨q1s0, q1n0_0, q1n0_1, q1n0_2⟩ := kB w1.heap.size w.heap.size
 have q1c0_0 := cel hb w.heap.size 0
 simp [go_sem, *] at q1c0_0
 have q1c0_2 := cel hb w.heap.size 2
 simp [go_sem, *] at q1c0_2
 have q1f0 := fun o => fro hb w.heap.size o
 simp [go_sem, *] at q1f0
 obtain ⟨q1s1, q1n1_0, q1n1_1, q1n1_2⟩ := kB w1.heap.size (w.heap.size + 1)
 obtain ⟨q1c1_0, q1c1_1, q1c1_2, q1f1⟩ := kC3 hb (w.heap.size + 1)
 simp [go_sem, *] at q1c1_0 q1c1_1 q1c1_2 q1f1
 have q1o := belO q1B
 clear hb
 cases b1 with
 | false =>
  have HV := hide (HE.out.trans (if_pos rfl))
  go_wp2_with fail
  go_ret
  exact ⟨by rw [HV.out]; rfl, q1B.trans belT⟩
 | true =>
  have B1 := hide q1B
  go_wp2_with fail
  refine (H2.out (w.heap.size + 1) _ (HW.out.g.below (B1.out.trans belT)) (by simp; omega) (by simp [go_sem, *])).mono ?_
  rintro r w2 ⟨rfl, hb⟩
  have q2B : Below w1.heap.size w1 w2 := qB hb
  have q2z := hb.size
  try simp at q2z
  have q2t : w1.heap.size ≤ w2.heap.size := (by omega)
  obtain ⟨q2s0, q2n0_0, q2n0_1, q2n0_2⟩ := kB w2.heap.size w.heap.size
  have q2c0_0 := cel hb w.heap.size 0
  simp [go_sem, *] at q2c0_0
  have q2c0_2 := cel hb w.heap.size 2
  simp [go_sem, *] at q2c0_2
  have q2f0 := fun o => fro hb w.heap.size o
  simp [go_sem, *] at q2f0
  obtain ⟨q2s1, q2n1_0, q2n1_1, q2n1_2⟩ := kB w2.heap.size (w.heap.size + 1)
  obtain ⟨q2c1_0, q2c1_1, q2c1_2, q2f1⟩ := kC3 hb (w.heap.size + 1)
  simp [go_sem, *] at q2c1_0 q2c1_1 q2c1_2 q2f1
  have q2o := belO q2B
  clear hb q1o q1f1 q1c1_2 q1c1_1 q1c1_0 q1s1 q1f0 q1c0_2 q1c0_0 q1s0 q1z q1B
  have B2 := hide (B1.out.trans (q2B.mono (by omega)))
  cases b2 with
  | true =>
   have HV := hide (HE.out.trans (by rfl : _ = (11 : Int)))
   go_wp2_with fail
   go_ret
   exact ⟨by rw [HV.out]; rfl, B2.out.trans belT⟩
  | false =>
   go_wp2_with fail
   refine (H3.out _ (HW.out.u.below (B2.out.trans belT))).mono ?_
   rintro r w3 ⟨⟨y0, y1, rfl⟩, hb⟩
   have B3 := hide (B2.out.trans ((show Below w.heap.size w2 _ from by (repeat (first | (with_reducible first | exact Below.refl _ _ | assumption | refine Below.drew ?_) | ((with_reducible first | refine Below.alloc ?_ ?_ _ | refine Below.setCell ?_ ?_ _); rotate_left; (first | omega | (simp <;> omega)))))).trans (hb.mono (by first | omega | (simp <;> omega)))))
   have z3' := B3.out.size
   clear hb
   cases b3 with
   | false =>
    have HV := hide (HE.out.trans (by rfl : _ = (14 : Int)))
    go_wp2_with fail
    go_ret
    exact ⟨by rw [HV.out]; rfl, B3.out.trans belT⟩
   | true =>
    have HV := hide (HE.out.trans (by rfl : _ = (0 : Int)))
    go_wp2_with fail
    go_ret
    exact ⟨by rw [HV.out]; rfl, B3.out.trans belT⟩
end Go.Proofs.YtpghciiifnjimaaGreatDoor
namespace Go.Proofs.YtpghciiifnjimaaGreatDoor
set_option maxRecDepth 4000
set_option linter.unusedSimpArgs false
set_option linter.unusedVariables false
open Go.RowKit
/-- What posting.currency answers. -/
def CuRet (P : Nat → LPro) (o : Option Nat) (w : World) (e : Ending) (w' : World) : Prop :=
 ∃ v b, e = .returned (.tuple #[v, .bool b]) ∧ (match o with | some k => v = .string (curP (P k)) ∧ b = true | none => b = false) ∧ Below w.heap.size w w'
def LAcc.row (x : LAcc) : Array Value := #[.int .i64 x.id, .int .i64 x.op, .int .i64 x.cl, .int .i64 x.ex, .string x.ow, .string x.pr, .string x.nu]
set_option maxRecDepth 8000 in
set_option maxHeartbeats 4000000 in
theorem currency_any (B : LBk) (hB : BkOK B) (D : LTb) (hD : TbOK B D) (x : LAcc) (w : World) (hw : BkIn w B) :
  Calls Tryz.prog 127 #[.agg B.C, .agg #[.int .i64 x.id, .int .i64 x.op, .int .i64 x.cl, .int .i64 x.ex, .string x.ow, .string x.pr, .string x.nu]] w (CuRet B.P (bstP B.P x.pr x.op B.pn) w) := by
 obtain ⟨i0, Z, hi0, hi1, hi2⟩ := pz_zero
 have HI := hide (And.intro hi0 hi1)
 have HZ1 := hide hi2
 have HB := hide hB
 have HW := hide hw
 have HPC := hide hD.pc
 have h17 := hB.pro
 clear hB hw hi0 hi1 hi2
 go_enter Tryz.func127, Tryz.ntmps127
 go_wp2_with fail
 refine (cat_any B.pA B.pn B.pc B.P x.pr x.op HB.out.pn HB.out.cells _ (HW.out.pro.below belT)).mono ?_
 rintro r w1 ⟨C, b, rfl, hs, h1, ho, hb⟩
 have HH := hide (And.intro hs h1)
 have Q1 := hide (show Below w.heap.size w w1 from Below.trans belT (hb.mono (by first | omega | (simp <;> omega))))
 have z1 := Q1.out.size
 obtain ⟨v, hv⟩ : ∃ v, C[1]? = some v := ⟨C[1]'(by omega), Array.getElem?_eq_getElem (by omega)⟩
 have HO := hide (show (match bstP B.P x.pr x.op B.pn with | some k => v = .string (curP (B.P k)) ∧ b = true | none => b = false) from by
  generalize hob : bstP B.P x.pr x.op B.pn = o at ho ⊢
  cases o with
  | none => exact ho
  | some k =>
   obtain ⟨s, hsc⟩ := HPC.out k (bstP_lt hob)
   have e := curP_of hsc
   rw [← ho.1, hv] at e
   injection e with e
   exact ⟨e, ho.2⟩)
 have HV := hide hv
 clear hs h1 ho hb hv h17
 go_wp2_with (first
  | (with_reducible refine wpList_alloc_row rfl 88 rfl (some 6) rfl i0 HI.out.1 Z HI.out.2 w1.heap.size rfl ?_)
  | ((with_reducible refine wpList_store_newrow2 rfl 88 (.tmp 6) (.tmp 16) rfl rfl w1.heap.size C rfl rfl 88 Z (blk_new rfl) (pz_size HH.out.1) (by rw [HZ1.out, HH.out.1]) HH.out.2 ?_); intro w5 hb hs5 hx5 hk5; have Q5 := hide (show Below w.heap.size w w5 from Q1.out.trans ((show Below w1.heap.size w1 w5 from Below.trans belT hb).mono z1)); have cc := (cell_of_cells hx5 1).trans HV.out; clear hb hs5 hx5 hk5))
 go_ret2
 exact ⟨v, b, rfl, HO.out, Q5.out⟩
def pickO (o : Option Nat) (d : Int) (f : Nat → Int) : Int := match o with | none => d | some k => f k
/-- A leg of a customer. -/
def cusE (B : LBk) (D : LTb) (ac : Int) (cu : ByteArray) (bk : Int) : Int :=
 if hasA B.a ac B.an = false then 11 else if hasU D.U cu D.un = false then 14 else
 pickO (bstP B.P (getA B.a ac B.an).pr (getA B.a ac B.an).op B.pn) 14 fun k => if (curP (B.P k)).toList == cu.toList then (if actB B ac bk = true then 0 else 16) else 14
set_option maxRecDepth 8000 in
set_option maxHeartbeats 4000000 in
theorem customer_any (B : LBk) (hB : BkOK B) (D : LTb) (hD : TbOK B D) (ac am : Int) (cu : ByteArray) (bk : Int) (w : World) (hw : BkIn w B) (hd : TbIn w D) :
  Calls Tryz.prog 72 #[.agg B.C, .agg #[.int .i64 ac, .int .i64 am, .string cu], .int .i64 bk] w fun e w' => e = .returned (.int .i64 (cusE B D ac cu bk)) ∧ Below w.heap.size w w' := by
 have HB := hide hB
 have HW := hide hw
 have HT := hide hd
 have HS := hide (bk_size hB)
 have h0 := hD.cu
 have un := hide hD.un
 obtain ⟨x, hx⟩ : ∃ x, x = getA B.a ac B.an := ⟨_, rfl⟩
 obtain ⟨h, hh⟩ : ∃ h, h = hasA B.a ac B.an := ⟨_, rfl⟩
 obtain ⟨b3, hb3⟩ : ∃ b, b = hasU D.U cu D.un := ⟨_, rfl⟩
 obtain ⟨b4, hb4⟩ : ∃ b, b = actB B ac bk := ⟨_, rfl⟩
 obtain ⟨o, hho⟩ : ∃ o, o = bstP B.P x.pr x.op B.pn := ⟨_, rfl⟩
 have HE := hide (show cusE B D ac cu bk = if h = false then 11 else if b3 = false then 14 else pickO o 14 fun k => if (curP (B.P k)).toList == cu.toList then (if b4 = true then 0 else 16) else 14 from by rw [hho, hh, hb3, hb4, hx]; rfl)
 have HF := hide (fun W hr => by have t := find_any B.C B.aA B.an B.ac B.jA B.jn B.jc HB.out.bks B.a ac HB.out.an W hr; rw [← hx, ← hh] at t; exact t)
 have H3 := hide (fun W h => by have t := mfind_any D.uA D.un D.uc D.U cu un.out W h; rw [← hb3] at t; exact t)
 have H4 := hide (fun W h => by have t := active_any B HB.out ac bk W h; rw [← hb4] at t; exact t)
 have H5 := hide (fun W h => by have t := currency_any B HB.out D hD x W h; rw [← hho] at t; exact t)
 clear hx hh hb3 hb4 hho hB hw hd
 go_enter Tryz.func72, Tryz.ntmps72
 go_wp2_with (with_reducible refine wpList_load_row rfl 33 (.tmp 3) rfl w.heap.size rfl 33 B.C (0, 0) _ (two_boxes _ _ _) Tryz.underlying33 rfl HS.out ?_)
 refine (HF.out _ (HW.out.acc.below belT)).mono ?_
 rintro r w1 ⟨rfl, hb⟩
 have HC1 := hide (blk_below hb (by first | omega | (simp <;> omega)) (two_boxes w (.cells B.C 33) (.cells #[.int .i64 ac, .int .i64 am, .string cu] 107)))
 have q1B : Below w.heap.size w w1 := qB hb
 have q1z := hb.size
 try simp at q1z
 have q1t : w.heap.size ≤ w1.heap.size := (by omega)
 obtain ⟨q1s0, q1n0_0, q1n0_1, q1n0_2⟩ := kB w1.heap.size w.heap.size
 obtain ⟨q1c0_0, q1f0⟩ := kC1 hb w.heap.size
 simp [go_sem, *] at q1c0_0 q1f0
 obtain ⟨q1s1, q1n1_0, q1n1_1, q1n1_2⟩ := kB w1.heap.size (w.heap.size + 1)
 obtain ⟨q1c1_0, q1c1_1, q1c1_2, q1f1⟩ := kC3 hb (w.heap.size + 1)
 simp [go_sem, *] at q1c1_0 q1c1_1 q1c1_2 q1f1
 have q1o := belO q1B
 clear hb
 have B1 := hide q1B
 clear h0
 cases h with
 | false =>
  have HV := hide (HE.out.trans (by rfl : _ = (11 : Int)))
  go_wp2_with fail
  go_ret
  exact ⟨by rw [HV.out]; rfl, B1.out.trans belT⟩
 | true =>
  go_wp2_with fail
  refine (H3.out _ (HT.out.u.below (B1.out.trans belT))).mono ?_
  rintro r w2 ⟨⟨y0, y1, rfl⟩, hb⟩
  have HC2 := hide (blk_below hb (by first | omega | (simp <;> omega)) (blk_under HC1.out))
  have q2B : Below w1.heap.size w1 w2 := qB hb
  have q2z := hb.size
  try simp at q2z
  have q2t : w1.heap.size ≤ w2.heap.size := (by omega)
  obtain ⟨q2s0, q2n0_0, q2n0_1, q2n0_2⟩ := kB w2.heap.size (w.heap.size + 1)
  obtain ⟨q2c0_0, q2c0_1, q2c0_2, q2f0⟩ := kC3 hb (w.heap.size + 1)
  simp [go_sem, *] at q2c0_0 q2c0_1 q2c0_2 q2f0
  obtain ⟨q2s1, q2n1_0, q2n1_1, q2n1_2⟩ := kB w2.heap.size w1.heap.size
  obtain ⟨q2c1_0, q2c1_1, q2c1_2, q2c1_3, q2c1_4, q2c1_5, q2c1_6, q2f1⟩ := kC7 hb w1.heap.size
  simp [go_sem, *] at q2c1_0 q2c1_1 q2c1_2 q2c1_3 q2c1_4 q2c1_5 q2c1_6 q2f1
  have q2o := belO q2B
  clear hb q1o q1f1 q1c1_2 q1c1_1 q1c1_0 q1s1 q1f0 q1c0_0 q1s0 q1z q1B
  have B2 := hide (B1.out.trans (q2B.mono (by omega)))
  cases b3 with
  | false =>
   have HV := hide (HE.out.trans (by rfl : _ = (14 : Int)))
   go_wp2_with fail
   go_ret
   exact ⟨by rw [HV.out]; rfl, B2.out.trans belT⟩
  | true =>
   go_wp2_with (with_reducible refine wpList_load_row rfl 33 (.tmp 3) rfl w.heap.size rfl 33 B.C (0, 0) _ (blk_under HC2.out) Tryz.underlying33 rfl HS.out ?_)
   refine (H5.out _ (HW.out.below (B2.out.trans belT))).mono ?_
   rintro r w3 ⟨v, b, rfl, ho, hb⟩
   have HC3 := hide (blk_below hb (by first | omega | (simp <;> omega)) (blk_under HC2.out))
   have HOV := hide ho
   clear ho
   have q3B : Below w2.heap.size w2 w3 := qB hb
   have q3z := hb.size
   try simp at q3z
   have q3t : w2.heap.size ≤ w3.heap.size := (by omega)
   obtain ⟨q3s0, q3n0_0, q3n0_1, q3n0_2⟩ := kB w3.heap.size (w.heap.size + 1)
   obtain ⟨q3c0_0, q3c0_1, q3c0_2, q3f0⟩ := kC3 hb (w.heap.size + 1)
   simp [go_sem, *] at q3c0_0 q3c0_1 q3c0_2 q3f0
   have q3o := belO q3B
   clear hb q2o q2f1 q2c1_6 q2c1_5 q2c1_4 q2c1_3 q2c1_2 q2c1_1 q2c1_0 q2s1 q2f0 q2c0_2 q2c0_1 q2c0_0 q2s0 q2z q2B
   have B3 := hide (B2.out.trans (q3B.mono (by omega)))
   cases o with
   | none =>
    obtain rfl : b = false := HOV.out
    have HV := hide (HE.out.trans (by rfl : _ = (14 : Int)))
    go_wp2_with fail
    go_ret
    exact ⟨by rw [HV.out]; rfl, B3.out.trans belT⟩
   | some k =>
    obtain ⟨rfl, rfl⟩ := HOV.out
    cases hq : ((curP (B.P k)).toList == cu.toList) with
    | false =>
     have HV := hide (HE.out.trans (show (if ((curP (B.P k)).toList == cu.toList) = true then (if b4 = true then 0 else 16) else 14) = (14 : Int) by rw [hq]; rfl))
     go_wp2_with fail
     go_ret
     exact ⟨by rw [HV.out]; rfl, B3.out.trans belT⟩
    | true =>
     have HV := hide (HE.out.trans (show (if ((curP (B.P k)).toList == cu.toList) = true then (if b4 = true then 0 else 16) else 14) = if b4 = true then (0 : Int) else 16 by rw [hq]; rfl))
     go_wp2_with (with_reducible refine wpList_load_row rfl 33 (.tmp 3) rfl w.heap.size rfl 33 B.C (0, 0) _ HC3.out Tryz.underlying33 rfl HS.out ?_)
     refine (H4.out _ (HW.out.below (B3.out.trans belT))).mono ?_
     rintro r w4 ⟨rfl, hb⟩
     have B4 := hide (B3.out.trans ((show Below w3.heap.size w3 _ from by (repeat (first | (with_reducible first | exact Below.refl _ _ | assumption | refine Below.drew ?_) | ((with_reducible first | refine Below.alloc ?_ ?_ _ | refine Below.setCell ?_ ?_ _); rotate_left; (first | omega | (simp <;> omega)))))).trans (hb.mono (by first | omega | (simp <;> omega)))|>.mono B3.out.size))
     clear hb
     cases b4 with
     | true =>
      have HV2 := hide (HV.out.trans (if_pos rfl))
      go_wp2_with fail
      go_ret
      exact ⟨by rw [HV2.out]; rfl, B4.out.trans belT⟩
     | false =>
      have HV2 := hide (HV.out.trans (if_neg (by decide)))
      go_wp2_with fail
      go_ret
      exact ⟨by rw [HV2.out]; rfl, B4.out.trans belT⟩
end Go.Proofs.YtpghciiifnjimaaGreatDoor
namespace Go.Proofs.YtpghciiifnjimaaGreatDoor
set_option maxRecDepth 4000
set_option linter.unusedSimpArgs false
set_option linter.unusedVariables false
open Go.RowKit Go.Shelf
attribute [local go_sem] Oper.semAt_some
/-- The legs of an account among the first i of entry k; among the first k entries. -/
def toL (E : Nat → LEnt) (id : Int) (k : Nat) : Nat → List (Nat × Nat)
 | 0 => []
 | i + 1 => toL E id k i ++ (if ((E k).legs i).ac = id then [(k, i)] else [])
def toE (E : Nat → LEnt) (id : Int) : Nat → List (Nat × Nat)
 | 0 => []
 | k + 1 => toE E id k ++ toL E id k (E k).ln
theorem toL_len (E : Nat → LEnt) (id : Int) (k : Nat) : ∀ i, (toL E id k i).length ≤ i
 | 0 => Nat.le_refl _
 | i + 1 => by
  have := toL_len E id k i
  unfold toL
  rw [List.length_append]
  split <;> simp <;> omega
theorem toE_len (E : Nat → LEnt) (id : Int) : ∀ n, (∀ k, k < n → (E k).ln ≤ 1000000) → (toE E id n).length ≤ n * 1000000
 | 0, _ => Nat.le_refl _
 | n + 1, h => by
  have := toE_len E id n (fun k hk => h k (by omega))
  have := toL_len E id n (E n).ln
  have := h n (by omega)
  unfold toE
  rw [List.length_append]
  omega
theorem toL_yes {E : Nat → LEnt} {id : Int} {k i : Nat} (h : ((E k).legs i).ac = id) : toL E id k (i + 1) = toL E id k i ++ [(k, i)] := by
 show toL E id k i ++ (if _ then _ else _) = _
 rw [if_pos h]
theorem toL_no {E : Nat → LEnt} {id : Int} {k i : Nat} (h : ((E k).legs i).ac ≠ id) : toL E id k (i + 1) = toL E id k i := by
 show toL E id k i ++ (if _ then _ else _) = _
 rw [if_neg h, List.append_nil]
theorem wr_step (S m a : Int) : wrap64 (wrap64 (S + m) - a) = wrap64 (S + wrap64 (m - a)) := by unfold wrap64; omega
/-- What a round keeps: all that lay below n₀, and all other variables but one. -/
def KpM (n₀ nb : Nat) (W W' : World) : Prop := Below n₀ W W' ∧ ∀ b cs t fz, b ≠ nb → W.heap[b]? = some (.cells cs t fz) → W'.heap[b]? = some (.cells cs t fz)
theorem KpM.refl (n₀ nb : Nat) (W : World) : KpM n₀ nb W W := ⟨Below.refl _ _, fun _ _ _ _ _ h => h⟩
theorem KpM.trans {n₀ nb : Nat} {A B C : World} (h : KpM n₀ nb A B) (k : KpM n₀ nb B C) : KpM n₀ nb A C := ⟨h.1.trans k.1, fun b cs t fz hb hh => k.2 b cs t fz hb (h.2 b cs t fz hb hh)⟩
theorem KpM.alloc {n₀ nb : Nat} (W : World) (o : Obj) (h : n₀ ≤ W.heap.size) : KpM n₀ nb W (W.alloc o) := ⟨(Below.refl _ W).alloc h _, fun b cs t fz _ hh => by
 rw [Below.heap_alloc _ _ _ (Array.getElem?_eq_some_iff.1 hh).1]; exact hh⟩
theorem KpM.set {n₀ nb : Nat} (W : World) (v : Value) (h : n₀ ≤ nb) : KpM n₀ nb W (W.setCell ⟨nb, 0, none⟩ v) := ⟨(Below.refl _ W).setCell (p := ⟨nb, 0, none⟩) h _, fun b cs t fz hb hh => by
 rw [Below.heap_setCell _ _ _ _ hb]; exact hh⟩
theorem kpM_b {n₀ nb : Nat} {w : World} (hn : n₀ ≤ w.heap.size) (W : World) (l : Nat) (o o' : Obj) (hl : w.heap.size ≤ l) (h : W.heap[l]? = some o) (h1 : o.isCells = false) (h2 : o.isWalk = false) : KpM n₀ nb W (W.putObj l o') :=
 ⟨belowK_b hn W l o o' hl h h1 h2, fun b cs t fz _ hh => by
  rw [World.putObj_heap_other]
  ·exact hh
  ·intro e
   subst e
   rw [h] at hh
   injection hh with hh
   subst hh
   cases h1⟩
theorem KpM.boxed {n₀ nb B : Nat} {W W' : World} {t : TypeId} {v : Value} (h : KpM n₀ nb W W') (hb : Boxed W B t v) (hne : B ≠ nb) : Boxed W' B t v := h.2 _ _ _ _ hne hb
theorem boxed_wide {W : World} {B : Nat} {cs : List Value} {t : TypeId} (h : W.heap[B]? = some (.cells cs.toArray t (0, 0))) (j : Nat) (v : Value) (hv : cs[j]? = some v) : W.cell? ⟨B, j, none⟩ = some v := by
 rw [cell_of_cells h j]; simpa using hv
end Go.Proofs.YtpghciiifnjimaaGreatDoor
namespace Go.Proofs.YtpghciiifnjimaaGreatDoor
set_option maxRecDepth 4000
set_option linter.unusedSimpArgs false
set_option linter.unusedVariables false
open Go.RowKit Go.Shelf
attribute [local go_sem] Oper.semAt_some
theorem ab_alloc {β : Type} {B : Nat} {J : β → World → Prop} (hJ : AbidesFrom B J) {s : β} {W : World} (o : Obj) (h : J s W) : J s (W.alloc o) := hJ s W _ none h (World.grownBy_alloc W o none) (fun r e => by cases e)
abbrev entA (e : LEnt) : Value := .agg #[.int .i64 e.id, .int .i64 e.bk, .int .i64 e.va, .int .i64 e.ki, .int .i64 e.au, .int .i64 e.pe, .string e.key, .string e.tx, .slice e.lA e.ln e.lc, .int .u64 e.ch]
def MvO (E : Nat → LEnt) (id : Int) (jn bi : Nat) (w0 W : World) (J : List (Nat × Nat) → World → Prop) (v : Value) (wr : World) : Prop :=
 ∃ k : Nat, k ≤ jn ∧ v = .int .i64 k ∧ J (toE E id k) wr ∧ Below w0.heap.size w0 wr ∧ Boxed wr bi 3 (.int .i64 id) ∧ W.heap.size ≤ wr.heap.size
def MvI (E : Nat → LEnt) (id : Int) (bi be k : Nat) (w0 W : World) (J : List (Nat × Nat) → World → Prop) (v : Value) (wr : World) : Prop :=
 ∃ i : Nat, i ≤ (E k).ln ∧ v = .int .i64 i ∧ J (toE E id k ++ toL E id k i) wr ∧ Below w0.heap.size w0 wr ∧ Boxed wr bi 3 (.int .i64 id) ∧ W.heap.size ≤ wr.heap.size ∧
  wr.heap[be]? = some (.cells #[.int .i64 (E k).id, .int .i64 (E k).bk, .int .i64 (E k).va, .int .i64 (E k).ki, .int .i64 (E k).au, .int .i64 (E k).pe, .string (E k).key, .string (E k).tx, .slice (E k).lA (E k).ln (E k).lc, .int .u64 (E k).ch] 53 (0, 0))
set_option maxRecDepth 100000 in
set_option maxHeartbeats 4000000 in
theorem mov1_in (F : Fence) (n : Nat) (hf : F.fn 82) (hro : F.round = none) (hn : 1 ≤ n) (l bj bi nb : Nat) (jA : Option Addr) (jn jc : Nat) (E : Nat → LEnt) (id : Int) (hjn : jn ≤ 1000000) (w0 : World) (hj : Jrn w0 jA jn E) (hbi : bi ≠ nb)
  (J Jx : List (Nat × Nat) → World → Prop)
  (hY : ∀ pre x W, J pre W → pre.length < jn * 1000000 → YieldAt F (n - 1) Tryz.prog l #[entA (E x.1), .int .i64 ((E x.1).legs x.2).am] W fun e W' =>
   (e = .returned (.bool true) ∧ J (pre ++ [x]) W' ∧ KpM w0.heap.size nb W W') ∨ (e = .returned (.bool false) ∧ Jx (pre ++ [x]) W'))
  (W : World) (hJ : AbidesFrom W.heap.size J) (hnb : nb < W.heap.size) (hb0 : Below w0.heap.size w0 W) (h1 : Boxed W bj 29 (.slice jA jn jc)) (h2 : Boxed W bi 3 (.int .i64 id)) (h0 : J [] W) :
  CallsIn F n Tryz.prog 82 #[.func (.yield l) #[] #[], .pointer (some ⟨bj, 0, none⟩), .pointer (some ⟨bi, 0, none⟩)] W fun e W' => (∃ v, e = .returned v) ∧
   ((∃ ys, ys = toE E id jn ∧ J ys W') ∨ (∃ pre, True ∧ Jx pre W')) := by
 have HJR := hide hj
 have HLE := hide (toE_len E id)
 have HLL := hide (toL_len E id)
 have HJ0 := hide hJ
 refine callsIn_of_wp Tryz.func82 rfl hf ?_ hro
 simp only [Tryz.ntmps82, List.size_toArray, List.length_cons, List.length_nil, Nat.reduceAdd, Nat.reduceSub, Array.replicate_succ, Array.replicate_zero, List.push_toArray, List.append_toArray, List.nil_append, List.cons_append]
 have hbjc := h1.cell
 gi_wp2
 gi_loopw [10] (fun v wr => MvO E id jn bi w0 W J v wr) (fun v _ => jn - (intOf v).toNat)
 case atStart => exact ⟨0, Nat.zero_le _, rfl, h0, hb0, h2, Nat.le_refl _⟩
 case round =>
  obtain ⟨k, hk, rfl, hJs, hB, hbx, hsz⟩ := hrel
  obtain ⟨wo, rfl⟩ : ∃ wo, wo = wr := ⟨_, rfl⟩
  by_cases hlt : k < jn
  ·have hm : (k : Int) < jn := by omega
   have hk0 : (0 : Int) ≤ k := by omega
   obtain ⟨b, off, rfl, hbl, c0, c1, c2, c3, c4, c5, c6, c7, c8, c9⟩ := (HJR.out.below hB).row.at hlt
   have HK := hide hlt
   have hll := HJR.out.legs k hlt
   clear hlt hk
   gi_wp2
   gi_loopw [17] (fun v wi => MvI E id bi wo.heap.size k w0 W J v wi) (fun v _ => (E k).ln - (intOf v).toNat)
   case atStart => exact ⟨0, Nat.zero_le _, rfl, by simpa [toL] using ab_alloc hJ _ hJs, hB.alloc hB.size _, hbx.alloc _, by simp; omega, World.alloc_heap_new wo _⟩
   case round =>
    obtain ⟨i, hi, rfl, hJi, hBi, hbxi, hszi, hbe⟩ := hrel
    by_cases hil : i < (E k).ln
    ·have hmi : (i : Int) < (E k).ln := by omega
     have hi0 : (0 : Int) ≤ i := by omega
     have HI := hide hil
     obtain ⟨b2, off2, hA2, hbl2, d0, d1, d2⟩ := ((HJR.out.below hBi).row.2 k HK.out).at hil
     have e0 := (boxed_wide (cs := [.int .i64 (E k).id, .int .i64 (E k).bk, .int .i64 (E k).va, .int .i64 (E k).ki, .int .i64 (E k).au, .int .i64 (E k).pe, .string (E k).key, .string (E k).tx, .slice (E k).lA (E k).ln (E k).lc, .int .u64 (E k).ch]) hbe)
     have x0 := e0 0 _ rfl
     have x1 := e0 1 _ rfl
     have x2 := e0 2 _ rfl
     have x3 := e0 3 _ rfl
     have x4 := e0 4 _ rfl
     have x5 := e0 5 _ rfl
     have x6 := e0 6 _ rfl
     have x7 := e0 7 _ rfl
     have x8 := e0 8 _ rfl
     have x9 := e0 9 _ rfl
     have xb := hbxi.cell
     have zb := hbxi.lt
     have zb1 : ¬ wr.heap.size = bi := by omega
     have ze := heap_lt hbe
     have ze1 : ¬ wr.heap.size = wo.heap.size := by omega
     clear hil hi e0
     by_cases he : ((E k).legs i).ac = id
     ·have h1 : (((E k).legs i).ac == id) = true := beq_iff_eq.2 he
      have HT := hide (toL_yes he)
      have hlen : (toE E id k ++ toL E id k i).length < jn * 1000000 := by
       rw [List.length_append]
       have := HLE.out k (fun j hj => HJR.out.legs j (by have := HK.out; omega))
       have := HLL.out k i
       have := HI.out
       have := HJR.out.legs k HK.out
       have := HK.out
       omega
      obtain ⟨fn, tmps, assign, body, hy, hR⟩ := hY _ (k, i) (wr.alloc (.cells #[.int .i64 ((E k).legs i).ac, .int .i64 ((E k).legs i).am, .string ((E k).legs i).cu] 107)) (ab_alloc (B := W.heap.size) HJ0.out _ hJi) hlen
      dsimp only [entA] at hy
      rw [hA2] at hy
      clear he hlen hY
      simp only [hA2]
      gi_wp2
      refine hR.mono ?_
      rintro e W3 (⟨rfl, hJ3, hk3⟩ | ⟨rfl, hJx3⟩)
      ·have hbe3 := hk3.2 _ _ _ _ (by omega : wo.heap.size ≠ nb) (by rw [Below.heap_alloc _ _ _ ze]; exact hbe)
       have hbx3 := hk3.boxed (hbxi.alloc _) hbi
       have hs3 := hk3.1.size
       simp at hs3
       gi_wp2
       go_roundw
       case rel => exact ⟨i + 1, HI.out, by go_num, by rw [HT.out, ← List.append_assoc]; exact hJ3, (hBi.alloc hBi.size _).trans hk3.1, hbx3, by omega, hbe3⟩
       case measure => have := HI.out; simp [intOf]; omega
      ·gi_wp2
       refine bodyPost_ret (results_none rfl _ _ _) rfl ?_
       exact ⟨⟨_, rfl⟩, .inr ⟨_, trivial, hJx3⟩⟩
     ·have h1 : (((E k).legs i).ac == id) = false := beq_eq_false_iff_ne.2 he
      have HT := hide (toL_no he)
      clear he hY
      simp only [hA2]
      gi_wp2
      refine ⟨fun _ h => (by cases h), ?_⟩
      gi_wp2
      go_roundw
      case rel => exact ⟨i + 1, HI.out, by go_num, by rw [HT.out]; exact ab_alloc (B := W.heap.size) HJ0.out _ hJi, hBi.alloc hBi.size _, hbxi.alloc _, by simp; omega, by rw [Below.heap_alloc _ _ _ ze]; exact hbe⟩
      case measure => have := HI.out; simp [intOf]; omega
    ·obtain rfl : i = (E k).ln := by omega
     clear hil hi
     gi_wp2
     go_roundw
     case rel => exact ⟨k + 1, HK.out, by go_num, hJi, hBi, hbxi, hszi⟩
     case measure => have := HK.out; simp [intOf]; omega
  ·obtain rfl : k = jn := by omega
   clear hlt hk
   gi_wp2
   go_end0
   exact ⟨⟨_, rfl⟩, .inl ⟨_, rfl, hJs⟩⟩
end Go.Proofs.YtpghciiifnjimaaGreatDoor
namespace Go.Proofs.YtpghciiifnjimaaGreatDoor
set_option maxRecDepth 4000
set_option linter.unusedSimpArgs false
set_option linter.unusedVariables false
open Go.RowKit Go.Shelf
attribute [local go_sem] Oper.semAt_some
set_option maxHeartbeats 1000000 in
theorem movs_in (F : Fence) (n : Nat) (h5 : F.fn 39) (hro : F.round = none) (A : Option Addr) (jn jc : Nat) (id : Int) (w : World) :
  CallsIn F n Tryz.prog 39 #[.slice A jn jc, .int .i64 id] w fun e w' => e = .returned (.func (.func 82) #[] #[.pointer (some ⟨w.heap.size, 0, none⟩), .pointer (some ⟨w.heap.size + 1, 0, none⟩)]) ∧ w' = (w.alloc (.cells #[.slice A jn jc] 29)).alloc (.cells #[.int .i64 id] 3) := by
 refine callsIn_of_wp Tryz.func39 rfl h5 ?_ hro
 simp only [Tryz.ntmps39, List.size_toArray, List.length_cons, List.length_nil, Nat.reduceAdd, Nat.reduceSub, Array.replicate_succ, Array.replicate_zero, List.push_toArray, List.append_toArray, List.nil_append, List.cons_append]
 gi_wp2
 go_ret
 exact ⟨rfl, rfl⟩
theorem mov_stops (F : Fence) (n : Nat) (hf : F.fn 82) (hro : F.round = none) (hn : 1 ≤ n) (bj bi nb : Nat) (jA : Option Addr) (jn jc : Nat) (E : Nat → LEnt) (id : Int) (hjn : jn ≤ 1000000) (w0 W0 : World) (hb : Below w0.heap.size w0 W0) (hj : Jrn w0 jA jn E) (h1 : Boxed W0 bj 29 (.slice jA jn jc)) (h2 : Boxed W0 bi 3 (.int .i64 id)) (hnb : nb < W0.heap.size) (hbi : bi ≠ nb) :
  SeqStopsK F n Tryz.prog 82 #[.pointer (some ⟨bj, 0, none⟩), .pointer (some ⟨bi, 0, none⟩)] (fun x : Nat × Nat => #[entA (E x.1), .int .i64 ((E x.1).legs x.2).am]) (KpM w0.heap.size nb) (fun ys => ys = toE E id jn) (fun _ => True) (jn * 1000000) W0 := fun l J Jx W hW hJ _ hY h0 =>
 mov1_in F n hf hro hn l bj bi nb jA jn jc E id hjn w0 hj hbi J Jx hY W hJ (Nat.lt_of_lt_of_le hnb hW.size) (hb.trans (hW.mono hb.size)) ((hW.block bj h1.lt).trans h1) ((hW.block bi h2.lt).trans h2) h0
end Go.Proofs.YtpghciiifnjimaaGreatDoor
