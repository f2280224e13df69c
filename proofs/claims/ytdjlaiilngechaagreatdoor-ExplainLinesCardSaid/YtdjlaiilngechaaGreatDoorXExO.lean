/- Texts laid together: ExO. -/
import Derived.Test.YtdjlaiilngechaaGreatDoorXExL
import Derived.Test.YtdjlaiilngechaaGreatDoorXAcJ
import Derived.Test.YtdjlaiilngechaaGreatDoorXK0
namespace Go.Proofs.YtdjlaiilngechaaGreatDoor
set_option maxRecDepth 4000
set_option linter.unusedSimpArgs false
set_option linter.unusedVariables false
open Go.RowKit
abbrev LinV (x : Lin) (A : Option Addr) (c : Nat) : Value := .agg #[.int .i64 x.fr, .int .i64 x.tt, .int .i64 x.bl, .int .i64 x.we, .slice A x.sl.length c, .int .i64 (hiW x.gr), .int .u64 (loW x.gr)]
/-- A line that a call answers. -/
def LinRet (x : Lin) (w : World) (e : Ending) (w' : World) : Prop := ∃ A c, e = .returned (LinV x A c) ∧ Row2 w' A x.sl.length (fsts x.sl) (snds x.sl) ∧ Below w.heap.size w w' ∧ (0 < x.sl.length → ∀ b off, A = some ⟨b, off, none⟩ → w.heap.size ≤ b)
theorem wpList_load_rowG {P : Program} {ops : Array Oper} {rest : List Oper} {o : Oper} {a : Act} {w : World} {Q : Exit → Act → World → Prop} (hw : Region.wanted o (yielded ops a.tmps) = true) (ty : TypeId) (x : Operand) (ho : o.op = .load ty x)
  (g : Nat) (hx : a.eval x = .pointer (some ⟨g, 0, none⟩)) (t : TypeId) (cs : Array Value) (fr : Nat × Nat) (d : TypeDesc) (hg : w.heap[g]? = some (.cells cs t fr))
  (hu : P.underlying ty = some d) (hd : (match d with | .struct _ | .array _ _ => true | _ => false) = true) (hi : (P.info? ty).map (·.size) = some cs.size)
  (h : wpList P ops Q rest (a.put o.dst (.agg cs)) w) : wpList P ops Q (o :: rest) a w :=
 wpList_step fun K hK => by
  simp only [hw, if_true]
  exact wp_load_row ty x ho g hx t cs fr d hg hu hd hi (hK _ _ h)
theorem Row2.set {w : World} {A : Option Addr} {n : Nat} {f g : Nat → Int} {B q j : Nat} {v : Value} (h : Row2 w A n f g) (hf : 0 < n → ∀ b off, A = some ⟨b, off, none⟩ → B ≤ b) (hp : q < B) : Row2 (w.setCell ⟨q, j, none⟩ v) A n f g := fun hn => by
 obtain ⟨b, off, e, hlt, hc⟩ := h hn
 have hb := hf hn b off e
 refine ⟨b, off, e, by simpa using hlt, fun k hk => ?_⟩
 obtain ⟨c0, c1⟩ := hc k hk
 have he : ∀ o, (w.setCell ⟨q, j, none⟩ v).cell? ⟨b, o, none⟩ = w.cell? ⟨b, o, none⟩ := fun o => World.cell?_of_block (a := ⟨b, o, none⟩) (Below.heap_setCell _ _ _ _ (show b ≠ q by omega))
 exact ⟨(he _).trans c0, (he _).trans c1⟩
theorem oneS_none {B : LBk} {id day b : Int} (h : prdB B id day = none) : oneS B id day b = [] := by
 unfold oneS
 rw [h]
 split <;> rfl
theorem oneS_off {B : LBk} {id day b : Int} (h : actB B id day = false) : oneS B id day b = [] := if_neg (by rw [h]; decide)
theorem oneS_on {B : LBk} {id day b : Int} {k : Nat} (h : actB B id day = true) (hp : prdB B id day = some k) : oneS B id day b = sliL (sideP (B.P k) b) b := by
 unfold oneS
 rw [if_pos h, hp]
 rfl
theorem oneW_nil {B : LBk} {id day b : Int} (h : oneS B id day b = []) : oneW B id day b = 0 := if_pos h
theorem oneW_on {B : LBk} {id day b : Int} {k : Nat} (h : oneS B id day b ≠ []) (hp : prdB B id day = some k) : oneW B id day b = wgt (sideP (B.P k) b).ba day := by
 unfold oneW
 rw [if_neg h, hp]
 rfl
theorem linRet_nil {B : LBk} {a : LAcr} {w w' : World} {e : Ending} (h : oneS B a.ac a.dy a.bl = []) (he : e = .returned (.agg #[.int .i64 a.dy, .int .i64 a.dy, .int .i64 a.bl, .int .i64 0, .slice none 0 0, .int .i64 (hiW (a.cr - a.db)), .int .u64 (loW (a.cr - a.db))])) (hb : Below w.heap.size w w') : LinRet (oneP B a) w e w' := by
 refine ⟨none, 0, ?_, ?_, hb, fun _ b off e => by cases e⟩
 ·rw [he]; simp only [oneP, h, oneW_nil h]; rfl
 ·simp only [oneP, h]; exact fun hn => absurd hn (by simp)
theorem linRet_on {B : LBk} {a : LAcr} {w w' : World} {e : Ending} {A : Option Addr} {c : Nat} {L : List (Int × Int)} {t : Int} (h : oneS B a.ac a.dy a.bl = L) (ht : oneW B a.ac a.dy a.bl = t) (he : e = .returned (.agg #[.int .i64 a.dy, .int .i64 a.dy, .int .i64 a.bl, .int .i64 t, .slice A L.length c, .int .i64 (hiW (a.cr - a.db)), .int .u64 (loW (a.cr - a.db))])) (hr : Row2 w' A L.length (fsts L) (snds L)) (hf : 0 < L.length → ∀ b off, A = some ⟨b, off, none⟩ → w.heap.size ≤ b) (hb : Below w.heap.size w w') : LinRet (oneP B a) w e w' := by
 subst h ht
 exact ⟨A, c, he, hr, hb, hf⟩
theorem acrOk_win {a : LAcr} (h : AcrOk a) : WIn a.cr ∧ WIn a.db ∧ WIn (a.cr - a.db) := by
 have h0 := h.c0
 have h1 := h.c1
 have h2 := h.d0
 have h3 := h.d1
 unfold WIn
 omega
set_option maxRecDepth 8000 in
set_option maxHeartbeats 8000000 in
theorem one_any (B : LBk) (hB : BkOK B) (a : LAcr) (ha : AcrOk a) (hai : IIn a.bl) (w : World) (hw : BkIn w B) :
  Calls Tryz.prog 48 #[.agg B.C, AcrV a] w (LinRet (oneP B a) w) := by
 have HB := hide hB
 have HW := hide hw
 have HS := hide (bk_size hB)
 have HO := hide (acrOk_win ha)
 have HF := hide (fitR_of (acrOk_win ha).2.2)
 have HBI := hide hai
 clear hB hw ha hai
 obtain ⟨i0, Z, hi0, hi1, hi2⟩ := pz_zero
 have HI := hide (And.intro hi0 hi1)
 have HZ1 := hide hi2
 clear hi0 hi1 hi2
 cases hp : prdB B a.ac a.dy with
 | none =>
  have HP := hide hp
  have HV := hide (oneS_none (b := a.bl) hp)
  clear hp
  go_enter Tryz.func48, Tryz.ntmps48
  go_wp2_with fail
  refine (wsub_any a.cr a.db HO.out.1 HO.out.2.1 _).mono ?_
  rintro e w1 ⟨rfl, hb⟩
  rw [HF.out]
  have X1 := hide (blk_below (k := w.heap.size) (x := .cells B.C 33 (0, 0)) hb (by simp; omega) (by repeat (first | with_reducible exact (blk_new rfl) | with_reducible exact blk_new rfl | refine blk_setOther (by simp <;> omega) ?_ | refine blk_under ?_)))
  have q1B : Below w.heap.size w w1 := qB hb
  have q1z := hb.size
  try simp at q1z
  have q1t : w.heap.size ≤ w1.heap.size := (by omega)
  obtain ⟨q1s0, q1n0_0, q1n0_1, q1n0_2⟩ := kB w1.heap.size (w.heap.size + 1)
  obtain ⟨q1c0_0, q1c0_1, q1c0_2, q1c0_3, q1c0_4, q1c0_5, q1c0_6, q1f0⟩ := kC7 hb (w.heap.size + 1)
  simp [go_sem, *] at q1c0_0 q1c0_1 q1c0_2 q1c0_3 q1c0_4 q1c0_5 q1c0_6 q1f0
  obtain ⟨q1s1, q1n1_0, q1n1_1, q1n1_2⟩ := kB w1.heap.size (w.heap.size + 2)
  obtain ⟨q1c1_0, q1c1_1, q1c1_2, q1c1_3, q1c1_4, q1c1_5, q1c1_6, q1f1⟩ := kC7 hb (w.heap.size + 2)
  simp [go_sem, *] at q1c1_0 q1c1_1 q1c1_2 q1c1_3 q1c1_4 q1c1_5 q1c1_6 q1f1
  obtain ⟨q1s2, q1n2_0, q1n2_1, q1n2_2⟩ := kB w1.heap.size (w.heap.size + 3)
  obtain ⟨q1c2_0, q1c2_1, q1c2_2, q1c2_3, q1c2_4, q1c2_5, q1c2_6, q1f2⟩ := kC7 hb (w.heap.size + 3)
  simp [go_sem, *] at q1c2_0 q1c2_1 q1c2_2 q1c2_3 q1c2_4 q1c2_5 q1c2_6 q1f2
  have q1o := belO q1B
  clear hb
  have B1 := hide q1B
  go_wp2_with (with_reducible refine wpList_load_row rfl 33 (.tmp 2) rfl w.heap.size rfl 33 B.C (0, 0) _ (by repeat (first | with_reducible exact X1.out | with_reducible exact blk_new rfl | refine blk_setOther (by simp <;> omega) ?_ | refine blk_under ?_)) Tryz.underlying33 rfl HS.out ?_)
  refine (product_any B HB.out a.ac a.dy _ (HW.out.below (B1.out.trans belT))).mono ?_
  rintro e w2 ⟨C, b, rfl, hs, h1, ho, hb⟩
  rw [HP.out] at ho
  simp only at ho
  subst ho
  have HH := hide (And.intro hs h1)
  clear hs h1
  have B2 := hide (B1.out.trans (Below.trans (by (repeat (first | (with_reducible first | exact Below.refl _ _ | assumption | refine Below.drew ?_) | ((with_reducible first | refine Below.alloc ?_ ?_ _ | refine Below.setCell ?_ ?_ _); rotate_left; (first | omega | (simp <;> omega))))) : Below w.heap.size w1 ((w1.setCell ⟨w.heap.size + 3, 5, none⟩ (.int .i64 (hiW (a.cr - a.db)))).setCell ⟨w.heap.size + 3, 6, none⟩ (.int .u64 (loW (a.cr - a.db))))) (hb.mono (by simp; omega))))
  have X2 := hide (blk_below (k := w.heap.size) (x := .cells B.C 33 (0, 0)) hb (by simp; omega) (by repeat (first | with_reducible exact X1.out | with_reducible exact blk_new rfl | refine blk_setOther (by simp <;> omega) ?_ | refine blk_under ?_)))
  have B1o := B1.out
  have q2B : Below w.heap.size w w2 := qB hb
  have q2z := hb.size
  try simp at q2z
  have q2t : w.heap.size ≤ w2.heap.size := (by omega)
  obtain ⟨q2s0, q2n0_0, q2n0_1, q2n0_2⟩ := kB w2.heap.size (w.heap.size + 1)
  obtain ⟨q2c0_0, q2c0_1, q2c0_2, q2c0_3, q2c0_4, q2c0_5, q2c0_6, q2f0⟩ := kC7 hb (w.heap.size + 1)
  simp [go_sem, *] at q2c0_0 q2c0_1 q2c0_2 q2c0_3 q2c0_4 q2c0_5 q2c0_6 q2f0
  obtain ⟨q2s1, q2n1_0, q2n1_1, q2n1_2⟩ := kB w2.heap.size (w.heap.size + 2)
  obtain ⟨q2c1_0, q2c1_1, q2c1_2, q2c1_3, q2c1_4, q2c1_5, q2c1_6, q2f1⟩ := kC7 hb (w.heap.size + 2)
  simp [go_sem, *] at q2c1_0 q2c1_1 q2c1_2 q2c1_3 q2c1_4 q2c1_5 q2c1_6 q2f1
  obtain ⟨q2s2, q2n2_0, q2n2_1, q2n2_2⟩ := kB w2.heap.size (w.heap.size + 3)
  obtain ⟨q2c2_0, q2c2_1, q2c2_2, q2c2_3, q2c2_4, q2c2_5, q2c2_6, q2f2⟩ := kC7 hb (w.heap.size + 3)
  simp [go_sem, *] at q2c2_0 q2c2_1 q2c2_2 q2c2_3 q2c2_4 q2c2_5 q2c2_6 q2f2
  have q2o := belO q2B
  clear hb q1o q1f2 q1c2_6 q1c2_5 q1c2_4 q1c2_3 q1c2_2 q1c2_1 q1c2_0 q1s2 q1f1 q1c1_6 q1c1_5 q1c1_4 q1c1_3 q1c1_2 q1c1_1 q1c1_0 q1s1 q1f0 q1c0_6 q1c0_5 q1c0_4 q1c0_3 q1c0_2 q1c0_1 q1c0_0 q1s0 q1z q1B
  clear B1o
  go_wp2_with (first
   | (with_reducible refine wpList_alloc_row rfl 78 rfl (some 6) rfl i0 HI.out.1 Z HI.out.2 w2.heap.size rfl ?_)
   | ((with_reducible refine wpList_store_newrow2 rfl 78 (.tmp 6) (.tmp 32) rfl rfl w2.heap.size C rfl rfl 78 Z (blk_new rfl) (pz_size HH.out.1) (by rw [HZ1.out, HH.out.1]) HH.out.2 ?_); intro w3 hb hs3 hx3 hk3; have X3 := hide hx3; have X3b := hide (blk_below (k := w.heap.size) hb (by omega) (blk_under X2.out)); have q3B : Below w2.heap.size w2 w3 := qB hb; have q3z := hb.size; (try simp at q3z); have q3t : w2.heap.size ≤ w3.heap.size := (by omega); have q3s0 : w.heap.size + 1 < w3.heap.size := (by omega); obtain ⟨q3n0_0, q3n0_1, q3n0_2⟩ := kN q3s0; obtain ⟨q3c0_0, q3c0_1, q3c0_2, q3c0_3, q3c0_4, q3c0_5, q3c0_6, q3f0⟩ := kC7 hb (w.heap.size + 1); simp [go_sem, *] at q3c0_0 q3c0_1 q3c0_2 q3c0_3 q3c0_4 q3c0_5 q3c0_6 q3f0; have q3s1 : w.heap.size + 2 < w3.heap.size := (by omega); obtain ⟨q3n1_0, q3n1_1, q3n1_2⟩ := kN q3s1; obtain ⟨q3c1_0, q3c1_1, q3c1_2, q3c1_3, q3c1_4, q3c1_5, q3c1_6, q3f1⟩ := kC7 hb (w.heap.size + 2); simp [go_sem, *] at q3c1_0 q3c1_1 q3c1_2 q3c1_3 q3c1_4 q3c1_5 q3c1_6 q3f1; have q3s2 : w.heap.size + 3 < w3.heap.size := (by omega); obtain ⟨q3n2_0, q3n2_1, q3n2_2⟩ := kN q3s2; obtain ⟨q3c2_0, q3c2_1, q3c2_2, q3c2_3, q3c2_4, q3c2_5, q3c2_6, q3f2⟩ := kC7 hb (w.heap.size + 3); simp [go_sem, *] at q3c2_0 q3c2_1 q3c2_2 q3c2_3 q3c2_4 q3c2_5 q3c2_6 q3f2; have q3o := belO q3B; have hbS := hb; have hbS3 := hb; clear hb; clear hs3 hx3 hk3 hbS hbS3; have B3 := hide (B2.out.trans (q3B.mono (by omega)))))
  refine bodyPost_ret (by simp [results, Tryz.results48, go_sem, *] <;> rfl) rfl ?_
  refine linRet_nil HV.out (by with_reducible rfl) (B3.out.trans ?_)
  (repeat (first | (with_reducible first | exact Below.refl _ _ | assumption | refine Below.drew ?_) | ((with_reducible first | refine Below.alloc ?_ ?_ _ | refine Below.setCell ?_ ?_ _); rotate_left; (first | omega | (simp <;> omega)))))
 | some k =>
  have HP := hide hp
  have HK := hide (prd_lt hp)
  cases hac : actB B a.ac a.dy with
  | false =>
   have HA := hide hac
   have HV := hide (oneS_off (b := a.bl) hac)
   clear hac hp
   go_enter Tryz.func48, Tryz.ntmps48
   go_wp2_with fail
   refine (wsub_any a.cr a.db HO.out.1 HO.out.2.1 _).mono ?_
   rintro e w1 ⟨rfl, hb⟩
   rw [HF.out]
   have X1 := hide (blk_below (k := w.heap.size) (x := .cells B.C 33 (0, 0)) hb (by simp; omega) (by repeat (first | with_reducible exact (blk_new rfl) | with_reducible exact blk_new rfl | refine blk_setOther (by simp <;> omega) ?_ | refine blk_under ?_)))
   have q1B : Below w.heap.size w w1 := qB hb
   have q1z := hb.size
   try simp at q1z
   have q1t : w.heap.size ≤ w1.heap.size := (by omega)
   obtain ⟨q1s0, q1n0_0, q1n0_1, q1n0_2⟩ := kB w1.heap.size (w.heap.size + 1)
   obtain ⟨q1c0_0, q1c0_1, q1c0_2, q1c0_3, q1c0_4, q1c0_5, q1c0_6, q1f0⟩ := kC7 hb (w.heap.size + 1)
   simp [go_sem, *] at q1c0_0 q1c0_1 q1c0_2 q1c0_3 q1c0_4 q1c0_5 q1c0_6 q1f0
   obtain ⟨q1s1, q1n1_0, q1n1_1, q1n1_2⟩ := kB w1.heap.size (w.heap.size + 2)
   obtain ⟨q1c1_0, q1c1_1, q1c1_2, q1c1_3, q1c1_4, q1c1_5, q1c1_6, q1f1⟩ := kC7 hb (w.heap.size + 2)
   simp [go_sem, *] at q1c1_0 q1c1_1 q1c1_2 q1c1_3 q1c1_4 q1c1_5 q1c1_6 q1f1
   obtain ⟨q1s2, q1n2_0, q1n2_1, q1n2_2⟩ := kB w1.heap.size (w.heap.size + 3)
   obtain ⟨q1c2_0, q1c2_1, q1c2_2, q1c2_3, q1c2_4, q1c2_5, q1c2_6, q1f2⟩ := kC7 hb (w.heap.size + 3)
   simp [go_sem, *] at q1c2_0 q1c2_1 q1c2_2 q1c2_3 q1c2_4 q1c2_5 q1c2_6 q1f2
   have q1o := belO q1B
   clear hb
   have B1 := hide q1B
   go_wp2_with (with_reducible refine wpList_load_row rfl 33 (.tmp 2) rfl w.heap.size rfl 33 B.C (0, 0) _ (by repeat (first | with_reducible exact X1.out | with_reducible exact blk_new rfl | refine blk_setOther (by simp <;> omega) ?_ | refine blk_under ?_)) Tryz.underlying33 rfl HS.out ?_)
   refine (product_any B HB.out a.ac a.dy _ (HW.out.below (B1.out.trans belT))).mono ?_
   rintro e w2 ⟨C, b, rfl, hs, h1, ho, hb⟩
   rw [HP.out] at ho
   simp only at ho
   obtain ⟨rfl, rfl⟩ := ho
   have HH := hide (And.intro hs h1)
   clear hs h1
   have B2 := hide (B1.out.trans (Below.trans (by (repeat (first | (with_reducible first | exact Below.refl _ _ | assumption | refine Below.drew ?_) | ((with_reducible first | refine Below.alloc ?_ ?_ _ | refine Below.setCell ?_ ?_ _); rotate_left; (first | omega | (simp <;> omega))))) : Below w.heap.size w1 ((w1.setCell ⟨w.heap.size + 3, 5, none⟩ (.int .i64 (hiW (a.cr - a.db)))).setCell ⟨w.heap.size + 3, 6, none⟩ (.int .u64 (loW (a.cr - a.db))))) (hb.mono (by simp; omega))))
   have X2 := hide (blk_below (k := w.heap.size) (x := .cells B.C 33 (0, 0)) hb (by simp; omega) (by repeat (first | with_reducible exact X1.out | with_reducible exact blk_new rfl | refine blk_setOther (by simp <;> omega) ?_ | refine blk_under ?_)))
   have B1o := B1.out
   have q2B : Below w.heap.size w w2 := qB hb
   have q2z := hb.size
   try simp at q2z
   have q2t : w.heap.size ≤ w2.heap.size := (by omega)
   obtain ⟨q2s0, q2n0_0, q2n0_1, q2n0_2⟩ := kB w2.heap.size (w.heap.size + 1)
   obtain ⟨q2c0_0, q2c0_1, q2c0_2, q2c0_3, q2c0_4, q2c0_5, q2c0_6, q2f0⟩ := kC7 hb (w.heap.size + 1)
   simp [go_sem, *] at q2c0_0 q2c0_1 q2c0_2 q2c0_3 q2c0_4 q2c0_5 q2c0_6 q2f0
   obtain ⟨q2s1, q2n1_0, q2n1_1, q2n1_2⟩ := kB w2.heap.size (w.heap.size + 2)
   obtain ⟨q2c1_0, q2c1_1, q2c1_2, q2c1_3, q2c1_4, q2c1_5, q2c1_6, q2f1⟩ := kC7 hb (w.heap.size + 2)
   simp [go_sem, *] at q2c1_0 q2c1_1 q2c1_2 q2c1_3 q2c1_4 q2c1_5 q2c1_6 q2f1
   obtain ⟨q2s2, q2n2_0, q2n2_1, q2n2_2⟩ := kB w2.heap.size (w.heap.size + 3)
   obtain ⟨q2c2_0, q2c2_1, q2c2_2, q2c2_3, q2c2_4, q2c2_5, q2c2_6, q2f2⟩ := kC7 hb (w.heap.size + 3)
   simp [go_sem, *] at q2c2_0 q2c2_1 q2c2_2 q2c2_3 q2c2_4 q2c2_5 q2c2_6 q2f2
   have q2o := belO q2B
   clear hb q1o q1f2 q1c2_6 q1c2_5 q1c2_4 q1c2_3 q1c2_2 q1c2_1 q1c2_0 q1s2 q1f1 q1c1_6 q1c1_5 q1c1_4 q1c1_3 q1c1_2 q1c1_1 q1c1_0 q1s1 q1f0 q1c0_6 q1c0_5 q1c0_4 q1c0_3 q1c0_2 q1c0_1 q1c0_0 q1s0 q1z q1B
   clear B1o
   go_wp2_with (first
    | (with_reducible refine wpList_alloc_row rfl 78 rfl (some 6) rfl i0 HI.out.1 Z HI.out.2 w2.heap.size rfl ?_)
    | ((with_reducible refine wpList_store_newrow2 rfl 78 (.tmp 6) (.tmp 32) rfl rfl w2.heap.size (B.P k).C rfl rfl 78 Z (blk_new rfl) (pz_size HH.out.1) (by rw [HZ1.out, HH.out.1]) HH.out.2 ?_); intro w3 hb hs3 hx3 hk3; have X3 := hide hx3; have X3b := hide (blk_below (k := w.heap.size) hb (by omega) (blk_under X2.out)); have q3B : Below w2.heap.size w2 w3 := qB hb; have q3z := hb.size; (try simp at q3z); have q3t : w2.heap.size ≤ w3.heap.size := (by omega); have q3s0 : w.heap.size + 1 < w3.heap.size := (by omega); obtain ⟨q3n0_0, q3n0_1, q3n0_2⟩ := kN q3s0; obtain ⟨q3c0_0, q3c0_1, q3c0_2, q3c0_3, q3c0_4, q3c0_5, q3c0_6, q3f0⟩ := kC7 hb (w.heap.size + 1); simp [go_sem, *] at q3c0_0 q3c0_1 q3c0_2 q3c0_3 q3c0_4 q3c0_5 q3c0_6 q3f0; have q3s1 : w.heap.size + 2 < w3.heap.size := (by omega); obtain ⟨q3n1_0, q3n1_1, q3n1_2⟩ := kN q3s1; obtain ⟨q3c1_0, q3c1_1, q3c1_2, q3c1_3, q3c1_4, q3c1_5, q3c1_6, q3f1⟩ := kC7 hb (w.heap.size + 2); simp [go_sem, *] at q3c1_0 q3c1_1 q3c1_2 q3c1_3 q3c1_4 q3c1_5 q3c1_6 q3f1; have q3s2 : w.heap.size + 3 < w3.heap.size := (by omega); obtain ⟨q3n2_0, q3n2_1, q3n2_2⟩ := kN q3s2; obtain ⟨q3c2_0, q3c2_1, q3c2_2, q3c2_3, q3c2_4, q3c2_5, q3c2_6, q3f2⟩ := kC7 hb (w.heap.size + 3); simp [go_sem, *] at q3c2_0 q3c2_1 q3c2_2 q3c2_3 q3c2_4 q3c2_5 q3c2_6 q3f2; have q3o := belO q3B; have hbS := hb; have hbS3 := hb; clear hb; clear hs3 hx3 hk3 hbS hbS3; have B3 := hide (B2.out.trans (q3B.mono (by omega)))) | (with_reducible refine wpList_load_rowG (by kernel_rfl) 33 (.tmp 2) rfl w.heap.size rfl 33 B.C (0, 0) _ (by repeat (first | with_reducible exact X3b.out | with_reducible exact blk_new rfl | refine blk_setOther (by simp <;> omega) ?_ | refine blk_under ?_)) Tryz.underlying33 rfl HS.out ?_))
   refine (active_any B HB.out a.ac a.dy _ (HW.out.below (B3.out.trans belT))).mono ?_
   rintro e w4 ⟨rfl, hb⟩
   rw [HA.out]
   have X4 := hide (blk_below hb (by omega) X3.out)
   have q4B : Below w3.heap.size w3 w4 := qB hb
   have q4z := hb.size
   try simp at q4z
   have q4t : w3.heap.size ≤ w4.heap.size := (by omega)
   obtain ⟨q4s0, q4n0_0, q4n0_1, q4n0_2⟩ := kB w4.heap.size (w.heap.size + 1)
   obtain ⟨q4c0_0, q4c0_1, q4c0_2, q4c0_3, q4c0_4, q4c0_5, q4c0_6, q4f0⟩ := kC7 hb (w.heap.size + 1)
   simp [go_sem, *] at q4c0_0 q4c0_1 q4c0_2 q4c0_3 q4c0_4 q4c0_5 q4c0_6 q4f0
   obtain ⟨q4s1, q4n1_0, q4n1_1, q4n1_2⟩ := kB w4.heap.size (w.heap.size + 2)
   obtain ⟨q4c1_0, q4c1_1, q4c1_2, q4c1_3, q4c1_4, q4c1_5, q4c1_6, q4f1⟩ := kC7 hb (w.heap.size + 2)
   simp [go_sem, *] at q4c1_0 q4c1_1 q4c1_2 q4c1_3 q4c1_4 q4c1_5 q4c1_6 q4f1
   obtain ⟨q4s2, q4n2_0, q4n2_1, q4n2_2⟩ := kB w4.heap.size (w.heap.size + 3)
   obtain ⟨q4c2_0, q4c2_1, q4c2_2, q4c2_3, q4c2_4, q4c2_5, q4c2_6, q4f2⟩ := kC7 hb (w.heap.size + 3)
   simp [go_sem, *] at q4c2_0 q4c2_1 q4c2_2 q4c2_3 q4c2_4 q4c2_5 q4c2_6 q4f2
   have q4o := belO q4B
   clear hb q3o q3f2 q3c2_6 q3c2_5 q3c2_4 q3c2_3 q3c2_2 q3c2_1 q3c2_0 q3s2 q3f1 q3c1_6 q3c1_5 q3c1_4 q3c1_3 q3c1_2 q3c1_1 q3c1_0 q3s1 q3f0 q3c0_6 q3c0_5 q3c0_4 q3c0_3 q3c0_2 q3c0_1 q3c0_0 q3s0 q3z q3B
   have B4 := hide (B3.out.trans (q4B.mono (by omega)))
   go_wp2_with fail
   refine bodyPost_ret (by simp [results, Tryz.results48, go_sem, *] <;> rfl) rfl ?_
   refine linRet_nil HV.out (by with_reducible rfl) (B4.out.trans ?_)
   (repeat (first | (with_reducible first | exact Below.refl _ _ | assumption | refine Below.drew ?_) | ((with_reducible first | refine Below.alloc ?_ ?_ _ | refine Below.setCell ?_ ?_ _); rotate_left; (first | omega | (simp <;> omega)))))
  | true =>
   have HA := hide hac
   obtain ⟨s, hsd⟩ : ∃ s, s = sideP (B.P k) a.bl := ⟨_, rfl⟩
   have HT := hide (show s.tn ≤ 1000000 from by rw [hsd]; unfold sideP; split; exact (HB.out.db k HK.out).tn; exact (HB.out.cr k HK.out).tn)
   obtain ⟨L, hL⟩ : ∃ L, L = slices s.tn s.f s.g s.mg a.bl (rate s.tn s.f s.g a.bl) := ⟨_, rfl⟩
   have HG := hide (slices_sl (x := s) HBI.out)
   rw [← hL] at HG
   have HSL := hide (fun A c W hr => by have t := tslices_new A s.tn c s.f s.g s.mg a.bl HBI.out.1 HBI.out.2 (by have := HT.out; omega) W hr; rw [← hL] at t; exact t)
   have HSD := hide (fun W h1 h2 => by have t := side_any (B.P k).C (B.P k) (HB.out.cells k HK.out) (HB.out.cr k HK.out).tn (HB.out.db k HK.out).tn a.bl W h1 h2; rw [← hsd] at t; exact t)
   obtain ⟨t, ht⟩ : ∃ t, t = wgt s.ba a.dy := ⟨_, rfl⟩
   have HWG := hide (fun W => by have h := weight_any s.ba a.dy W; rw [← ht] at h; exact h)
   have HV := hide (show oneS B a.ac a.dy a.bl = L from by rw [oneS_on hac hp, ← hsd, hL]; rfl)
   have HV2 := hide (fun h : L ≠ [] => show oneW B a.ac a.dy a.bl = t from by rw [oneW_on (by rw [HV.out]; exact h) hp, ← hsd, ht])
   have HV3 := hide (fun h : L = [] => show oneW B a.ac a.dy a.bl = 0 from oneW_nil (by rw [HV.out]; exact h))
   clear hL ht hsd hac hp
   by_cases hl : L = []
   ·have HL0 := hide hl
    have hlen : ((L.length : Nat) : Int) = 0 := by rw [hl]; rfl
    clear hl
    go_enter Tryz.func48, Tryz.ntmps48
    go_wp2_with fail
    refine (wsub_any a.cr a.db HO.out.1 HO.out.2.1 _).mono ?_
    rintro e w1 ⟨rfl, hb⟩
    rw [HF.out]
    have X1 := hide (blk_below (k := w.heap.size) (x := .cells B.C 33 (0, 0)) hb (by simp; omega) (by repeat (first | with_reducible exact (blk_new rfl) | with_reducible exact blk_new rfl | refine blk_setOther (by simp <;> omega) ?_ | refine blk_under ?_)))
    have q1B : Below w.heap.size w w1 := qB hb
    have q1z := hb.size
    try simp at q1z
    have q1t : w.heap.size ≤ w1.heap.size := (by omega)
    obtain ⟨q1s0, q1n0_0, q1n0_1, q1n0_2⟩ := kB w1.heap.size (w.heap.size + 1)
    obtain ⟨q1c0_0, q1c0_1, q1c0_2, q1c0_3, q1c0_4, q1c0_5, q1c0_6, q1f0⟩ := kC7 hb (w.heap.size + 1)
    simp [go_sem, *] at q1c0_0 q1c0_1 q1c0_2 q1c0_3 q1c0_4 q1c0_5 q1c0_6 q1f0
    obtain ⟨q1s1, q1n1_0, q1n1_1, q1n1_2⟩ := kB w1.heap.size (w.heap.size + 2)
    obtain ⟨q1c1_0, q1c1_1, q1c1_2, q1c1_3, q1c1_4, q1c1_5, q1c1_6, q1f1⟩ := kC7 hb (w.heap.size + 2)
    simp [go_sem, *] at q1c1_0 q1c1_1 q1c1_2 q1c1_3 q1c1_4 q1c1_5 q1c1_6 q1f1
    obtain ⟨q1s2, q1n2_0, q1n2_1, q1n2_2⟩ := kB w1.heap.size (w.heap.size + 3)
    obtain ⟨q1c2_0, q1c2_1, q1c2_2, q1c2_3, q1c2_4, q1c2_5, q1c2_6, q1f2⟩ := kC7 hb (w.heap.size + 3)
    simp [go_sem, *] at q1c2_0 q1c2_1 q1c2_2 q1c2_3 q1c2_4 q1c2_5 q1c2_6 q1f2
    have q1o := belO q1B
    clear hb
    have B1 := hide q1B
    go_wp2_with (with_reducible refine wpList_load_row rfl 33 (.tmp 2) rfl w.heap.size rfl 33 B.C (0, 0) _ (by repeat (first | with_reducible exact X1.out | with_reducible exact blk_new rfl | refine blk_setOther (by simp <;> omega) ?_ | refine blk_under ?_)) Tryz.underlying33 rfl HS.out ?_)
    refine (product_any B HB.out a.ac a.dy _ (HW.out.below (B1.out.trans belT))).mono ?_
    rintro e w2 ⟨C, b, rfl, hs, h1, ho, hb⟩
    rw [HP.out] at ho
    simp only at ho
    obtain ⟨rfl, rfl⟩ := ho
    have HH := hide (And.intro hs h1)
    clear hs h1
    have B2 := hide (B1.out.trans (Below.trans (by (repeat (first | (with_reducible first | exact Below.refl _ _ | assumption | refine Below.drew ?_) | ((with_reducible first | refine Below.alloc ?_ ?_ _ | refine Below.setCell ?_ ?_ _); rotate_left; (first | omega | (simp <;> omega))))) : Below w.heap.size w1 ((w1.setCell ⟨w.heap.size + 3, 5, none⟩ (.int .i64 (hiW (a.cr - a.db)))).setCell ⟨w.heap.size + 3, 6, none⟩ (.int .u64 (loW (a.cr - a.db))))) (hb.mono (by simp; omega))))
    have X2 := hide (blk_below (k := w.heap.size) (x := .cells B.C 33 (0, 0)) hb (by simp; omega) (by repeat (first | with_reducible exact X1.out | with_reducible exact blk_new rfl | refine blk_setOther (by simp <;> omega) ?_ | refine blk_under ?_)))
    have B1o := B1.out
    have q2B : Below w.heap.size w w2 := qB hb
    have q2z := hb.size
    try simp at q2z
    have q2t : w.heap.size ≤ w2.heap.size := (by omega)
    obtain ⟨q2s0, q2n0_0, q2n0_1, q2n0_2⟩ := kB w2.heap.size (w.heap.size + 1)
    obtain ⟨q2c0_0, q2c0_1, q2c0_2, q2c0_3, q2c0_4, q2c0_5, q2c0_6, q2f0⟩ := kC7 hb (w.heap.size + 1)
    simp [go_sem, *] at q2c0_0 q2c0_1 q2c0_2 q2c0_3 q2c0_4 q2c0_5 q2c0_6 q2f0
    obtain ⟨q2s1, q2n1_0, q2n1_1, q2n1_2⟩ := kB w2.heap.size (w.heap.size + 2)
    obtain ⟨q2c1_0, q2c1_1, q2c1_2, q2c1_3, q2c1_4, q2c1_5, q2c1_6, q2f1⟩ := kC7 hb (w.heap.size + 2)
    simp [go_sem, *] at q2c1_0 q2c1_1 q2c1_2 q2c1_3 q2c1_4 q2c1_5 q2c1_6 q2f1
    obtain ⟨q2s2, q2n2_0, q2n2_1, q2n2_2⟩ := kB w2.heap.size (w.heap.size + 3)
    obtain ⟨q2c2_0, q2c2_1, q2c2_2, q2c2_3, q2c2_4, q2c2_5, q2c2_6, q2f2⟩ := kC7 hb (w.heap.size + 3)
    simp [go_sem, *] at q2c2_0 q2c2_1 q2c2_2 q2c2_3 q2c2_4 q2c2_5 q2c2_6 q2f2
    have q2o := belO q2B
    clear hb q1o q1f2 q1c2_6 q1c2_5 q1c2_4 q1c2_3 q1c2_2 q1c2_1 q1c2_0 q1s2 q1f1 q1c1_6 q1c1_5 q1c1_4 q1c1_3 q1c1_2 q1c1_1 q1c1_0 q1s1 q1f0 q1c0_6 q1c0_5 q1c0_4 q1c0_3 q1c0_2 q1c0_1 q1c0_0 q1s0 q1z q1B
    clear B1o
    go_wp2_with (first
     | (with_reducible refine wpList_alloc_row rfl 78 rfl (some 6) rfl i0 HI.out.1 Z HI.out.2 w2.heap.size rfl ?_)
     | ((with_reducible refine wpList_store_newrow2 rfl 78 (.tmp 6) (.tmp 32) rfl rfl w2.heap.size (B.P k).C rfl rfl 78 Z (blk_new rfl) (pz_size HH.out.1) (by rw [HZ1.out, HH.out.1]) HH.out.2 ?_); intro w3 hb hs3 hx3 hk3; have X3 := hide hx3; have X3b := hide (blk_below (k := w.heap.size) hb (by omega) (blk_under X2.out)); have q3B : Below w2.heap.size w2 w3 := qB hb; have q3z := hb.size; (try simp at q3z); have q3t : w2.heap.size ≤ w3.heap.size := (by omega); have q3s0 : w.heap.size + 1 < w3.heap.size := (by omega); obtain ⟨q3n0_0, q3n0_1, q3n0_2⟩ := kN q3s0; obtain ⟨q3c0_0, q3c0_1, q3c0_2, q3c0_3, q3c0_4, q3c0_5, q3c0_6, q3f0⟩ := kC7 hb (w.heap.size + 1); simp [go_sem, *] at q3c0_0 q3c0_1 q3c0_2 q3c0_3 q3c0_4 q3c0_5 q3c0_6 q3f0; have q3s1 : w.heap.size + 2 < w3.heap.size := (by omega); obtain ⟨q3n1_0, q3n1_1, q3n1_2⟩ := kN q3s1; obtain ⟨q3c1_0, q3c1_1, q3c1_2, q3c1_3, q3c1_4, q3c1_5, q3c1_6, q3f1⟩ := kC7 hb (w.heap.size + 2); simp [go_sem, *] at q3c1_0 q3c1_1 q3c1_2 q3c1_3 q3c1_4 q3c1_5 q3c1_6 q3f1; have q3s2 : w.heap.size + 3 < w3.heap.size := (by omega); obtain ⟨q3n2_0, q3n2_1, q3n2_2⟩ := kN q3s2; obtain ⟨q3c2_0, q3c2_1, q3c2_2, q3c2_3, q3c2_4, q3c2_5, q3c2_6, q3f2⟩ := kC7 hb (w.heap.size + 3); simp [go_sem, *] at q3c2_0 q3c2_1 q3c2_2 q3c2_3 q3c2_4 q3c2_5 q3c2_6 q3f2; have q3o := belO q3B; have hbS := hb; have hbS3 := hb; clear hb; clear hs3 hx3 hk3 hbS hbS3; have B3 := hide (B2.out.trans (q3B.mono (by omega)))) | (with_reducible refine wpList_load_rowG (by kernel_rfl) 33 (.tmp 2) rfl w.heap.size rfl 33 B.C (0, 0) _ (by repeat (first | with_reducible exact X3b.out | with_reducible exact blk_new rfl | refine blk_setOther (by simp <;> omega) ?_ | refine blk_under ?_)) Tryz.underlying33 rfl HS.out ?_))
    refine (active_any B HB.out a.ac a.dy _ (HW.out.below (B3.out.trans belT))).mono ?_
    rintro e w4 ⟨rfl, hb⟩
    rw [HA.out]
    have X4 := hide (blk_below hb (by omega) X3.out)
    have q4B : Below w3.heap.size w3 w4 := qB hb
    have q4z := hb.size
    try simp at q4z
    have q4t : w3.heap.size ≤ w4.heap.size := (by omega)
    obtain ⟨q4s0, q4n0_0, q4n0_1, q4n0_2⟩ := kB w4.heap.size (w.heap.size + 1)
    obtain ⟨q4c0_0, q4c0_1, q4c0_2, q4c0_3, q4c0_4, q4c0_5, q4c0_6, q4f0⟩ := kC7 hb (w.heap.size + 1)
    simp [go_sem, *] at q4c0_0 q4c0_1 q4c0_2 q4c0_3 q4c0_4 q4c0_5 q4c0_6 q4f0
    obtain ⟨q4s1, q4n1_0, q4n1_1, q4n1_2⟩ := kB w4.heap.size (w.heap.size + 2)
    obtain ⟨q4c1_0, q4c1_1, q4c1_2, q4c1_3, q4c1_4, q4c1_5, q4c1_6, q4f1⟩ := kC7 hb (w.heap.size + 2)
    simp [go_sem, *] at q4c1_0 q4c1_1 q4c1_2 q4c1_3 q4c1_4 q4c1_5 q4c1_6 q4f1
    obtain ⟨q4s2, q4n2_0, q4n2_1, q4n2_2⟩ := kB w4.heap.size (w.heap.size + 3)
    obtain ⟨q4c2_0, q4c2_1, q4c2_2, q4c2_3, q4c2_4, q4c2_5, q4c2_6, q4f2⟩ := kC7 hb (w.heap.size + 3)
    simp [go_sem, *] at q4c2_0 q4c2_1 q4c2_2 q4c2_3 q4c2_4 q4c2_5 q4c2_6 q4f2
    have q4o := belO q4B
    clear hb q3o q3f2 q3c2_6 q3c2_5 q3c2_4 q3c2_3 q3c2_2 q3c2_1 q3c2_0 q3s2 q3f1 q3c1_6 q3c1_5 q3c1_4 q3c1_3 q3c1_2 q3c1_1 q3c1_0 q3s1 q3f0 q3c0_6 q3c0_5 q3c0_4 q3c0_3 q3c0_2 q3c0_1 q3c0_0 q3s0 q3z q3B
    have B4 := hide (B3.out.trans (q4B.mono (by omega)))
    go_wp2_with (with_reducible refine wpList_load_row rfl 78 (.tmp 6) rfl w2.heap.size rfl 78 (B.P k).C (0, 0) _ X4.out Tryz.underlying78 rfl (pz_size HH.out.1) ?_)
    refine (HSD.out _ ((bkPr (HW.out.below B4.out) HK.out).cr) ((bkPr (HW.out.below B4.out) HK.out).db)).mono ?_
    rintro e w5 ⟨A, c, rfl, hrow, hb⟩
    have HR := hide hrow
    clear hrow
    have q5B : Below w4.heap.size w4 w5 := qB hb
    have q5z := hb.size
    try simp at q5z
    have q5t : w4.heap.size ≤ w5.heap.size := (by omega)
    obtain ⟨q5s0, q5n0_0, q5n0_1, q5n0_2⟩ := kB w5.heap.size (w.heap.size + 1)
    obtain ⟨q5c0_0, q5c0_1, q5c0_2, q5c0_3, q5c0_4, q5c0_5, q5c0_6, q5f0⟩ := kC7 hb (w.heap.size + 1)
    simp [go_sem, *] at q5c0_0 q5c0_1 q5c0_2 q5c0_3 q5c0_4 q5c0_5 q5c0_6 q5f0
    obtain ⟨q5s1, q5n1_0, q5n1_1, q5n1_2⟩ := kB w5.heap.size (w.heap.size + 2)
    obtain ⟨q5c1_0, q5c1_1, q5c1_2, q5c1_3, q5c1_4, q5c1_5, q5c1_6, q5f1⟩ := kC7 hb (w.heap.size + 2)
    simp [go_sem, *] at q5c1_0 q5c1_1 q5c1_2 q5c1_3 q5c1_4 q5c1_5 q5c1_6 q5f1
    obtain ⟨q5s2, q5n2_0, q5n2_1, q5n2_2⟩ := kB w5.heap.size (w.heap.size + 3)
    obtain ⟨q5c2_0, q5c2_1, q5c2_2, q5c2_3, q5c2_4, q5c2_5, q5c2_6, q5f2⟩ := kC7 hb (w.heap.size + 3)
    simp [go_sem, *] at q5c2_0 q5c2_1 q5c2_2 q5c2_3 q5c2_4 q5c2_5 q5c2_6 q5f2
    have q5o := belO q5B
    clear hb q4o q4f2 q4c2_6 q4c2_5 q4c2_4 q4c2_3 q4c2_2 q4c2_1 q4c2_0 q4s2 q4f1 q4c1_6 q4c1_5 q4c1_4 q4c1_3 q4c1_2 q4c1_1 q4c1_0 q4s1 q4f0 q4c0_6 q4c0_5 q4c0_4 q4c0_3 q4c0_2 q4c0_1 q4c0_0 q4s0 q4z q4B
    have B5 := hide (B4.out.trans (q5B.mono (by omega)))
    go_wp2_with fail
    refine (HSL.out A c _ (HR.out.below belT)).mono ?_
    rintro e w6 ⟨A2, c2, rfl, hrow, hb, hfr⟩
    have HR2 := hide hrow
    have FF := hide hfr
    clear hrow hfr
    have q6B : Below w5.heap.size w5 w6 := qB hb
    have q6z := hb.size
    try simp at q6z
    have q6t : w5.heap.size ≤ w6.heap.size := (by omega)
    obtain ⟨q6s0, q6n0_0, q6n0_1, q6n0_2⟩ := kB w6.heap.size (w.heap.size + 1)
    obtain ⟨q6c0_0, q6c0_1, q6c0_2, q6c0_3, q6c0_4, q6c0_5, q6c0_6, q6f0⟩ := kC7 hb (w.heap.size + 1)
    simp [go_sem, *] at q6c0_0 q6c0_1 q6c0_2 q6c0_3 q6c0_4 q6c0_5 q6c0_6 q6f0
    obtain ⟨q6s1, q6n1_0, q6n1_1, q6n1_2⟩ := kB w6.heap.size (w.heap.size + 2)
    obtain ⟨q6c1_0, q6c1_1, q6c1_2, q6c1_3, q6c1_4, q6c1_5, q6c1_6, q6f1⟩ := kC7 hb (w.heap.size + 2)
    simp [go_sem, *] at q6c1_0 q6c1_1 q6c1_2 q6c1_3 q6c1_4 q6c1_5 q6c1_6 q6f1
    obtain ⟨q6s2, q6n2_0, q6n2_1, q6n2_2⟩ := kB w6.heap.size (w.heap.size + 3)
    obtain ⟨q6c2_0, q6c2_1, q6c2_2, q6c2_3, q6c2_4, q6c2_5, q6c2_6, q6f2⟩ := kC7 hb (w.heap.size + 3)
    simp [go_sem, *] at q6c2_0 q6c2_1 q6c2_2 q6c2_3 q6c2_4 q6c2_5 q6c2_6 q6f2
    obtain ⟨q6s3, q6n3_0, q6n3_1, q6n3_2⟩ := kB w6.heap.size w5.heap.size
    obtain ⟨q6c3_0, q6c3_1, q6c3_2, q6c3_3, q6c3_4, q6f3⟩ := kC5 hb w5.heap.size
    simp [go_sem, *] at q6c3_0 q6c3_1 q6c3_2 q6c3_3 q6c3_4 q6f3
    have q6o := belO q6B
    clear hb q5o q5f2 q5c2_6 q5c2_5 q5c2_4 q5c2_3 q5c2_2 q5c2_1 q5c2_0 q5s2 q5f1 q5c1_6 q5c1_5 q5c1_4 q5c1_3 q5c1_2 q5c1_1 q5c1_0 q5s1 q5f0 q5c0_6 q5c0_5 q5c0_4 q5c0_3 q5c0_2 q5c0_1 q5c0_0 q5s0 q5z q5B
    have B6 := hide (B5.out.trans (q6B.mono (by omega)))
    go_wp2_with fail
    refine bodyPost_ret (by simp [results, Tryz.results48, go_sem, *] <;> rfl) rfl ?_
    refine linRet_on HV.out (HV3.out HL0.out) (by with_reducible rfl) (by repeat (first | with_reducible exact HR2.out | refine Row2.set ?_ FF.out (by simp <;> omega))) (fun h b off e => Nat.le_trans (by simp <;> omega) (FF.out h b off e)) (B6.out.trans ?_)
    (repeat (first | (with_reducible first | exact Below.refl _ _ | assumption | refine Below.drew ?_) | ((with_reducible first | refine Below.alloc ?_ ?_ _ | refine Below.setCell ?_ ?_ _); rotate_left; (first | omega | (simp <;> omega)))))
   ·have HL0 := hide hl
    have hlen : (0 : Int) < (L.length : Nat) := by have := List.length_pos_iff.2 hl; omega
    clear hl
    go_enter Tryz.func48, Tryz.ntmps48
    go_wp2_with fail
    refine (wsub_any a.cr a.db HO.out.1 HO.out.2.1 _).mono ?_
    rintro e w1 ⟨rfl, hb⟩
    rw [HF.out]
    have X1 := hide (blk_below (k := w.heap.size) (x := .cells B.C 33 (0, 0)) hb (by simp; omega) (by repeat (first | with_reducible exact (blk_new rfl) | with_reducible exact blk_new rfl | refine blk_setOther (by simp <;> omega) ?_ | refine blk_under ?_)))
    have q1B : Below w.heap.size w w1 := qB hb
    have q1z := hb.size
    try simp at q1z
    have q1t : w.heap.size ≤ w1.heap.size := (by omega)
    obtain ⟨q1s0, q1n0_0, q1n0_1, q1n0_2⟩ := kB w1.heap.size (w.heap.size + 1)
    obtain ⟨q1c0_0, q1c0_1, q1c0_2, q1c0_3, q1c0_4, q1c0_5, q1c0_6, q1f0⟩ := kC7 hb (w.heap.size + 1)
    simp [go_sem, *] at q1c0_0 q1c0_1 q1c0_2 q1c0_3 q1c0_4 q1c0_5 q1c0_6 q1f0
    obtain ⟨q1s1, q1n1_0, q1n1_1, q1n1_2⟩ := kB w1.heap.size (w.heap.size + 2)
    obtain ⟨q1c1_0, q1c1_1, q1c1_2, q1c1_3, q1c1_4, q1c1_5, q1c1_6, q1f1⟩ := kC7 hb (w.heap.size + 2)
    simp [go_sem, *] at q1c1_0 q1c1_1 q1c1_2 q1c1_3 q1c1_4 q1c1_5 q1c1_6 q1f1
    obtain ⟨q1s2, q1n2_0, q1n2_1, q1n2_2⟩ := kB w1.heap.size (w.heap.size + 3)
    obtain ⟨q1c2_0, q1c2_1, q1c2_2, q1c2_3, q1c2_4, q1c2_5, q1c2_6, q1f2⟩ := kC7 hb (w.heap.size + 3)
    simp [go_sem, *] at q1c2_0 q1c2_1 q1c2_2 q1c2_3 q1c2_4 q1c2_5 q1c2_6 q1f2
    have q1o := belO q1B
    clear hb
    have B1 := hide q1B
    go_wp2_with (with_reducible refine wpList_load_row rfl 33 (.tmp 2) rfl w.heap.size rfl 33 B.C (0, 0) _ (by repeat (first | with_reducible exact X1.out | with_reducible exact blk_new rfl | refine blk_setOther (by simp <;> omega) ?_ | refine blk_under ?_)) Tryz.underlying33 rfl HS.out ?_)
    refine (product_any B HB.out a.ac a.dy _ (HW.out.below (B1.out.trans belT))).mono ?_
    rintro e w2 ⟨C, b, rfl, hs, h1, ho, hb⟩
    rw [HP.out] at ho
    simp only at ho
    obtain ⟨rfl, rfl⟩ := ho
    have HH := hide (And.intro hs h1)
    clear hs h1
    have B2 := hide (B1.out.trans (Below.trans (by (repeat (first | (with_reducible first | exact Below.refl _ _ | assumption | refine Below.drew ?_) | ((with_reducible first | refine Below.alloc ?_ ?_ _ | refine Below.setCell ?_ ?_ _); rotate_left; (first | omega | (simp <;> omega))))) : Below w.heap.size w1 ((w1.setCell ⟨w.heap.size + 3, 5, none⟩ (.int .i64 (hiW (a.cr - a.db)))).setCell ⟨w.heap.size + 3, 6, none⟩ (.int .u64 (loW (a.cr - a.db))))) (hb.mono (by simp; omega))))
    have X2 := hide (blk_below (k := w.heap.size) (x := .cells B.C 33 (0, 0)) hb (by simp; omega) (by repeat (first | with_reducible exact X1.out | with_reducible exact blk_new rfl | refine blk_setOther (by simp <;> omega) ?_ | refine blk_under ?_)))
    have B1o := B1.out
    have q2B : Below w.heap.size w w2 := qB hb
    have q2z := hb.size
    try simp at q2z
    have q2t : w.heap.size ≤ w2.heap.size := (by omega)
    obtain ⟨q2s0, q2n0_0, q2n0_1, q2n0_2⟩ := kB w2.heap.size (w.heap.size + 1)
    obtain ⟨q2c0_0, q2c0_1, q2c0_2, q2c0_3, q2c0_4, q2c0_5, q2c0_6, q2f0⟩ := kC7 hb (w.heap.size + 1)
    simp [go_sem, *] at q2c0_0 q2c0_1 q2c0_2 q2c0_3 q2c0_4 q2c0_5 q2c0_6 q2f0
    obtain ⟨q2s1, q2n1_0, q2n1_1, q2n1_2⟩ := kB w2.heap.size (w.heap.size + 2)
    obtain ⟨q2c1_0, q2c1_1, q2c1_2, q2c1_3, q2c1_4, q2c1_5, q2c1_6, q2f1⟩ := kC7 hb (w.heap.size + 2)
    simp [go_sem, *] at q2c1_0 q2c1_1 q2c1_2 q2c1_3 q2c1_4 q2c1_5 q2c1_6 q2f1
    obtain ⟨q2s2, q2n2_0, q2n2_1, q2n2_2⟩ := kB w2.heap.size (w.heap.size + 3)
    obtain ⟨q2c2_0, q2c2_1, q2c2_2, q2c2_3, q2c2_4, q2c2_5, q2c2_6, q2f2⟩ := kC7 hb (w.heap.size + 3)
    simp [go_sem, *] at q2c2_0 q2c2_1 q2c2_2 q2c2_3 q2c2_4 q2c2_5 q2c2_6 q2f2
    have q2o := belO q2B
    clear hb q1o q1f2 q1c2_6 q1c2_5 q1c2_4 q1c2_3 q1c2_2 q1c2_1 q1c2_0 q1s2 q1f1 q1c1_6 q1c1_5 q1c1_4 q1c1_3 q1c1_2 q1c1_1 q1c1_0 q1s1 q1f0 q1c0_6 q1c0_5 q1c0_4 q1c0_3 q1c0_2 q1c0_1 q1c0_0 q1s0 q1z q1B
    clear B1o
    go_wp2_with (first
     | (with_reducible refine wpList_alloc_row rfl 78 rfl (some 6) rfl i0 HI.out.1 Z HI.out.2 w2.heap.size rfl ?_)
     | ((with_reducible refine wpList_store_newrow2 rfl 78 (.tmp 6) (.tmp 32) rfl rfl w2.heap.size (B.P k).C rfl rfl 78 Z (blk_new rfl) (pz_size HH.out.1) (by rw [HZ1.out, HH.out.1]) HH.out.2 ?_); intro w3 hb hs3 hx3 hk3; have X3 := hide hx3; have X3b := hide (blk_below (k := w.heap.size) hb (by omega) (blk_under X2.out)); have q3B : Below w2.heap.size w2 w3 := qB hb; have q3z := hb.size; (try simp at q3z); have q3t : w2.heap.size ≤ w3.heap.size := (by omega); have q3s0 : w.heap.size + 1 < w3.heap.size := (by omega); obtain ⟨q3n0_0, q3n0_1, q3n0_2⟩ := kN q3s0; obtain ⟨q3c0_0, q3c0_1, q3c0_2, q3c0_3, q3c0_4, q3c0_5, q3c0_6, q3f0⟩ := kC7 hb (w.heap.size + 1); simp [go_sem, *] at q3c0_0 q3c0_1 q3c0_2 q3c0_3 q3c0_4 q3c0_5 q3c0_6 q3f0; have q3s1 : w.heap.size + 2 < w3.heap.size := (by omega); obtain ⟨q3n1_0, q3n1_1, q3n1_2⟩ := kN q3s1; obtain ⟨q3c1_0, q3c1_1, q3c1_2, q3c1_3, q3c1_4, q3c1_5, q3c1_6, q3f1⟩ := kC7 hb (w.heap.size + 2); simp [go_sem, *] at q3c1_0 q3c1_1 q3c1_2 q3c1_3 q3c1_4 q3c1_5 q3c1_6 q3f1; have q3s2 : w.heap.size + 3 < w3.heap.size := (by omega); obtain ⟨q3n2_0, q3n2_1, q3n2_2⟩ := kN q3s2; obtain ⟨q3c2_0, q3c2_1, q3c2_2, q3c2_3, q3c2_4, q3c2_5, q3c2_6, q3f2⟩ := kC7 hb (w.heap.size + 3); simp [go_sem, *] at q3c2_0 q3c2_1 q3c2_2 q3c2_3 q3c2_4 q3c2_5 q3c2_6 q3f2; have q3o := belO q3B; have hbS := hb; have hbS3 := hb; clear hb; clear hs3 hx3 hk3 hbS hbS3; have B3 := hide (B2.out.trans (q3B.mono (by omega)))) | (with_reducible refine wpList_load_rowG (by kernel_rfl) 33 (.tmp 2) rfl w.heap.size rfl 33 B.C (0, 0) _ (by repeat (first | with_reducible exact X3b.out | with_reducible exact blk_new rfl | refine blk_setOther (by simp <;> omega) ?_ | refine blk_under ?_)) Tryz.underlying33 rfl HS.out ?_))
    refine (active_any B HB.out a.ac a.dy _ (HW.out.below (B3.out.trans belT))).mono ?_
    rintro e w4 ⟨rfl, hb⟩
    rw [HA.out]
    have X4 := hide (blk_below hb (by omega) X3.out)
    have q4B : Below w3.heap.size w3 w4 := qB hb
    have q4z := hb.size
    try simp at q4z
    have q4t : w3.heap.size ≤ w4.heap.size := (by omega)
    obtain ⟨q4s0, q4n0_0, q4n0_1, q4n0_2⟩ := kB w4.heap.size (w.heap.size + 1)
    obtain ⟨q4c0_0, q4c0_1, q4c0_2, q4c0_3, q4c0_4, q4c0_5, q4c0_6, q4f0⟩ := kC7 hb (w.heap.size + 1)
    simp [go_sem, *] at q4c0_0 q4c0_1 q4c0_2 q4c0_3 q4c0_4 q4c0_5 q4c0_6 q4f0
    obtain ⟨q4s1, q4n1_0, q4n1_1, q4n1_2⟩ := kB w4.heap.size (w.heap.size + 2)
    obtain ⟨q4c1_0, q4c1_1, q4c1_2, q4c1_3, q4c1_4, q4c1_5, q4c1_6, q4f1⟩ := kC7 hb (w.heap.size + 2)
    simp [go_sem, *] at q4c1_0 q4c1_1 q4c1_2 q4c1_3 q4c1_4 q4c1_5 q4c1_6 q4f1
    obtain ⟨q4s2, q4n2_0, q4n2_1, q4n2_2⟩ := kB w4.heap.size (w.heap.size + 3)
    obtain ⟨q4c2_0, q4c2_1, q4c2_2, q4c2_3, q4c2_4, q4c2_5, q4c2_6, q4f2⟩ := kC7 hb (w.heap.size + 3)
    simp [go_sem, *] at q4c2_0 q4c2_1 q4c2_2 q4c2_3 q4c2_4 q4c2_5 q4c2_6 q4f2
    have q4o := belO q4B
    clear hb q3o q3f2 q3c2_6 q3c2_5 q3c2_4 q3c2_3 q3c2_2 q3c2_1 q3c2_0 q3s2 q3f1 q3c1_6 q3c1_5 q3c1_4 q3c1_3 q3c1_2 q3c1_1 q3c1_0 q3s1 q3f0 q3c0_6 q3c0_5 q3c0_4 q3c0_3 q3c0_2 q3c0_1 q3c0_0 q3s0 q3z q3B
    have B4 := hide (B3.out.trans (q4B.mono (by omega)))
    go_wp2_with (with_reducible refine wpList_load_row rfl 78 (.tmp 6) rfl w2.heap.size rfl 78 (B.P k).C (0, 0) _ X4.out Tryz.underlying78 rfl (pz_size HH.out.1) ?_)
    refine (HSD.out _ ((bkPr (HW.out.below B4.out) HK.out).cr) ((bkPr (HW.out.below B4.out) HK.out).db)).mono ?_
    rintro e w5 ⟨A, c, rfl, hrow, hb⟩
    have HR := hide hrow
    clear hrow
    have q5B : Below w4.heap.size w4 w5 := qB hb
    have q5z := hb.size
    try simp at q5z
    have q5t : w4.heap.size ≤ w5.heap.size := (by omega)
    obtain ⟨q5s0, q5n0_0, q5n0_1, q5n0_2⟩ := kB w5.heap.size (w.heap.size + 1)
    obtain ⟨q5c0_0, q5c0_1, q5c0_2, q5c0_3, q5c0_4, q5c0_5, q5c0_6, q5f0⟩ := kC7 hb (w.heap.size + 1)
    simp [go_sem, *] at q5c0_0 q5c0_1 q5c0_2 q5c0_3 q5c0_4 q5c0_5 q5c0_6 q5f0
    obtain ⟨q5s1, q5n1_0, q5n1_1, q5n1_2⟩ := kB w5.heap.size (w.heap.size + 2)
    obtain ⟨q5c1_0, q5c1_1, q5c1_2, q5c1_3, q5c1_4, q5c1_5, q5c1_6, q5f1⟩ := kC7 hb (w.heap.size + 2)
    simp [go_sem, *] at q5c1_0 q5c1_1 q5c1_2 q5c1_3 q5c1_4 q5c1_5 q5c1_6 q5f1
    obtain ⟨q5s2, q5n2_0, q5n2_1, q5n2_2⟩ := kB w5.heap.size (w.heap.size + 3)
    obtain ⟨q5c2_0, q5c2_1, q5c2_2, q5c2_3, q5c2_4, q5c2_5, q5c2_6, q5f2⟩ := kC7 hb (w.heap.size + 3)
    simp [go_sem, *] at q5c2_0 q5c2_1 q5c2_2 q5c2_3 q5c2_4 q5c2_5 q5c2_6 q5f2
    have q5o := belO q5B
    clear hb q4o q4f2 q4c2_6 q4c2_5 q4c2_4 q4c2_3 q4c2_2 q4c2_1 q4c2_0 q4s2 q4f1 q4c1_6 q4c1_5 q4c1_4 q4c1_3 q4c1_2 q4c1_1 q4c1_0 q4s1 q4f0 q4c0_6 q4c0_5 q4c0_4 q4c0_3 q4c0_2 q4c0_1 q4c0_0 q4s0 q4z q4B
    have B5 := hide (B4.out.trans (q5B.mono (by omega)))
    go_wp2_with fail
    refine (HSL.out A c _ (HR.out.below belT)).mono ?_
    rintro e w6 ⟨A2, c2, rfl, hrow, hb, hfr⟩
    have HR2 := hide hrow
    have FF := hide hfr
    clear hrow hfr
    have q6B : Below w5.heap.size w5 w6 := qB hb
    have q6z := hb.size
    try simp at q6z
    have q6t : w5.heap.size ≤ w6.heap.size := (by omega)
    obtain ⟨q6s0, q6n0_0, q6n0_1, q6n0_2⟩ := kB w6.heap.size (w.heap.size + 1)
    obtain ⟨q6c0_0, q6c0_1, q6c0_2, q6c0_3, q6c0_4, q6c0_5, q6c0_6, q6f0⟩ := kC7 hb (w.heap.size + 1)
    simp [go_sem, *] at q6c0_0 q6c0_1 q6c0_2 q6c0_3 q6c0_4 q6c0_5 q6c0_6 q6f0
    obtain ⟨q6s1, q6n1_0, q6n1_1, q6n1_2⟩ := kB w6.heap.size (w.heap.size + 2)
    obtain ⟨q6c1_0, q6c1_1, q6c1_2, q6c1_3, q6c1_4, q6c1_5, q6c1_6, q6f1⟩ := kC7 hb (w.heap.size + 2)
    simp [go_sem, *] at q6c1_0 q6c1_1 q6c1_2 q6c1_3 q6c1_4 q6c1_5 q6c1_6 q6f1
    obtain ⟨q6s2, q6n2_0, q6n2_1, q6n2_2⟩ := kB w6.heap.size (w.heap.size + 3)
    obtain ⟨q6c2_0, q6c2_1, q6c2_2, q6c2_3, q6c2_4, q6c2_5, q6c2_6, q6f2⟩ := kC7 hb (w.heap.size + 3)
    simp [go_sem, *] at q6c2_0 q6c2_1 q6c2_2 q6c2_3 q6c2_4 q6c2_5 q6c2_6 q6f2
    obtain ⟨q6s3, q6n3_0, q6n3_1, q6n3_2⟩ := kB w6.heap.size w5.heap.size
    obtain ⟨q6c3_0, q6c3_1, q6c3_2, q6c3_3, q6c3_4, q6f3⟩ := kC5 hb w5.heap.size
    simp [go_sem, *] at q6c3_0 q6c3_1 q6c3_2 q6c3_3 q6c3_4 q6f3
    have q6o := belO q6B
    clear hb q5o q5f2 q5c2_6 q5c2_5 q5c2_4 q5c2_3 q5c2_2 q5c2_1 q5c2_0 q5s2 q5f1 q5c1_6 q5c1_5 q5c1_4 q5c1_3 q5c1_2 q5c1_1 q5c1_0 q5s1 q5f0 q5c0_6 q5c0_5 q5c0_4 q5c0_3 q5c0_2 q5c0_1 q5c0_0 q5s0 q5z q5B
    have B6 := hide (B5.out.trans (q6B.mono (by omega)))
    go_wp2_with fail
    refine (HWG.out _).mono ?_
    rintro e w7 ⟨rfl, hb⟩
    have HR3 := hide ((Row2.set HR2.out FF.out (by simp <;> omega)).below hb)
    have B6o := B6.out
    have q7B : Below w.heap.size w w7 := qB hb
    have q7z := hb.size
    try simp at q7z
    have q7t : w.heap.size ≤ w7.heap.size := (by omega)
    obtain ⟨q7s0, q7n0_0, q7n0_1, q7n0_2⟩ := kB w7.heap.size (w.heap.size + 1)
    obtain ⟨q7c0_0, q7c0_1, q7c0_2, q7c0_3, q7c0_4, q7c0_5, q7c0_6, q7f0⟩ := kC7 hb (w.heap.size + 1)
    simp [go_sem, *] at q7c0_0 q7c0_1 q7c0_2 q7c0_3 q7c0_4 q7c0_5 q7c0_6 q7f0
    obtain ⟨q7s1, q7n1_0, q7n1_1, q7n1_2⟩ := kB w7.heap.size (w.heap.size + 2)
    obtain ⟨q7c1_0, q7c1_1, q7c1_2, q7c1_3, q7c1_4, q7c1_5, q7c1_6, q7f1⟩ := kC7 hb (w.heap.size + 2)
    simp [go_sem, *] at q7c1_0 q7c1_1 q7c1_2 q7c1_3 q7c1_4 q7c1_5 q7c1_6 q7f1
    obtain ⟨q7s2, q7n2_0, q7n2_1, q7n2_2⟩ := kB w7.heap.size (w.heap.size + 3)
    obtain ⟨q7c2_0, q7c2_1, q7c2_2, q7c2_3, q7c2_4, q7c2_5, q7c2_6, q7f2⟩ := kC7 hb (w.heap.size + 3)
    simp [go_sem, *] at q7c2_0 q7c2_1 q7c2_2 q7c2_3 q7c2_4 q7c2_5 q7c2_6 q7f2
    obtain ⟨q7s3, q7n3_0, q7n3_1, q7n3_2⟩ := kB w7.heap.size w5.heap.size
    obtain ⟨q7c3_0, q7c3_1, q7c3_2, q7c3_3, q7c3_4, q7f3⟩ := kC5 hb w5.heap.size
    simp [go_sem, *] at q7c3_0 q7c3_1 q7c3_2 q7c3_3 q7c3_4 q7f3
    have q7o := belO q7B
    clear hb q6o q6f3 q6c3_4 q6c3_3 q6c3_2 q6c3_1 q6c3_0 q6s3 q6f2 q6c2_6 q6c2_5 q6c2_4 q6c2_3 q6c2_2 q6c2_1 q6c2_0 q6s2 q6f1 q6c1_6 q6c1_5 q6c1_4 q6c1_3 q6c1_2 q6c1_1 q6c1_0 q6s1 q6f0 q6c0_6 q6c0_5 q6c0_4 q6c0_3 q6c0_2 q6c0_1 q6c0_0 q6s0 q6z q6B
    clear B6o
    have B7 := hide q7B
    go_wp2_with fail
    refine bodyPost_ret (by simp [results, Tryz.results48, go_sem, *] <;> rfl) rfl ?_
    refine linRet_on HV.out (HV2.out HL0.out) (by with_reducible rfl) (by repeat (first | with_reducible exact HR3.out | refine Row2.set ?_ FF.out (by simp <;> omega))) (fun h b off e => Nat.le_trans (by simp <;> omega) (FF.out h b off e)) (B7.out.trans ?_)
    (repeat (first | (with_reducible first | exact Below.refl _ _ | assumption | refine Below.drew ?_) | ((with_reducible first | refine Below.alloc ?_ ?_ _ | refine Below.setCell ?_ ?_ _); rotate_left; (first | omega | (simp <;> omega)))))
end Go.Proofs.YtdjlaiilngechaaGreatDoor
