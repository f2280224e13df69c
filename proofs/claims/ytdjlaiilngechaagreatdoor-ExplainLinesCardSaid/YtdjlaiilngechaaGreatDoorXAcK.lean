/- Texts laid together: AcK AcU. -/
import Derived.Test.YtdjlaiilngechaaGreatDoorXAcJ
import Derived.Test.YtdjlaiilngechaaGreatDoorXK0
namespace Go.Proofs.YtdjlaiilngechaaGreatDoor
set_option maxRecDepth 4000
set_option linter.unusedSimpArgs false
set_option linter.unusedVariables false
open Go.RowKit
theorem daily_any (C : Array Value) (id : Int) (w : World) : Calls Tryz.prog 44 #[.agg C, .int .i64 id] w fun e w' => e = .returned (.func (.func 78) #[] #[.pointer (some ⟨w.heap.size + 1, 0, none⟩), .pointer (some ⟨w.heap.size, 0, none⟩)]) ∧ w' = (w.alloc (.cells C 33)).alloc (.cells #[.int .i64 id] 3) := by
 go_enter Tryz.func44, Tryz.ntmps44
 go_wp2_with fail
 go_ret
 exact ⟨rfl, rfl⟩
def DayRet (B : LBk) (id day : Int) (w : World) (e : Ending) (w' : World) : Prop := e = .returned (.tuple #[AcrV (dayV B id day), .int .i64 (dayE B id day)]) ∧ Below w.heap.size w w'
theorem day_no {B : LBk} {id : Int} (day : Int) (h : hasB B id = false) : dayE B id day = 11 ∧ dayV B id day = zAcr := by
 have h1 : dayE B id day = 11 := if_pos h
 exact ⟨h1, by unfold dayV; rw [h1]; rfl⟩
theorem day_bad {B : LBk} {id day : Int} (h : hasB B id = true) (hv : vday day = false) : dayE B id day = 1 ∧ dayV B id day = zAcr := by
 have h1 : dayE B id day = 1 := by unfold dayE; rw [if_neg (by rw [h]; decide), if_pos hv]
 exact ⟨h1, by unfold dayV; rw [h1]; rfl⟩
theorem day_ok {B : LBk} {id day : Int} (h : hasB B id = true) (hv : vday day = true) : dayE B id day = 0 ∧ dayV B id day = acr B id day := by
 have h1 : dayE B id day = 0 := by unfold dayE; rw [if_neg (by rw [h]; decide), if_neg (by rw [hv]; decide)]
 exact ⟨h1, by unfold dayV; rw [if_pos h1]⟩
theorem dayRet_of {B : LBk} {id day E : Int} {V : LAcr} {w w' : World} {e : Ending} (h : dayE B id day = E ∧ dayV B id day = V) (he : e = .returned (.tuple #[AcrV V, .int .i64 E])) (hb : Below w.heap.size w w') : DayRet B id day w e w' := by
 unfold DayRet
 rw [h.1, h.2]
 exact ⟨he, hb⟩
theorem zAcrV : AcrV zAcr = .agg #[.int .i64 0, .int .i64 0, .int .i64 0, .int .i64 0, .int .u64 0, .int .i64 0, .int .u64 0] := rfl
end Go.Proofs.YtdjlaiilngechaaGreatDoor
namespace Go.Proofs.YtdjlaiilngechaaGreatDoor
set_option maxRecDepth 4000
set_option linter.unusedSimpArgs false
set_option linter.unusedVariables false
open Go.RowKit
theorem acrL_snoc (l : List LAcr) (e : LAcr) : (l ++ [e]).flatMap acrL = l.flatMap acrL ++ acrL e := by simp
theorem acr_info : (Tryz.prog.info? 61).map (fun i => (i.zero, i.size, i.bytes)) = some (some (.agg #[.int .i64 0, .int .i64 0, .int .i64 0, .int .i64 0, .int .u64 0, .int .i64 0, .int .u64 0]), 7, 56) := by kernel_rfl
theorem news_new {w : World} {g : Nat} {cs : Array Value} {e : TypeId} (hg : g = w.heap.size) (j : Nat) (u : Value) (hu : cs.toList[j]? = some u) : (w.alloc (.cells cs e)).cell? ((⟨g, 0, none⟩ : Addr).add j) = some u := by
 subst hg
 exact news_cells (Go.Deep.blk_alloc_new _ _) j u hu
def SerRet (B : LBk) (id f t : Int) (w : World) (e : Ending) (w' : World) : Prop :=
 ∃ A c, e = .returned (.tuple #[.slice A (serV B id f t).length c, .int .i64 (serE B id f t)]) ∧ RowAcr w' A (serV B id f t).length (atR (serV B id f t)) ∧ Below w.heap.size w w'
theorem ser_0 {B : LBk} {id : Int} (f t : Int) (h : hasB B id = false) : serE B id f t = 11 := if_pos h
theorem ser_1 {B : LBk} {id f : Int} (t : Int) (h : hasB B id = true) (hf : vday f = false) : serE B id f t = 1 := by unfold serE; rw [if_neg (by rw [h]; decide), if_pos hf]
theorem ser_2 {B : LBk} {id f t : Int} (h : hasB B id = true) (hf : vday f = true) (ht : vday t = false) : serE B id f t = 1 := by unfold serE; rw [if_neg (by rw [h]; decide), if_neg (by rw [hf]; decide), if_pos ht]
theorem ser_3 {B : LBk} {id f t : Int} (h : hasB B id = true) (hf : vday f = true) (ht : vday t = true) (h1 : t < f) : serE B id f t = 1 := by unfold serE; rw [if_neg (by rw [h]; decide), if_neg (by rw [hf]; decide), if_neg (by rw [ht]; decide), if_pos h1]
theorem ser_4 {B : LBk} {id f t : Int} (h : hasB B id = true) (hf : vday f = true) (ht : vday t = true) (h1 : ¬ t < f) (h2 : 4000 ≤ t - f) : serE B id f t = 1 := by unfold serE; rw [if_neg (by rw [h]; decide), if_neg (by rw [hf]; decide), if_neg (by rw [ht]; decide), if_neg h1, if_pos h2]
theorem ser_5 {B : LBk} {id f t : Int} (h : hasB B id = true) (hf : vday f = true) (ht : vday t = true) (h1 : ¬ t < f) (h2 : ¬ 4000 ≤ t - f) : serE B id f t = 0 := by unfold serE; rw [if_neg (by rw [h]; decide), if_neg (by rw [hf]; decide), if_neg (by rw [ht]; decide), if_neg h1, if_neg h2]
theorem ser_no {B : LBk} {id f t E : Int} (h : serE B id f t = E) (hE : E ≠ 0) {w w' : World} (hb : Below w.heap.size w w') : SerRet B id f t w (.returned (.tuple #[.slice none 0 0, .int .i64 E])) w' := by
 have hv : serV B id f t = [] := if_neg (by rw [h]; exact hE)
 unfold SerRet
 rw [hv, h]
 exact ⟨none, 0, rfl, (show RowAcr w' none ([] : List LAcr).length (atR []) from fun hn => absurd hn (by decide)), hb⟩
theorem ser_ok {B : LBk} {id f t : Int} {n : Nat} (h : serE B id f t = 0) (hn : (n : Int) = t - f + 1) : serV B id f t = serL B id f n := by
 unfold serV
 rw [if_pos h]
 congr 1
 omega
theorem acr_own {w : World} {base k : Nat} {e : TypeId} {A : Option Addr} {c : Nat} {B : LBk} {id f : Int} {xs : List Value} (hx : xs = acrL (acr B id (f + k))) (h : w.ownsRow base e 7 (.slice A (k + 1) c) (k + 1) ((serL B id f k).flatMap acrL ++ xs)) :
  w.ownsRow base e 7 (.slice A (k + 1) c) (k + 1) ((serL B id f (k + 1)).flatMap acrL) := by
 show w.ownsRow base e 7 _ _ ((serL B id f k ++ [acr B id (f + k)]).flatMap acrL)
 rw [acrL_snoc, ← hx]
 exact h
theorem own_ser {w : World} {base n : Nat} {e : TypeId} {A : Option Addr} {c : Nat} {B : LBk} {id f : Int} (h : w.ownsRow base e 7 (.slice A n c) n ((serL B id f n).flatMap acrL)) : RowAcr w A n (atR (serL B id f n)) := by
 have hl := serL_len B id f n
 obtain ⟨A', c', hv, hr⟩ := own_rowAcr (l := serL B id f n) (by rw [hl]; exact h)
 rw [hl] at hv hr
 injection hv with e1 _ _
 subst e1
 exact hr
def SerI (B : LBk) (id f : Int) (n : Nat) (w6 : World) (v13 v14 : Value) (wr : World) : Prop :=
 ∃ (k : Nat) (A : Option Addr) (c : Nat), k ≤ n ∧ v14 = .int .i64 (f + k) ∧ v13 = .slice A k c ∧ wr.ownsRow w6.heap.size 61 7 (.slice A k c) k ((serL B id f k).flatMap acrL) ∧ Below w6.heap.size w6 wr
set_option maxRecDepth 8000 in
set_option maxHeartbeats 4000000 in
theorem series_any (B : LBk) (hB : BkOK B) (id f t : Int) (w : World) (hw : BkIn w B) :
  Calls Tryz.prog 22 #[.agg B.C, .int .i64 id, .int .i64 f, .int .i64 t] w (SerRet B id f t w) := by
 have HB := hide hB
 have HW := hide hw
 have HS := hide (bk_size hB)
 obtain ⟨x, hx⟩ : ∃ x, x = getA B.a id B.an := ⟨_, rfl⟩
 obtain ⟨h, hh⟩ : ∃ h, h = hasA B.a id B.an := ⟨_, rfl⟩
 have HF := hide (fun W hr => by have t := find_any B.C B.aA B.an B.ac B.jA B.jn B.jc HB.out.bks B.a id HB.out.an W hr; rw [← hx, ← hh] at t; exact t)
 cases h with
 | false =>
  have HV := hide (ser_0 f t (show hasB B id = false from hh.symm))
  clear hB hw hx hh
  go_enter Tryz.func22, Tryz.ntmps22
  go_wp2_with (with_reducible refine wpList_load_row rfl 33 (.tmp 4) rfl w.heap.size rfl 33 B.C (0, 0) _ (blk_new rfl) Tryz.underlying33 rfl HS.out ?_)
  refine (HF.out _ (HW.out.acc.below belT)).mono ?_
  rintro e w5 ⟨rfl, hb⟩
  have X5 := hide (blk_below hb (by simp) (blk_new (k := w.heap.size) rfl))
  have q5B : Below w.heap.size w w5 := qB hb
  have q5z := hb.size
  try simp at q5z
  have q5t : w.heap.size ≤ w5.heap.size := (by omega)
  have q5o := belO q5B
  clear hb
  have B5 := hide q5B
  go_wp2_with fail
  refine bodyPost_ret (by simp [results, Tryz.results22, go_sem, *] <;> rfl) rfl ?_
  exact ser_no HV.out (by decide) (B5.out.trans belT)
 | true =>
  have HH := hide (show hasB B id = true from hh.symm)
  clear hx hh hB hw
  cases hf : vday f with
  | false =>
   have HV := hide (ser_1 t HH.out hf)
   have HD := hide hf
   clear hf
   go_enter Tryz.func22, Tryz.ntmps22
   go_wp2_with (with_reducible refine wpList_load_row rfl 33 (.tmp 4) rfl w.heap.size rfl 33 B.C (0, 0) _ (blk_new rfl) Tryz.underlying33 rfl HS.out ?_)
   refine (HF.out _ (HW.out.acc.below belT)).mono ?_
   rintro e w5 ⟨rfl, hb⟩
   have X5 := hide (blk_below hb (by simp) (blk_new (k := w.heap.size) rfl))
   have q5B : Below w.heap.size w w5 := qB hb
   have q5z := hb.size
   try simp at q5z
   have q5t : w.heap.size ≤ w5.heap.size := (by omega)
   have q5o := belO q5B
   clear hb
   have B5 := hide q5B
   go_wp2_with fail
   refine (valid_any f _).mono ?_
   rintro e w9 ⟨rfl, rfl⟩
   rw [HD.out]
   go_wp2_with fail
   refine bodyPost_ret (by simp [results, Tryz.results22, go_sem, *] <;> rfl) rfl ?_
   exact ser_no HV.out (by decide) (B5.out.trans belT)
  | true =>
   have HD := hide hf
   clear hf
   cases ht : vday t with
   | false =>
    have HV := hide (ser_2 HH.out HD.out ht)
    have HE := hide ht
    clear ht
    go_enter Tryz.func22, Tryz.ntmps22
    go_wp2_with (with_reducible refine wpList_load_row rfl 33 (.tmp 4) rfl w.heap.size rfl 33 B.C (0, 0) _ (blk_new rfl) Tryz.underlying33 rfl HS.out ?_)
    refine (HF.out _ (HW.out.acc.below belT)).mono ?_
    rintro e w5 ⟨rfl, hb⟩
    have X5 := hide (blk_below hb (by simp) (blk_new (k := w.heap.size) rfl))
    have q5B : Below w.heap.size w w5 := qB hb
    have q5z := hb.size
    try simp at q5z
    have q5t : w.heap.size ≤ w5.heap.size := (by omega)
    have q5o := belO q5B
    clear hb
    have B5 := hide q5B
    go_wp2_with fail
    refine (valid_any f _).mono ?_
    rintro e w9 ⟨rfl, rfl⟩
    rw [HD.out]
    go_wp2_with fail
    refine (valid_any t _).mono ?_
    rintro e w9 ⟨rfl, rfl⟩
    rw [HE.out]
    go_wp2_with fail
    refine bodyPost_ret (by simp [results, Tryz.results22, go_sem, *] <;> rfl) rfl ?_
    exact ser_no HV.out (by decide) (B5.out.trans belT)
   | true =>
    have HE := hide ht
    have HFB := vday_iff.1 HD.out
    have HTB := vday_iff.1 ht
    obtain ⟨f0, f1⟩ := HFB
    obtain ⟨t0, t1⟩ := HTB
    clear ht
    by_cases h1 : t < f
    ·have HV := hide (ser_3 HH.out HD.out HE.out h1)
     go_enter Tryz.func22, Tryz.ntmps22
     go_wp2_with (with_reducible refine wpList_load_row rfl 33 (.tmp 4) rfl w.heap.size rfl 33 B.C (0, 0) _ (blk_new rfl) Tryz.underlying33 rfl HS.out ?_)
     refine (HF.out _ (HW.out.acc.below belT)).mono ?_
     rintro e w5 ⟨rfl, hb⟩
     have X5 := hide (blk_below hb (by simp) (blk_new (k := w.heap.size) rfl))
     have q5B : Below w.heap.size w w5 := qB hb
     have q5z := hb.size
     try simp at q5z
     have q5t : w.heap.size ≤ w5.heap.size := (by omega)
     have q5o := belO q5B
     clear hb
     have B5 := hide q5B
     go_wp2_with fail
     refine (valid_any f _).mono ?_
     rintro e w9 ⟨rfl, rfl⟩
     rw [HD.out]
     go_wp2_with fail
     refine (valid_any t _).mono ?_
     rintro e w9 ⟨rfl, rfl⟩
     rw [HE.out]
     go_wp2_with fail
     refine bodyPost_ret (by simp [results, Tryz.results22, go_sem, *] <;> rfl) rfl ?_
     exact ser_no HV.out (by decide) (B5.out.trans belT)
    ·have h1x := Int.not_lt.1 h1
     by_cases h2 : 4000 ≤ t - f
     ·have HV := hide (ser_4 HH.out HD.out HE.out h1 h2)
      clear h1
      go_enter Tryz.func22, Tryz.ntmps22
      go_wp2_with (with_reducible refine wpList_load_row rfl 33 (.tmp 4) rfl w.heap.size rfl 33 B.C (0, 0) _ (blk_new rfl) Tryz.underlying33 rfl HS.out ?_)
      refine (HF.out _ (HW.out.acc.below belT)).mono ?_
      rintro e w5 ⟨rfl, hb⟩
      have X5 := hide (blk_below hb (by simp) (blk_new (k := w.heap.size) rfl))
      have q5B : Below w.heap.size w w5 := qB hb
      have q5z := hb.size
      try simp at q5z
      have q5t : w.heap.size ≤ w5.heap.size := (by omega)
      have q5o := belO q5B
      clear hb
      have B5 := hide q5B
      go_wp2_with fail
      refine (valid_any f _).mono ?_
      rintro e w9 ⟨rfl, rfl⟩
      rw [HD.out]
      go_wp2_with fail
      refine (valid_any t _).mono ?_
      rintro e w9 ⟨rfl, rfl⟩
      rw [HE.out]
      go_wp2_with fail
      refine bodyPost_ret (by simp [results, Tryz.results22, go_sem, *] <;> rfl) rfl ?_
      exact ser_no HV.out (by decide) (B5.out.trans belT)
     ·have h2x := Int.not_le.1 h2
      have HV := hide (ser_5 HH.out HD.out HE.out h1 h2)
      clear h1 h2
      obtain ⟨n, hn⟩ : ∃ n : Nat, (n : Int) = t - f + 1 := ⟨(t - f + 1).toNat, by omega⟩
      have HN := hide hn
      have hn4 : n ≤ 4000 := by omega
      have HVL := hide (ser_ok HV.out hn)
      clear hn
      obtain ⟨i0, hi0, hz00, hz1, hz2⟩ := info_parts acr_info
      go_enter Tryz.func22, Tryz.ntmps22
      go_wp2_with (with_reducible refine wpList_load_row rfl 33 (.tmp 4) rfl w.heap.size rfl 33 B.C (0, 0) _ (blk_new rfl) Tryz.underlying33 rfl HS.out ?_)
      refine (HF.out _ (HW.out.acc.below belT)).mono ?_
      rintro e w5 ⟨rfl, hb⟩
      have X5 := hide (blk_below hb (by simp) (blk_new (k := w.heap.size) rfl))
      have q5B : Below w.heap.size w w5 := qB hb
      have q5z := hb.size
      try simp at q5z
      have q5t : w.heap.size ≤ w5.heap.size := (by omega)
      have q5o := belO q5B
      clear hb
      have B5 := hide q5B
      go_wp2_with fail
      refine (valid_any f _).mono ?_
      rintro e w9 ⟨rfl, rfl⟩
      rw [HD.out]
      go_wp2_with fail
      refine (valid_any t _).mono ?_
      rintro e w9 ⟨rfl, rfl⟩
      rw [HE.out]
      go_wp2_with (with_reducible refine wpList_load_row rfl 33 (.tmp 4) rfl w.heap.size rfl 33 B.C (0, 0) _ (blk_under X5.out) Tryz.underlying33 rfl HS.out ?_)
      refine (daily_any B.C id _).mono ?_
      rintro e w6 ⟨rfl, hw6⟩
      have hz6 : w5.heap.size + 1 + 1 < w6.heap.size := by rw [hw6]; simp
      have HXB := hide (show w6.heap[w5.heap.size + 1]? = some (.cells B.C 33 (0, 0)) from by rw [hw6]; exact blk_under (blk_new (by simp)))
      have HXI := hide (show w6.cell? ⟨w5.heap.size + 1 + 1, 0, none⟩ = some (.int .i64 id) from by rw [hw6]; simp [go_sem])
      have B6 := hide (B5.out.trans (show Below w.heap.size w5 w6 from by rw [hw6]; (repeat (first | (with_reducible first | exact Below.refl _ _ | assumption | refine Below.drew ?_) | ((with_reducible first | refine Below.alloc ?_ ?_ _ | refine Below.setCell ?_ ?_ _); rotate_left; (first | omega | (simp <;> omega)))))))
      rw [show (w5.alloc (.cells #[.int .i64 x.id, .int .i64 x.op, .int .i64 x.cl, .int .i64 x.ex, .string x.ow, .string x.pr, .string x.nu] 101)).heap.size = w5.heap.size + 1 from by simp]
      clear hw6
      go_wp2_with (at_make; refine wpList_make_own _ rfl _ _ 64 rfl w6.heap.size 61 i0 _ 7 Tryz.underlying64 hi0 hz00 hz1 _ _ _ n rfl rfl HN.out.symm (by rw [hz2]; omega) (by simp only [maxLen]; omega) (Nat.le_refl _) ?_)
      intro w7 hown hgrow
      have HOW := hide hown
      have B7 := hide (below_grown (B := w6.heap.size) hgrow (Nat.le_refl _) (fun k hk => by cases hk))
      clear hown hgrow
      go_wp2_with fail
      go_loopw [13, 14] (fun v13 v14 wr => SerI B id f n w6 v13 v14 wr) (fun _ v _ => n - (intOf v - f).toNat)
      case atStart => exact ⟨0, _, _, by omega, by simp, rfl, HOW.out, B7.out⟩
      case round =>
       obtain ⟨k, A, c, hk, rfl, rfl, hown, hb⟩ := hrel
       have HOK := hide hown
       have HBB := hide hb
       have hzr := hb.size
       clear hown hb
       by_cases hlt : k < n
       ·have hm : f + (k : Int) ≤ t := by have := HN.out; omega
        have HK := hide hlt
        clear hlt hk
        go_wp2_with fail
        refine (daily1_any B HB.out id (f + k) (w5.heap.size + 1 + 1) (w5.heap.size + 1) _ (HW.out.below (B6.out.trans (HBB.out.mono (by have := B6.out.size; omega)))) ((HBB.out.cell (p := ⟨w5.heap.size + 1 + 1, 0, none⟩) (by show w5.heap.size + 1 + 1 < _; omega)).trans HXI.out) (by omega) ((HBB.out.block _ (by omega)).trans HXB.out)).mono ?_
        rintro e w8 ⟨rfl, hb⟩
        have H8 := hide hb
        have hz8 := hb.size
        clear hb
        obtain ⟨a, ha⟩ : ∃ a, a = acr B id (f + k) := ⟨_, rfl⟩
        rw [← ha]
        have HA := hide ha
        clear ha
        go_wp2_with (at_builtin; go_loud (refine wpList_append_own2 _ rfl (.tmp 56) (.tmp 60) 64 rfl w6.heap.size 61 i0 (.agg #[.int .i64 0, .int .i64 0, .int .i64 0, .int .i64 0, .int .u64 0, .int .i64 0, .int .u64 0]) 7 56 Tryz.underlying64 hi0 hz00 hz1 hz2 rfl (by decide) _ _ _ rfl ((owns_below HOK.out H8.out).alloc _) ⟨w8.heap.size, 0, none⟩ 1 1 (acrL a) rfl rfl (news_new (cs := ⟨acrL a⟩) (by simp)) (ones_all rfl) (by have := HK.out; simp only [maxLen]; omega) (by have := HK.out; omega) (by simp; omega) ?_); intro A1 c1 w9 ho hg9 hv)
        have hz9 := hg9.size
        go_roundw
        case rel => exact ⟨k + 1, A1, c1, HK.out, by go_num, rfl, acr_own (congrArg acrL HA.out) ho, HBB.out.trans ((H8.out.mono (by omega)).trans (by refine Below.trans ?_ (below_grown (B := w6.heap.size) hg9 (by simp; omega) (own_ge HOK.out)); (repeat (first | (with_reducible first | exact Below.refl _ _ | assumption | refine Below.drew ?_) | ((with_reducible first | refine Below.alloc ?_ ?_ _ | refine Below.setCell ?_ ?_ _); rotate_left; (first | omega | (simp <;> omega)))))))⟩
        case measure => have := HK.out; simp [intOf]; omega
       ·obtain rfl : k = n := by omega
        clear hlt hk
        have hm : t < f + (k : Int) := by have := HN.out; omega
        go_wp2_with fail
        refine bodyPost_ret (by simp [results, Tryz.results22, go_sem, *] <;> rfl) rfl ?_
        unfold SerRet
        rw [HVL.out, serL_len, HV.out]
        exact ⟨A, c, rfl, own_ser HOK.out, B6.out.trans (HBB.out.mono (by have := B6.out.size; omega))⟩
end Go.Proofs.YtdjlaiilngechaaGreatDoor
