/- Texts laid together: AcV TrO. -/
import Derived.Test.YtdjlaiilngechaaGreatDoorXAcK
import Derived.Test.YtdjlaiilngechaaGreatDoorXAcL
import Derived.Test.YtdjlaiilngechaaGreatDoorXTrM
import Derived.Test.YtdjlaiilngechaaGreatDoorXRowM
import Derived.SizedLaws
import Derived.Test.YtdjlaiilngechaaGreatDoorXK0
namespace Go.Proofs.YtdjlaiilngechaaGreatDoor
set_option maxRecDepth 4000
set_option linter.unusedSimpArgs false
set_option linter.unusedVariables false
open Go.RowKit
set_option maxRecDepth 8000 in
set_option maxHeartbeats 4000000 in
theorem rseries_any (B : LBk) (hB : BkOK B) (id f t : Int) (w : World) (hw : BkIn w B) :
  Calls Tryz.prog 29 #[.agg B.C, .int .i64 id, .int .i64 f, .int .i64 t] w (SerRet B id f t w) := by
 have HB := hide hB
 have HW := hide hw
 have HS := hide (bk_size hB)
 obtain ⟨x, hx⟩ : ∃ x, x = getA B.a id B.an := ⟨_, rfl⟩
 obtain ⟨h, hh⟩ : ∃ h, h = hasA B.a id B.an := ⟨_, rfl⟩
 have HF := hide (fun W hr => by have t := rfind_any B.C B.aA B.an B.ac B.jA B.jn B.jc HB.out.bks B.a id HB.out.an W hr; rw [← hx, ← hh] at t; exact t)
 cases h with
 | false =>
  have HV := hide (ser_0 f t (show hasB B id = false from hh.symm))
  clear hB hw hx hh
  go_enter Tryz.func29, Tryz.ntmps29
  go_wp2_with (with_reducible refine wpList_load_row rfl 33 (.tmp 4) rfl w.heap.size rfl 33 B.C (0, 0) _ (blk_new rfl) Tryz.underlying33 rfl HS.out ?_)
  refine (HF.out _ (HW.out.acc.below belT)).mono ?_
  rintro e w5 ⟨rfl, hb⟩
  have X5 := hide (blk_below hb (by simp) (blk_new (k := w.heap.size) rfl))
  have q5B : Below w.heap.size w w5 := qB hb
  have q5z := hb.size
  try simp at q5z
  have q5t : w.heap.size ≤ w5.heap.size := (by omega)
  have q5o := belO q5B
  clear hb
  have B5 := hide q5B
  go_wp2_with fail
  refine bodyPost_ret (by simp [results, Tryz.results29, go_sem, *] <;> rfl) rfl ?_
  exact ser_no HV.out (by decide) (B5.out.trans belT)
 | true =>
  have HH := hide (show hasB B id = true from hh.symm)
  clear hx hh hB hw
  cases hf : vday f with
  | false =>
   have HV := hide (ser_1 t HH.out hf)
   have HD := hide hf
   clear hf
   go_enter Tryz.func29, Tryz.ntmps29
   go_wp2_with (with_reducible refine wpList_load_row rfl 33 (.tmp 4) rfl w.heap.size rfl 33 B.C (0, 0) _ (blk_new rfl) Tryz.underlying33 rfl HS.out ?_)
   refine (HF.out _ (HW.out.acc.below belT)).mono ?_
   rintro e w5 ⟨rfl, hb⟩
   have X5 := hide (blk_below hb (by simp) (blk_new (k := w.heap.size) rfl))
   have q5B : Below w.heap.size w w5 := qB hb
   have q5z := hb.size
   try simp at q5z
   have q5t : w.heap.size ≤ w5.heap.size := (by omega)
   have q5o := belO q5B
   clear hb
   have B5 := hide q5B
   go_wp2_with fail
   refine (rvalid_any f _).mono ?_
   rintro e w9 ⟨rfl, rfl⟩
   rw [HD.out]
   go_wp2_with fail
   refine bodyPost_ret (by simp [results, Tryz.results29, go_sem, *] <;> rfl) rfl ?_
   exact ser_no HV.out (by decide) (B5.out.trans belT)
  | true =>
   have HD := hide hf
   clear hf
   cases ht : vday t with
   | false =>
    have HV := hide (ser_2 HH.out HD.out ht)
    have HE := hide ht
    clear ht
    go_enter Tryz.func29, Tryz.ntmps29
    go_wp2_with (with_reducible refine wpList_load_row rfl 33 (.tmp 4) rfl w.heap.size rfl 33 B.C (0, 0) _ (blk_new rfl) Tryz.underlying33 rfl HS.out ?_)
    refine (HF.out _ (HW.out.acc.below belT)).mono ?_
    rintro e w5 ⟨rfl, hb⟩
    have X5 := hide (blk_below hb (by simp) (blk_new (k := w.heap.size) rfl))
    have q5B : Below w.heap.size w w5 := qB hb
    have q5z := hb.size
    try simp at q5z
    have q5t : w.heap.size ≤ w5.heap.size := (by omega)
    have q5o := belO q5B
    clear hb
    have B5 := hide q5B
    go_wp2_with fail
    refine (rvalid_any f _).mono ?_
    rintro e w9 ⟨rfl, rfl⟩
    rw [HD.out]
    go_wp2_with fail
    refine (rvalid_any t _).mono ?_
    rintro e w9 ⟨rfl, rfl⟩
    rw [HE.out]
    go_wp2_with fail
    refine bodyPost_ret (by simp [results, Tryz.results29, go_sem, *] <;> rfl) rfl ?_
    exact ser_no HV.out (by decide) (B5.out.trans belT)
   | true =>
    have HE := hide ht
    have HFB := vday_iff.1 HD.out
    have HTB := vday_iff.1 ht
    obtain ⟨f0, f1⟩ := HFB
    obtain ⟨t0, t1⟩ := HTB
    clear ht
    by_cases h1 : t < f
    ·have HV := hide (ser_3 HH.out HD.out HE.out h1)
     go_enter Tryz.func29, Tryz.ntmps29
     go_wp2_with (with_reducible refine wpList_load_row rfl 33 (.tmp 4) rfl w.heap.size rfl 33 B.C (0, 0) _ (blk_new rfl) Tryz.underlying33 rfl HS.out ?_)
     refine (HF.out _ (HW.out.acc.below belT)).mono ?_
     rintro e w5 ⟨rfl, hb⟩
     have X5 := hide (blk_below hb (by simp) (blk_new (k := w.heap.size) rfl))
     have q5B : Below w.heap.size w w5 := qB hb
     have q5z := hb.size
     try simp at q5z
     have q5t : w.heap.size ≤ w5.heap.size := (by omega)
     have q5o := belO q5B
     clear hb
     have B5 := hide q5B
     go_wp2_with fail
     refine (rvalid_any f _).mono ?_
     rintro e w9 ⟨rfl, rfl⟩
     rw [HD.out]
     go_wp2_with fail
     refine (rvalid_any t _).mono ?_
     rintro e w9 ⟨rfl, rfl⟩
     rw [HE.out]
     go_wp2_with fail
     refine bodyPost_ret (by simp [results, Tryz.results29, go_sem, *] <;> rfl) rfl ?_
     exact ser_no HV.out (by decide) (B5.out.trans belT)
    ·have h1x := Int.not_lt.1 h1
     by_cases h2 : 4000 ≤ t - f
     ·have HV := hide (ser_4 HH.out HD.out HE.out h1 h2)
      clear h1
      go_enter Tryz.func29, Tryz.ntmps29
      go_wp2_with (with_reducible refine wpList_load_row rfl 33 (.tmp 4) rfl w.heap.size rfl 33 B.C (0, 0) _ (blk_new rfl) Tryz.underlying33 rfl HS.out ?_)
      refine (HF.out _ (HW.out.acc.below belT)).mono ?_
      rintro e w5 ⟨rfl, hb⟩
      have X5 := hide (blk_below hb (by simp) (blk_new (k := w.heap.size) rfl))
      have q5B : Below w.heap.size w w5 := qB hb
      have q5z := hb.size
      try simp at q5z
      have q5t : w.heap.size ≤ w5.heap.size := (by omega)
      have q5o := belO q5B
      clear hb
      have B5 := hide q5B
      go_wp2_with fail
      refine (rvalid_any f _).mono ?_
      rintro e w9 ⟨rfl, rfl⟩
      rw [HD.out]
      go_wp2_with fail
      refine (rvalid_any t _).mono ?_
      rintro e w9 ⟨rfl, rfl⟩
      rw [HE.out]
      go_wp2_with fail
      refine bodyPost_ret (by simp [results, Tryz.results29, go_sem, *] <;> rfl) rfl ?_
      exact ser_no HV.out (by decide) (B5.out.trans belT)
     ·have h2x := Int.not_le.1 h2
      have HV := hide (ser_5 HH.out HD.out HE.out h1 h2)
      clear h1 h2
      obtain ⟨n, hn⟩ : ∃ n : Nat, (n : Int) = t - f + 1 := ⟨(t - f + 1).toNat, by omega⟩
      have HN := hide hn
      have hn4 : n ≤ 4000 := by omega
      have HVL := hide (ser_ok HV.out hn)
      clear hn
      obtain ⟨i0, hi0, hz00, hz1, hz2⟩ := info_parts acr_info
      go_enter Tryz.func29, Tryz.ntmps29
      go_wp2_with (with_reducible refine wpList_load_row rfl 33 (.tmp 4) rfl w.heap.size rfl 33 B.C (0, 0) _ (blk_new rfl) Tryz.underlying33 rfl HS.out ?_)
      refine (HF.out _ (HW.out.acc.below belT)).mono ?_
      rintro e w5 ⟨rfl, hb⟩
      have X5 := hide (blk_below hb (by simp) (blk_new (k := w.heap.size) rfl))
      have q5B : Below w.heap.size w w5 := qB hb
      have q5z := hb.size
      try simp at q5z
      have q5t : w.heap.size ≤ w5.heap.size := (by omega)
      have q5o := belO q5B
      clear hb
      have B5 := hide q5B
      go_wp2_with fail
      refine (rvalid_any f _).mono ?_
      rintro e w9 ⟨rfl, rfl⟩
      rw [HD.out]
      go_wp2_with fail
      refine (rvalid_any t _).mono ?_
      rintro e w9 ⟨rfl, rfl⟩
      rw [HE.out]
      go_wp2_with fail
      obtain ⟨w6, hw6⟩ : ∃ w6, w6 = w5.alloc (.cells #[.int .i64 x.id, .int .i64 x.op, .int .i64 x.cl, .int .i64 x.ex, .string x.ow, .string x.pr, .string x.nu] 101) := ⟨_, rfl⟩
      rw [← hw6]
      have hz6 : w.heap.size < w6.heap.size := by rw [hw6]; simp; omega
      have HXB := hide (show w6.heap[w.heap.size]? = some (.cells B.C 33 (0, 0)) from by rw [hw6]; exact blk_under X5.out)
      have B6 := hide (B5.out.trans (show Below w.heap.size w5 w6 from by rw [hw6]; (repeat (first | (with_reducible first | exact Below.refl _ _ | assumption | refine Below.drew ?_) | ((with_reducible first | refine Below.alloc ?_ ?_ _ | refine Below.setCell ?_ ?_ _); rotate_left; (first | omega | (simp <;> omega)))))))
      clear hw6
      go_loopw [12, 13] (fun v13 v14 wr => SerI B id f n w6 v13 v14 wr) (fun _ v _ => n - (intOf v - f).toNat)
      case atStart => exact ⟨0, none, 0, by omega, by simp, rfl, ⟨rfl, .inl ⟨rfl, rfl⟩⟩, Below.refl _ _⟩
      case round =>
       obtain ⟨k, A, c, hk, rfl, rfl, hown, hb⟩ := hrel
       have HOK := hide hown
       have HBB := hide hb
       have hzr := hb.size
       have X6 := hide ((hb.block _ hz6).trans HXB.out)
       clear hown hb
       by_cases hlt : k < n
       ·have hm : f + (k : Int) ≤ t := by have := HN.out; omega
        have HK := hide hlt
        have HDK := hide (day_ok (B := B) (id := id) (day := f + k) HH.out (vday_iff.2 ⟨by omega, by omega⟩))
        clear hlt hk
        go_wp2_with (with_reducible refine wpList_load_row rfl 33 (.tmp 4) rfl w.heap.size rfl 33 B.C (0, 0) _ X6.out Tryz.underlying33 rfl HS.out ?_)
        refine (rday_any B HB.out id (f + k) _ (HW.out.below (B6.out.trans (HBB.out.mono (by have := B6.out.size; omega))))).mono ?_
        rintro e w8 ⟨rfl, hb⟩
        rw [HDK.out.1, HDK.out.2]
        have H8 := hide hb
        have hz8 := hb.size
        clear hb
        obtain ⟨a, ha⟩ : ∃ a, a = acr B id (f + k) := ⟨_, rfl⟩
        rw [← ha]
        have HA := hide ha
        clear ha
        go_wp2_with (at_builtin; go_loud (refine wpList_append_own2 _ rfl (.tmp 56) (.tmp 58) 64 rfl w6.heap.size 61 i0 (.agg #[.int .i64 0, .int .i64 0, .int .i64 0, .int .i64 0, .int .u64 0, .int .i64 0, .int .u64 0]) 7 56 Tryz.underlying64 hi0 hz00 hz1 hz2 rfl (by decide) _ _ _ rfl (((owns_below HOK.out H8.out).alloc _).alloc _) ⟨w8.heap.size + 1, 0, none⟩ 1 1 (acrL a) rfl rfl (news_new (cs := ⟨acrL a⟩) (by simp)) (ones_all rfl) (by have := HK.out; simp only [maxLen]; omega) (by have := HK.out; omega) (by simp; omega) ?_); intro A1 c1 w9 ho hg9 hv)
        have hz9 := hg9.size
        go_roundw
        case rel => exact ⟨k + 1, A1, c1, HK.out, by go_num, rfl, acr_own (congrArg acrL HA.out) ho, HBB.out.trans ((H8.out.mono (by omega)).trans (by refine Below.trans ?_ (below_grown (B := w6.heap.size) hg9 (by simp; omega) (own_ge HOK.out)); (repeat (first | (with_reducible first | exact Below.refl _ _ | assumption | refine Below.drew ?_) | ((with_reducible first | refine Below.alloc ?_ ?_ _ | refine Below.setCell ?_ ?_ _); rotate_left; (first | omega | (simp <;> omega)))))))⟩
        case measure => have := HK.out; simp [intOf]; omega
       ·obtain rfl : k = n := by omega
        clear hlt hk
        have hm : t < f + (k : Int) := by have := HN.out; omega
        go_wp2_with fail
        refine bodyPost_ret (by simp [results, Tryz.results29, go_sem, *] <;> rfl) rfl ?_
        unfold SerRet
        rw [HVL.out, serL_len, HV.out]
        exact ⟨A, c, rfl, own_ser HOK.out, B6.out.trans (HBB.out.mono (by have := B6.out.size; omega))⟩
end Go.Proofs.YtdjlaiilngechaaGreatDoor
namespace Go.Proofs.YtdjlaiilngechaaGreatDoor
set_option maxRecDepth 4000
set_option linter.unusedSimpArgs false
set_option linter.unusedVariables false
open Go.RowKit Go.Deep Go.WideShapes
def kdOf (P : Program) (tids : List TypeId) (t : TypeId) : Option Kd := match P.underlying t with
 | some (.int .i64) => some .i
 | some (.int .u64) => some .u
 | some .string => some .s
 | some .bool => some .b
 | some (.slice e) => (tids.idxOf? e).map .sl
 | _ => none
def flatFs (P : Program) (rec : TypeId → Option (List Kd)) : List Field → Nat → Option (List Kd)
 | [], _ => some []
 | f :: r, o => if f.offset = o then match rec f.type with
   | some ks => if P.cellsOf f.type = ks.length then (flatFs P rec r (o + ks.length)).map (ks ++ ·) else none
   | none => none
  else none
/-- The kinds of a type's cells. -/
def flatT (P : Program) (tids : List TypeId) : Nat → TypeId → Option (List Kd)
 | 0, _ => none
 | f + 1, t => match P.underlying t with
  | some (.struct fs) => match flatFs P (flatT P tids f) fs.toList 0 with
   | some ks => if P.cellsOf t = ks.length then some ks else none
   | none => none
  | _ => (kdOf P tids t).map ([·])
/-- The cells read as trees of these kinds. -/
def Reads (w : World) (cs : List Value) (ks : List Kd) : Prop := cs.length = ks.length ∧ ∀ j, j < ks.length → ∃ T : Tr, T.rd (Old w) w (cs.getD j undef) ∧ T.wt (ks.getD j .i)
section
variable {H : Type} {enc : TypeId × Value → H} {P : Program} {w : World} {base : Nat} {spare : Nat → Bool} {held : Bool}
theorem mem_all {e : TypeId} {m : Nat} : ∀ {l : List (DataW H)} {i : Nat} {d : DataW H}, l[i]? = some d → m ∈ d.weights P e → m ∈ DataW.weightsAll P e l
 | [], _, _, h, _ => by simp at h
 | x :: r, 0, d, h, hm => by
  unfold DataW.weightsAll
  simp at h
  subst h
  exact List.mem_append_left _ hm
 | x :: r, i + 1, d, h, hm => by
  unfold DataW.weightsAll
  exact List.mem_append_right _ (mem_all (i := i) (by simpa using h) hm)
theorem mem_each {m : Nat} : ∀ {ts : List TypeId} {l : List (DataW H)} {i : Nat} {t : TypeId} {d : DataW H}, ts[i]? = some t → l[i]? = some d → m ∈ d.weights P t → m ∈ DataW.weightsEach P ts l
 | [], _, _, _, _, h, _, _ => by simp at h
 | _ :: _, [], _, _, _, _, h, _ => by simp at h
 | t :: ts, x :: r, 0, _, _, h, h2, hm => by
  unfold DataW.weightsEach
  simp at h h2
  subst h h2
  exact List.mem_append_left _ hm
 | t :: ts, x :: r, i + 1, _, _, h, h2, hm => by
  unfold DataW.weightsEach
  exact List.mem_append_right _ (mem_each (i := i) (by simpa using h) (by simpa using h2) hm)
theorem reads_one {v : Value} {k : Kd} {T : Tr} (h : T.rd (Old w) w v) (ht : T.wt k) : Reads w [v] [k] := ⟨rfl, fun j hj => by
 obtain rfl : j = 0 := by simp at hj; exact hj
 exact ⟨T, h, ht⟩⟩
theorem flatFs_reads {rec : TypeId → Option (List Kd)} {cs : List Value} : ∀ {r : List Field} {o : Nat} {ks : List Kd}, flatFs P rec r o = some ks →
  (∀ (f : Field) (ks' : List Kd), f ∈ r → rec f.type = some ks' → Reads w ((cs.drop f.offset).take (P.cellsOf f.type)) ks') → ∀ j, j < ks.length → ∃ T : Tr, T.rd (Old w) w (cs.getD (o + j) undef) ∧ T.wt (ks.getD j .i)
 | [], o, ks, h, _, j, hj => by
  unfold flatFs at h
  injection h with h
  subst h
  simp at hj
 | f :: r, o, ks, h, hr, j, hj => by
  unfold flatFs at h
  split at h
  ·rename_i ho
   cases hk : rec f.type with
   | none => rw [hk] at h; cases h
   | some k1 =>
    rw [hk] at h
    simp only at h
    split at h
    ·rename_i hc
     cases hk2 : flatFs P rec r (o + k1.length) with
     | none => rw [hk2] at h; cases h
     | some k2 =>
      rw [hk2] at h
      simp only [Option.map_some, Option.some.injEq] at h
      subst h
      obtain ⟨hl, h1⟩ := hr f k1 (List.mem_cons_self ..) hk
      by_cases hj1 : j < k1.length
      ·obtain ⟨T, ha, hb⟩ := h1 j hj1
       refine ⟨T, ?_, ?_⟩
       ·rw [ho, hc] at ha hl
        rw [List.getD_eq_getElem?_getD, List.getElem?_take, if_pos hj1, List.getElem?_drop, ← List.getD_eq_getElem?_getD] at ha
        exact ha
       ·rw [List.getD_eq_getElem?_getD, List.getElem?_append_left hj1, ← List.getD_eq_getElem?_getD]
        exact hb
      ·have hj2 : j - k1.length < k2.length := by rw [List.length_append] at hj; omega
       obtain ⟨T, ha, hb⟩ := flatFs_reads hk2 (fun f' ks' hf' => hr f' ks' (List.mem_cons_of_mem _ hf')) _ hj2
       refine ⟨T, ?_, ?_⟩
       ·rw [show o + j = o + k1.length + (j - k1.length) by omega]; exact ha
       ·rw [List.getD_eq_getElem?_getD, List.getElem?_append_right (by omega), ← List.getD_eq_getElem?_getD]
        exact hb
    ·cases h
  ·cases h
/-- Each record of the table lies at this seat as the table says. -/
def tblB (P : Program) (tids : List TypeId) : Bool := tids.length == 15 && (List.range 15).all fun e => match tids[e]? with
 | some t => flatT P tids 4 t == some (tbl e) && P.cellsOf t == (tbl e).length && P.bytesOf t == tby e
 | none => false
theorem tblB_at {tids : List TypeId} (h : tblB P tids = true) {e : Nat} {t : TypeId} (he : tids[e]? = some t) : flatT P tids 4 t = some (tbl e) ∧ P.cellsOf t = (tbl e).length ∧ P.bytesOf t = tby e ∧ e < 15 := by
 unfold tblB at h
 rw [Bool.and_eq_true, List.all_eq_true, beq_iff_eq] at h
 have hj : e < 15 := by rw [← h.1]; exact (List.getElem?_eq_some_iff.1 he).1
 have := h.2 e (List.mem_range.2 hj)
 rw [he] at this
 simp only [Bool.and_eq_true, beq_iff_eq] at this
 exact ⟨this.1.1, this.1.2, this.2, hj⟩
theorem tbl_pos {e : Nat} (h : e < 15) : 0 < (tbl e).length := by
 match e, h with
 | 0, _ | 1, _ | 2, _ | 3, _ | 4, _ | 5, _ | 6, _ | 7, _ | 8, _ | 9, _ | 10, _ | 11, _ | 12, _ | 13, _ | 14, _ => decide
theorem idx_at {tids : List TypeId} {e : TypeId} {k : Nat} (h : tids.idxOf? e = some k) : tids[k]? = some e := by
 have h1 := List.findIdx?_eq_some_iff_getElem.1 h
 obtain ⟨hk, he, _⟩ := h1
 rw [List.getElem?_eq_getElem hk]
 exact congrArg some (by simpa using he)
theorem tree_open {tids : List TypeId} (hT : tblB P tids = true) : ∀ (fu : Nat) (f : Nat) (t : TypeId) (ks : List Kd) (cs : List Value) (x : DataW H × List MemPlace), flatT P tids f t = some ks →
  DataW.trod enc P w base spare held fu t cs = some x → (∀ m, m ∈ x.1.weights P t → m ≤ 140737488351232) → Reads w cs ks
 | 0, _, _, _, _, _, _, h, _ => by simp [DataW.trod] at h
 | fu + 1, 0, _, _, _, _, hf, _, _ => by cases hf
 | fu + 1, f + 1, t, ks, cs, x, hf, h, hm => by
  unfold flatT at hf
  split at hf
  ·rename_i fs he
   cases hk : flatFs P (flatT P tids f) fs.toList 0 with
   | none => rw [hk] at hf; cases hf
   | some k1 =>
    rw [hk] at hf
    simp only at hf
    split at hf
    ·rename_i hc
     injection hf with hf
     subst hf
     obtain ⟨xs, n, hn, hx, hlen, hxl, hi⟩ := DataW.trod_struct he h
     obtain rfl : fu = n := by omega
     refine ⟨by rw [hlen, hc], fun j hj => ?_⟩
     have key := flatFs_reads (w := w) (cs := cs) hk (fun f' ks' hf' hrec => by
      obtain ⟨i, hi1, hi2⟩ := List.getElem_of_mem hf'
      have hfi : fs[i]? = some f' := by rw [← hi2, Array.getElem_toList]; exact Array.getElem?_eq_getElem (by simpa using hi1)
      have hg := hi i f' hfi
      have hxi : xs[i]? = some (xs[i]'(by have := (Array.getElem?_eq_some_iff.1 hfi).1; omega)) := List.getElem?_eq_getElem _
      rw [hxi] at hg
      refine tree_open hT fu f _ ks' _ _ hrec hg (fun m hmm => hm m ?_)
      rw [hx]
      unfold DataW.weights
      rw [he]
      exact mem_each (i := i) (t := f'.type) (by simp [hfi]) (by rw [List.getElem?_map, hxi]; rfl) hmm) j hj
     rwa [Nat.zero_add] at key
    ·cases hf
  ·cases hk : kdOf P tids t with
   | none => rw [hk] at hf; cases hf
   | some k =>
    rw [hk] at hf
    simp only [Option.map_some, Option.some.injEq] at hf
    subst hf
    unfold kdOf at hk
    split at hk
    ·rename_i he
     injection hk with hk
     subst hk
     obtain ⟨n, rfl, _, hw⟩ := DataW.trod_int he h
     simp [Lit.wf] at hw
     exact reads_one (T := .lf (.int .i64 n)) rfl ⟨n, rfl, hw⟩
    ·rename_i he
     injection hk with hk
     subst hk
     obtain ⟨n, rfl, _, hw⟩ := DataW.trod_int he h
     simp [Lit.wf, IntKind.min, IntKind.max, IntKind.signed, IntKind.bits] at hw
     exact reads_one (T := .lf (.int .u64 n)) rfl ⟨n, rfl, hw.1, by omega⟩
    ·rename_i he
     injection hk with hk
     subst hk
     obtain ⟨s, rfl, _, hw⟩ := DataW.trod_string he h
     exact reads_one (T := .lf (.string s)) rfl ⟨s, rfl, hw⟩
    ·rename_i he
     injection hk with hk
     subst hk
     obtain ⟨b, rfl, _⟩ := DataW.trod_bool he h
     exact reads_one (T := .lf (.bool b)) rfl ⟨b, rfl⟩
    ·rename_i e he
     cases hidx : tids.idxOf? e with
     | none => rw [hidx] at hk; cases hk
     | some k0 =>
      rw [hidx] at hk
      simp only [Option.map_some, Option.some.injEq] at hk
      subst hk
      obtain ⟨hfe, hce, hbe, hlt⟩ := tblB_at hT (idx_at hidx)
      have hpos := tbl_pos hlt
      rcases DataW.trod_slice he h with ⟨rfl, _⟩ | ⟨a, len, cap, elems, rest, n, hn, rfl, hx, _, hl, hmx, hlen, hel, _, _⟩
      ·exact reads_one (T := .row 0 (tbl k0).length fun _ _ => .lf undef) ⟨none, 0, fun _ _ => undef, rfl, Nat.le_refl _, fun h => by omega, fun k j hk => by omega⟩ ⟨rfl, by simp, fun k j hk => by omega⟩
      ·obtain rfl : fu = n := by omega
       rw [hce] at hel
       have hwt : len * tby k0 ≤ 140737488351232 := by
        have := hm ((elems.length + rest.length) * P.bytesOf e) (by rw [hx]; unfold DataW.weights; rw [he]; simp)
        rw [hbe, hlen] at this
        exact Nat.le_trans (Nat.mul_le_mul_right _ (Nat.le_add_right _ _)) this
       have key : ∀ i, i < len → ∃ cs', (∀ j, j < (tbl k0).length → w.cell? (a.add (i * (tbl k0).length + j)) = some (cs'.getD j undef)) ∧ Reads w cs' (tbl k0) := fun i hi => by
        have h1 := hel i hi
        have h2 : elems[i]? = some (elems[i]'(by omega)) := List.getElem?_eq_getElem _
        rw [h2] at h1
        obtain ⟨cs', hc, ht'⟩ := Option.bind_eq_some_iff.1 h1
        obtain ⟨_, hcl, hat⟩ := World.cells?_some hc
        refine ⟨cs', fun j hj => ?_, tree_open hT fu 4 e _ cs' _ hfe ht' (fun m hmm => hm m ?_)⟩
        ·have := hat j hj
         rw [Deep.add_add, List.getElem?_eq_getElem (by omega)] at this
         rw [this, List.getD_eq_getElem?_getD, List.getElem?_eq_getElem (by omega)]
         rfl
        ·rw [hx]
         unfold DataW.weights
         rw [he]
         exact List.mem_cons_of_mem _ (List.mem_append_left _ (mem_all (i := i) (by rw [List.getElem?_map, h2]; rfl) hmm))
       have hC : ∃ C : Nat → List Value, ∀ i, i < len → (∀ j, j < (tbl k0).length → w.cell? (a.add (i * (tbl k0).length + j)) = some ((C i).getD j undef)) ∧ Reads w (C i) (tbl k0) := by
        refine ⟨fun i => if hi : i < len then Classical.choose (key i hi) else [], fun i hi => ?_⟩
        simp only [dif_pos hi]
        exact Classical.choose_spec (key i hi)
       obtain ⟨C, hCC⟩ := hC
       have hTr : ∃ c : Nat → Nat → Tr, ∀ i j, i < len → j < (tbl k0).length → (c i j).rd (Old w) w ((C i).getD j undef) ∧ (c i j).wt ((tbl k0).getD j .i) := by
        refine ⟨fun i j => if hi : i < len ∧ j < (tbl k0).length then Classical.choose ((hCC i hi.1).2.2 j hi.2) else .lf undef, fun i j hi hj => ?_⟩
        simp only [dif_pos (And.intro hi hj)]
        exact Classical.choose_spec ((hCC i hi).2.2 j hj)
       obtain ⟨c, hcc⟩ := hTr
       refine reads_one (T := .row len (tbl k0).length c) ⟨some a, cap, fun i j => (C i).getD j undef, rfl, hl, fun hn => ?_, fun i j hi hj => (hcc i j hi hj).1⟩ ⟨rfl, hwt, fun i j hi hj => (hcc i j hi hj).2⟩
       obtain ⟨b, off, spot⟩ := a
       have hv := (hCC 0 hn).1 0 hpos
       have hs : spot = none := by simpa [Addr.add] using World.cell?_spot hv
       subst hs
       have hadd : ∀ k, Addr.add ⟨b, off, none⟩ k = ⟨b, off + k, none⟩ := fun k => by
        cases k <;> simp [Addr.add]
       rw [hadd] at hv
       refine ⟨b, off, rfl, World.block_lt_of_cell? _ _ hv, fun k j hk hj => ?_⟩
       have := (hCC k hk).1 j hj
       rwa [hadd] at this
    ·cases hk
end
end Go.Proofs.YtdjlaiilngechaaGreatDoor
