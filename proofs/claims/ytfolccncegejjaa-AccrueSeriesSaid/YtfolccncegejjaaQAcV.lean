/- Texts laid together: AcV. -/
import Derived.Test.YtfolccncegejjaaQAcU
import Derived.Test.YtfolccncegejjaaQAcL
namespace Go.Proofs.Ytfolccncegejjaa
set_option maxRecDepth 4000
set_option linter.unusedSimpArgs false
set_option linter.unusedVariables false
open Go.RowKit
set_option maxRecDepth 8000 in
set_option maxHeartbeats 4000000 in
theorem rseries_any (B : LBk) (hB : BkOK B) (id f t : Int) (w : World) (hw : BkIn w B) :
    Calls Try.prog 14 #[.agg B.C, .int .i64 id, .int .i64 f, .int .i64 t] w (SerRet B id f t w) := by
  have HB := hide hB
  have HW := hide hw
  have HS := hide (bk_size hB)
  obtain ⟨x, hx⟩ : ∃ x, x = getA B.a id B.an := ⟨_, rfl⟩
  obtain ⟨h, hh⟩ : ∃ h, h = hasA B.a id B.an := ⟨_, rfl⟩
  have HF := hide (fun W hr => by have t := rfind_any B.C B.aA B.an B.ac B.jA B.jn B.jc HB.out.bks B.a id HB.out.an W hr; rw [← hx, ← hh] at t; exact t)
  cases h with
  | false =>
    have HV := hide (ser_0 f t (show hasB B id = false from hh.symm))
    clear hB hw hx hh
    go_enter Try.func14, Try.ntmps14
    go_wp2_with (with_reducible refine wpList_load_row rfl 33 (.tmp 4) rfl w.heap.size rfl 33 B.C (0, 0) _ (blk_new rfl) Try.underlying33 rfl HS.out ?_)
    refine (HF.out _ (HW.out.acc.below (by (repeat (first | (with_reducible first | exact Below.refl _ _ | assumption | refine Below.drew ?_ | refine below_drewN ?_ _) | ((with_reducible first | refine Below.alloc ?_ ?_ _ | refine Below.setCell ?_ ?_ _); rotate_left; (first | omega | (simp <;> omega)))))))).mono ?_
    rintro e w5 ⟨rfl, hb⟩
    have X5 := hide (blk_below hb (by simp) (blk_new (k := w.heap.size) rfl))
    have q5B : Below w.heap.size w w5 := (by refine Below.trans ?_ (hb.mono (by first | omega | (simp <;> omega))); (repeat (first | (with_reducible first | exact Below.refl _ _ | assumption | refine Below.drew ?_ | refine below_drewN ?_ _) | ((with_reducible first | refine Below.alloc ?_ ?_ _ | refine Below.setCell ?_ ?_ _); rotate_left; (first | omega | (simp <;> omega))))))
    have q5z := hb.size
    try simp at q5z
    have q5t : w.heap.size ≤ w5.heap.size := (by omega)
    have q5o : ∀ b o, b < w.heap.size → w5.cell? ⟨b, o, none⟩ = w.cell? ⟨b, o, none⟩ := fun b o h => q5B.cell (p := ⟨b, o, none⟩) h
    clear hb
    have B5 := hide q5B
    go_wp2_with fail
    refine bodyPost_ret (by simp [results, Try.results14, go_sem, *] <;> rfl) rfl ?_
    exact ser_no HV.out (by decide) (B5.out.trans (by (repeat (first | (with_reducible first | exact Below.refl _ _ | assumption | refine Below.drew ?_ | refine below_drewN ?_ _) | ((with_reducible first | refine Below.alloc ?_ ?_ _ | refine Below.setCell ?_ ?_ _); rotate_left; (first | omega | (simp <;> omega)))))))
  | true =>
    have HH := hide (show hasB B id = true from hh.symm)
    clear hx hh hB hw
    cases hf : vday f with
    | false =>
      have HV := hide (ser_1 t HH.out hf)
      have HD := hide hf
      clear hf
      go_enter Try.func14, Try.ntmps14
      go_wp2_with (with_reducible refine wpList_load_row rfl 33 (.tmp 4) rfl w.heap.size rfl 33 B.C (0, 0) _ (blk_new rfl) Try.underlying33 rfl HS.out ?_)
      refine (HF.out _ (HW.out.acc.below (by (repeat (first | (with_reducible first | exact Below.refl _ _ | assumption | refine Below.drew ?_ | refine below_drewN ?_ _) | ((with_reducible first | refine Below.alloc ?_ ?_ _ | refine Below.setCell ?_ ?_ _); rotate_left; (first | omega | (simp <;> omega)))))))).mono ?_
      rintro e w5 ⟨rfl, hb⟩
      have X5 := hide (blk_below hb (by simp) (blk_new (k := w.heap.size) rfl))
      have q5B : Below w.heap.size w w5 := (by refine Below.trans ?_ (hb.mono (by first | omega | (simp <;> omega))); (repeat (first | (with_reducible first | exact Below.refl _ _ | assumption | refine Below.drew ?_ | refine below_drewN ?_ _) | ((with_reducible first | refine Below.alloc ?_ ?_ _ | refine Below.setCell ?_ ?_ _); rotate_left; (first | omega | (simp <;> omega))))))
      have q5z := hb.size
      try simp at q5z
      have q5t : w.heap.size ≤ w5.heap.size := (by omega)
      have q5o : ∀ b o, b < w.heap.size → w5.cell? ⟨b, o, none⟩ = w.cell? ⟨b, o, none⟩ := fun b o h => q5B.cell (p := ⟨b, o, none⟩) h
      clear hb
      have B5 := hide q5B
      go_wp2_with fail
      refine (rvalid_any f _).mono ?_
      rintro e w9 ⟨rfl, rfl⟩
      rw [HD.out]
      go_wp2_with fail
      refine bodyPost_ret (by simp [results, Try.results14, go_sem, *] <;> rfl) rfl ?_
      exact ser_no HV.out (by decide) (B5.out.trans (by (repeat (first | (with_reducible first | exact Below.refl _ _ | assumption | refine Below.drew ?_ | refine below_drewN ?_ _) | ((with_reducible first | refine Below.alloc ?_ ?_ _ | refine Below.setCell ?_ ?_ _); rotate_left; (first | omega | (simp <;> omega)))))))
    | true =>
      have HD := hide hf
      clear hf
      cases ht : vday t with
      | false =>
        have HV := hide (ser_2 HH.out HD.out ht)
        have HE := hide ht
        clear ht
        go_enter Try.func14, Try.ntmps14
        go_wp2_with (with_reducible refine wpList_load_row rfl 33 (.tmp 4) rfl w.heap.size rfl 33 B.C (0, 0) _ (blk_new rfl) Try.underlying33 rfl HS.out ?_)
        refine (HF.out _ (HW.out.acc.below (by (repeat (first | (with_reducible first | exact Below.refl _ _ | assumption | refine Below.drew ?_ | refine below_drewN ?_ _) | ((with_reducible first | refine Below.alloc ?_ ?_ _ | refine Below.setCell ?_ ?_ _); rotate_left; (first | omega | (simp <;> omega)))))))).mono ?_
        rintro e w5 ⟨rfl, hb⟩
        have X5 := hide (blk_below hb (by simp) (blk_new (k := w.heap.size) rfl))
        have q5B : Below w.heap.size w w5 := (by refine Below.trans ?_ (hb.mono (by first | omega | (simp <;> omega))); (repeat (first | (with_reducible first | exact Below.refl _ _ | assumption | refine Below.drew ?_ | refine below_drewN ?_ _) | ((with_reducible first | refine Below.alloc ?_ ?_ _ | refine Below.setCell ?_ ?_ _); rotate_left; (first | omega | (simp <;> omega))))))
        have q5z := hb.size
        try simp at q5z
        have q5t : w.heap.size ≤ w5.heap.size := (by omega)
        have q5o : ∀ b o, b < w.heap.size → w5.cell? ⟨b, o, none⟩ = w.cell? ⟨b, o, none⟩ := fun b o h => q5B.cell (p := ⟨b, o, none⟩) h
        clear hb
        have B5 := hide q5B
        go_wp2_with fail
        refine (rvalid_any f _).mono ?_
        rintro e w9 ⟨rfl, rfl⟩
        rw [HD.out]
        go_wp2_with fail
        refine (rvalid_any t _).mono ?_
        rintro e w9 ⟨rfl, rfl⟩
        rw [HE.out]
        go_wp2_with fail
        refine bodyPost_ret (by simp [results, Try.results14, go_sem, *] <;> rfl) rfl ?_
        exact ser_no HV.out (by decide) (B5.out.trans (by (repeat (first | (with_reducible first | exact Below.refl _ _ | assumption | refine Below.drew ?_ | refine below_drewN ?_ _) | ((with_reducible first | refine Below.alloc ?_ ?_ _ | refine Below.setCell ?_ ?_ _); rotate_left; (first | omega | (simp <;> omega)))))))
      | true =>
        have HE := hide ht
        have HFB := vday_iff.1 HD.out
        have HTB := vday_iff.1 ht
        obtain ⟨f0, f1⟩ := HFB
        obtain ⟨t0, t1⟩ := HTB
        clear ht
        by_cases h1 : t < f
        · have HV := hide (ser_3 HH.out HD.out HE.out h1)
          go_enter Try.func14, Try.ntmps14
          go_wp2_with (with_reducible refine wpList_load_row rfl 33 (.tmp 4) rfl w.heap.size rfl 33 B.C (0, 0) _ (blk_new rfl) Try.underlying33 rfl HS.out ?_)
          refine (HF.out _ (HW.out.acc.below (by (repeat (first | (with_reducible first | exact Below.refl _ _ | assumption | refine Below.drew ?_ | refine below_drewN ?_ _) | ((with_reducible first | refine Below.alloc ?_ ?_ _ | refine Below.setCell ?_ ?_ _); rotate_left; (first | omega | (simp <;> omega)))))))).mono ?_
          rintro e w5 ⟨rfl, hb⟩
          have X5 := hide (blk_below hb (by simp) (blk_new (k := w.heap.size) rfl))
          have q5B : Below w.heap.size w w5 := (by refine Below.trans ?_ (hb.mono (by first | omega | (simp <;> omega))); (repeat (first | (with_reducible first | exact Below.refl _ _ | assumption | refine Below.drew ?_ | refine below_drewN ?_ _) | ((with_reducible first | refine Below.alloc ?_ ?_ _ | refine Below.setCell ?_ ?_ _); rotate_left; (first | omega | (simp <;> omega))))))
          have q5z := hb.size
          try simp at q5z
          have q5t : w.heap.size ≤ w5.heap.size := (by omega)
          have q5o : ∀ b o, b < w.heap.size → w5.cell? ⟨b, o, none⟩ = w.cell? ⟨b, o, none⟩ := fun b o h => q5B.cell (p := ⟨b, o, none⟩) h
          clear hb
          have B5 := hide q5B
          go_wp2_with fail
          refine (rvalid_any f _).mono ?_
          rintro e w9 ⟨rfl, rfl⟩
          rw [HD.out]
          go_wp2_with fail
          refine (rvalid_any t _).mono ?_
          rintro e w9 ⟨rfl, rfl⟩
          rw [HE.out]
          go_wp2_with fail
          refine bodyPost_ret (by simp [results, Try.results14, go_sem, *] <;> rfl) rfl ?_
          exact ser_no HV.out (by decide) (B5.out.trans (by (repeat (first | (with_reducible first | exact Below.refl _ _ | assumption | refine Below.drew ?_ | refine below_drewN ?_ _) | ((with_reducible first | refine Below.alloc ?_ ?_ _ | refine Below.setCell ?_ ?_ _); rotate_left; (first | omega | (simp <;> omega)))))))
        · have h1x := Int.not_lt.1 h1
          by_cases h2 : 4000 ≤ t - f
          · have HV := hide (ser_4 HH.out HD.out HE.out h1 h2)
            clear h1
            go_enter Try.func14, Try.ntmps14
            go_wp2_with (with_reducible refine wpList_load_row rfl 33 (.tmp 4) rfl w.heap.size rfl 33 B.C (0, 0) _ (blk_new rfl) Try.underlying33 rfl HS.out ?_)
            refine (HF.out _ (HW.out.acc.below (by (repeat (first | (with_reducible first | exact Below.refl _ _ | assumption | refine Below.drew ?_ | refine below_drewN ?_ _) | ((with_reducible first | refine Below.alloc ?_ ?_ _ | refine Below.setCell ?_ ?_ _); rotate_left; (first | omega | (simp <;> omega)))))))).mono ?_
            rintro e w5 ⟨rfl, hb⟩
            have X5 := hide (blk_below hb (by simp) (blk_new (k := w.heap.size) rfl))
            have q5B : Below w.heap.size w w5 := (by refine Below.trans ?_ (hb.mono (by first | omega | (simp <;> omega))); (repeat (first | (with_reducible first | exact Below.refl _ _ | assumption | refine Below.drew ?_ | refine below_drewN ?_ _) | ((with_reducible first | refine Below.alloc ?_ ?_ _ | refine Below.setCell ?_ ?_ _); rotate_left; (first | omega | (simp <;> omega))))))
            have q5z := hb.size
            try simp at q5z
            have q5t : w.heap.size ≤ w5.heap.size := (by omega)
            have q5o : ∀ b o, b < w.heap.size → w5.cell? ⟨b, o, none⟩ = w.cell? ⟨b, o, none⟩ := fun b o h => q5B.cell (p := ⟨b, o, none⟩) h
            clear hb
            have B5 := hide q5B
            go_wp2_with fail
            refine (rvalid_any f _).mono ?_
            rintro e w9 ⟨rfl, rfl⟩
            rw [HD.out]
            go_wp2_with fail
            refine (rvalid_any t _).mono ?_
            rintro e w9 ⟨rfl, rfl⟩
            rw [HE.out]
            go_wp2_with fail
            refine bodyPost_ret (by simp [results, Try.results14, go_sem, *] <;> rfl) rfl ?_
            exact ser_no HV.out (by decide) (B5.out.trans (by (repeat (first | (with_reducible first | exact Below.refl _ _ | assumption | refine Below.drew ?_ | refine below_drewN ?_ _) | ((with_reducible first | refine Below.alloc ?_ ?_ _ | refine Below.setCell ?_ ?_ _); rotate_left; (first | omega | (simp <;> omega)))))))
          · have h2x := Int.not_le.1 h2
            have HV := hide (ser_5 HH.out HD.out HE.out h1 h2)
            clear h1 h2
            obtain ⟨n, hn⟩ : ∃ n : Nat, (n : Int) = t - f + 1 := ⟨(t - f + 1).toNat, by omega⟩
            have HN := hide hn
            have hn4 : n ≤ 4000 := by omega
            have HVL := hide (ser_ok HV.out hn)
            clear hn
            obtain ⟨i0, hi0, hz00, hz1, hz2⟩ := info_parts acr_info
            go_enter Try.func14, Try.ntmps14
            go_wp2_with (with_reducible refine wpList_load_row rfl 33 (.tmp 4) rfl w.heap.size rfl 33 B.C (0, 0) _ (blk_new rfl) Try.underlying33 rfl HS.out ?_)
            refine (HF.out _ (HW.out.acc.below (by (repeat (first | (with_reducible first | exact Below.refl _ _ | assumption | refine Below.drew ?_ | refine below_drewN ?_ _) | ((with_reducible first | refine Below.alloc ?_ ?_ _ | refine Below.setCell ?_ ?_ _); rotate_left; (first | omega | (simp <;> omega)))))))).mono ?_
            rintro e w5 ⟨rfl, hb⟩
            have X5 := hide (blk_below hb (by simp) (blk_new (k := w.heap.size) rfl))
            have q5B : Below w.heap.size w w5 := (by refine Below.trans ?_ (hb.mono (by first | omega | (simp <;> omega))); (repeat (first | (with_reducible first | exact Below.refl _ _ | assumption | refine Below.drew ?_ | refine below_drewN ?_ _) | ((with_reducible first | refine Below.alloc ?_ ?_ _ | refine Below.setCell ?_ ?_ _); rotate_left; (first | omega | (simp <;> omega))))))
            have q5z := hb.size
            try simp at q5z
            have q5t : w.heap.size ≤ w5.heap.size := (by omega)
            have q5o : ∀ b o, b < w.heap.size → w5.cell? ⟨b, o, none⟩ = w.cell? ⟨b, o, none⟩ := fun b o h => q5B.cell (p := ⟨b, o, none⟩) h
            clear hb
            have B5 := hide q5B
            go_wp2_with fail
            refine (rvalid_any f _).mono ?_
            rintro e w9 ⟨rfl, rfl⟩
            rw [HD.out]
            go_wp2_with fail
            refine (rvalid_any t _).mono ?_
            rintro e w9 ⟨rfl, rfl⟩
            rw [HE.out]
            go_wp2_with fail
            obtain ⟨w6, hw6⟩ : ∃ w6, w6 = w5.alloc (.cells #[.int .i64 x.id, .int .i64 x.op, .int .i64 x.cl, .int .i64 x.ex, .string x.ow, .string x.pr, .string x.nu] 70) := ⟨_, rfl⟩
            rw [← hw6]
            have hz6 : w.heap.size < w6.heap.size := by rw [hw6]; simp; omega
            have HXB := hide (show w6.heap[w.heap.size]? = some (.cells B.C 33 (0, 0)) from by rw [hw6]; exact blk_under X5.out)
            have B6 := hide (B5.out.trans (show Below w.heap.size w5 w6 from by rw [hw6]; (repeat (first | (with_reducible first | exact Below.refl _ _ | assumption | refine Below.drew ?_ | refine below_drewN ?_ _) | ((with_reducible first | refine Below.alloc ?_ ?_ _ | refine Below.setCell ?_ ?_ _); rotate_left; (first | omega | (simp <;> omega)))))))
            clear hw6
            go_loopw [12, 13] (fun v13 v14 wr => SerI B id f n w6 v13 v14 wr) (fun _ v _ => n - (intOf v - f).toNat)
            case atStart => exact ⟨0, none, 0, by omega, by simp, rfl, ⟨rfl, .inl ⟨rfl, rfl⟩⟩, Below.refl _ _⟩
            case round =>
              obtain ⟨k, A, c, hk, rfl, rfl, hown, hb⟩ := hrel
              have HOK := hide hown
              have HBB := hide hb
              have hzr := hb.size
              have X6 := hide ((hb.block _ hz6).trans HXB.out)
              clear hown hb
              by_cases hlt : k < n
              · have hm : f + (k : Int) ≤ t := by have := HN.out; omega
                have HK := hide hlt
                have HDK := hide (day_ok (B := B) (id := id) (day := f + k) HH.out (vday_iff.2 ⟨by omega, by omega⟩))
                clear hlt hk
                go_wp2_with (with_reducible refine wpList_load_row rfl 33 (.tmp 4) rfl w.heap.size rfl 33 B.C (0, 0) _ X6.out Try.underlying33 rfl HS.out ?_)
                refine (rday_any B HB.out id (f + k) _ (HW.out.below (B6.out.trans (HBB.out.mono (by have := B6.out.size; omega))))).mono ?_
                rintro e w8 ⟨rfl, hb⟩
                rw [HDK.out.1, HDK.out.2]
                have H8 := hide hb
                have hz8 := hb.size
                clear hb
                obtain ⟨a, ha⟩ : ∃ a, a = acr B id (f + k) := ⟨_, rfl⟩
                rw [← ha]
                have HA := hide ha
                clear ha
                go_wp2_with (at_builtin; go_loud (refine wpList_append_own2 _ rfl (.tmp 56) (.tmp 58) 45 rfl w6.heap.size 40 i0 (.agg #[.int .i64 0, .int .i64 0, .int .i64 0, .int .i64 0, .int .u64 0, .int .i64 0, .int .u64 0]) 7 56 Try.underlying45 hi0 hz00 hz1 hz2 rfl (by decide) _ _ _ rfl (((owns_below HOK.out H8.out).alloc _).alloc _) ⟨w8.heap.size + 1, 0, none⟩ 1 1 (acrL a) rfl rfl (news_new (cs := ⟨acrL a⟩) (by simp)) (ones_all rfl) (by have := HK.out; simp only [maxLen]; omega) (by have := HK.out; omega) (by simp; omega) ?_); intro A1 c1 w9 ho hg9 hv)
                have hz9 := hg9.size
                go_roundw
                case rel => exact ⟨k + 1, A1, c1, HK.out, by go_num, rfl, acr_own (congrArg acrL HA.out) ho, HBB.out.trans ((H8.out.mono (by omega)).trans (by refine Below.trans ?_ (below_grown (B := w6.heap.size) hg9 (by simp; omega) (own_ge HOK.out)); (repeat (first | (with_reducible first | exact Below.refl _ _ | assumption | refine Below.drew ?_ | refine below_drewN ?_ _) | ((with_reducible first | refine Below.alloc ?_ ?_ _ | refine Below.setCell ?_ ?_ _); rotate_left; (first | omega | (simp <;> omega)))))))⟩
                case measure => have := HK.out; simp [intOf]; omega
              · obtain rfl : k = n := by omega
                clear hlt hk
                have hm : t < f + (k : Int) := by have := HN.out; omega
                go_wp2_with fail
                refine bodyPost_ret (by simp [results, Try.results14, go_sem, *] <;> rfl) rfl ?_
                unfold SerRet
                rw [HVL.out, serL_len, HV.out]
                exact ⟨A, c, rfl, own_ser HOK.out, B6.out.trans (HBB.out.mono (by have := B6.out.size; omega))⟩
end Go.Proofs.Ytfolccncegejjaa
