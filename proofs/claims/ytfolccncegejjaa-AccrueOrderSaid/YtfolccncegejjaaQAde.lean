/- Texts laid together: Ade. -/
import Derived.Test.YtfolccncegejjaaQAdO
namespace Go.Proofs.Ytfolccncegejjaa
set_option maxRecDepth 4000
set_option linter.unusedSimpArgs false
set_option linter.unusedVariables false
open Go.RowKit Go
theorem ent_info' : (Try.prog.info? 59).map (fun i => (i.zero, i.size, i.bytes)) = some (some (.agg #[.int .i64 0, .int .i64 0, .int .i64 0, .int .i64 0, .int .i64 0, .int .i64 0, .string ⟨#[]⟩, .string ⟨#[]⟩, .slice none 0 0, .int .u64 0]), 10, 112) := by kernel_rfl
def OrJ (B : LBk) (w1 : World) (v : Value) (wr : World) : Prop := ∃ k : Nat, k ≤ B.jn ∧ v = .int .i64 k ∧ (∀ i, i < k → (B.E i).bk ≤ 73048) ∧ Below w1.heap.size w1 wr
def OrI (B : LBk) (day bk : Int) (g : Nat) (wl : World) (v : Value) (wr : World) : Prop := ∃ (k m : Nat) (x : Int) (A : Option Addr) (c : Nat), k + m = B.jn ∧ x = (m : Int) - 1 ∧ v = .int .i64 x ∧
  wr.heap[g]? = some (.cells (B.C.setIfInBounds 19 (.slice A (ordE B.E day bk B.jn k).length c)) 33 (0, 0)) ∧
  wr.ownsRow (g + 1) 59 10 (.slice A (ordE B.E day bk B.jn k).length c) (ordE B.E day bk B.jn k).length ((ordE B.E day bk B.jn k).flatMap entL) ∧ Below wl.heap.size wl wr ∧ g < wr.heap.size
theorem ord_yes {E : Nat → LEnt} {day bk : Int} {n k m : Nat} (h : n - 1 - k = m) (hv : (E m).va ≤ day) : ordE E day bk n (k + 1) = ordE E day bk n k ++ [{ E m with bk := bk }] := by
  subst h
  exact if_pos hv
theorem ord_no {E : Nat → LEnt} {day bk : Int} {n k m : Nat} (h : n - 1 - k = m) (hv : ¬ (E m).va ≤ day) : ordE E day bk n (k + 1) = ordE E day bk n k := by
  subst h
  exact if_neg hv
theorem entL_snoc (l : List LEnt) (e : LEnt) : (l ++ [e]).flatMap entL = l.flatMap entL ++ entL e := by simp
theorem ord_own {w : World} {base : Nat} {t : TypeId} {A : Option Addr} {c n : Nat} {l : List LEnt} {e : LEnt} (hn : n = l.length) (h : w.ownsRow base t 10 (.slice A (n + 1) c) (n + 1) (l.flatMap entL ++ entL e)) :
    w.ownsRow base t 10 (.slice A (l ++ [e]).length c) (l ++ [e]).length ((l ++ [e]).flatMap entL) := by
  subst hn
  rw [entL_snoc, List.length_append, List.length_singleton]
  exact h
theorem ord_new {w : World} {g : Nat} {cs : Array Value} {e : TypeId} (hg : g = w.heap.size) (j : Nat) (u : Value) (hu : cs.toList[j]? = some u) : (w.alloc (.cells cs e)).cell? ((⟨g, 0, none⟩ : Addr).add j) = some u := by
  subst hg
  exact news_cells (Go.Deep.blk_alloc_new _ _) j u hu
set_option maxRecDepth 8000 in
set_option maxHeartbeats 8000000 in
theorem lawOrder_any (B : LBk) (id day bk : Int) (w : World) (hA : BkArg w B) : Calls Try.prog 7 #[.agg B.C, .int .i64 id, .int .i64 day, .int .i64 bk] w fun e w' => e = .returned (.bool true) ∧ Below w.heap.size w w' := by
  have HA := hide hA
  have hs := hA.bks.size
  have HS := hide (show (Try.prog.info? 33).map (·.size) = some B.C.size by rw [hs]; kernel_rfl)
  have HF := hide (fun h => few_ok hA h)
  have HLen := hide (show fewB B = true → B.jn ≤ 60 from fun h => (fewB_iff.1 h).2.2.1)
  obtain ⟨b, hb0⟩ : ∃ b, b = fewB B := ⟨_, rfl⟩
  have HFW := hide (fun W h => by have t := few_any B W h; rw [← hb0] at t; exact t)
  cases b with
  | false =>
    clear hA hs HF hb0
    go_enter Try.func7, Try.ntmps7
    go_wp2_with (with_reducible refine wpList_load_row rfl 33 (.tmp 4) rfl w.heap.size rfl 33 B.C (0, 0) _ (blk_new rfl) Try.underlying33 rfl HS.out ?_)
    refine (HFW.out _ (HA.out.below (by (repeat (first | (with_reducible first | exact Below.refl _ _ | assumption | refine Below.drew ?_ | refine below_drewN ?_ _) | ((with_reducible first | refine Below.alloc ?_ ?_ _ | refine Below.setCell ?_ ?_ _); rotate_left; (first | omega | (simp <;> omega)))))))).mono ?_
    rintro e w1 ⟨rfl, hb⟩
    have X1 := hide (blk_below hb (by simp) (blk_new (k := w.heap.size) rfl))
    have q1B : Below w.heap.size w w1 := (by refine Below.trans ?_ (hb.mono (by first | omega | (simp <;> omega))); (repeat (first | (with_reducible first | exact Below.refl _ _ | assumption | refine Below.drew ?_ | refine below_drewN ?_ _) | ((with_reducible first | refine Below.alloc ?_ ?_ _ | refine Below.setCell ?_ ?_ _); rotate_left; (first | omega | (simp <;> omega))))))
    have q1z := hb.size
    try simp at q1z
    have q1t : w.heap.size ≤ w1.heap.size := (by omega)
    have q1o : ∀ b o, b < w.heap.size → w1.cell? ⟨b, o, none⟩ = w.cell? ⟨b, o, none⟩ := fun b o h => q1B.cell (p := ⟨b, o, none⟩) h
    clear hb
    go_wp2_with fail
    refine (lives_any _).mono ?_
    rintro e w2 ⟨rfl, hb⟩
    have q2B : Below w.heap.size w w2 := (by refine Below.trans ?_ (hb.mono (by first | omega | (simp <;> omega))); (repeat (first | (with_reducible first | exact Below.refl _ _ | assumption | refine Below.drew ?_ | refine below_drewN ?_ _) | ((with_reducible first | refine Below.alloc ?_ ?_ _ | refine Below.setCell ?_ ?_ _); rotate_left; (first | omega | (simp <;> omega))))))
    have q2z := hb.size
    try simp at q2z
    have q2t : w.heap.size ≤ w2.heap.size := (by omega)
    have q2o : ∀ b o, b < w.heap.size → w2.cell? ⟨b, o, none⟩ = w.cell? ⟨b, o, none⟩ := fun b o h => q2B.cell (p := ⟨b, o, none⟩) h
    clear hb q1o q1z q1B
    go_wp2_with fail
    go_ret
    exact ⟨rfl, q2B⟩
  | true =>
    have HB := hide (HF.out hb0.symm).1
    have HW := hide (HF.out hb0.symm).2
    have hjn := HLen.out hb0.symm
    have HSZ := hide hs
    clear hA hs HF hb0
    by_cases c0 : bk < 0
    · clear hjn
      go_enter Try.func7, Try.ntmps7
      go_wp2_with (with_reducible refine wpList_load_row rfl 33 (.tmp 4) rfl w.heap.size rfl 33 B.C (0, 0) _ (blk_new rfl) Try.underlying33 rfl HS.out ?_)
      refine (HFW.out _ (HA.out.below (by (repeat (first | (with_reducible first | exact Below.refl _ _ | assumption | refine Below.drew ?_ | refine below_drewN ?_ _) | ((with_reducible first | refine Below.alloc ?_ ?_ _ | refine Below.setCell ?_ ?_ _); rotate_left; (first | omega | (simp <;> omega)))))))).mono ?_
      rintro e w1 ⟨rfl, hb⟩
      have X1 := hide (blk_below hb (by simp) (blk_new (k := w.heap.size) rfl))
      have q1B : Below w.heap.size w w1 := (by refine Below.trans ?_ (hb.mono (by first | omega | (simp <;> omega))); (repeat (first | (with_reducible first | exact Below.refl _ _ | assumption | refine Below.drew ?_ | refine below_drewN ?_ _) | ((with_reducible first | refine Below.alloc ?_ ?_ _ | refine Below.setCell ?_ ?_ _); rotate_left; (first | omega | (simp <;> omega))))))
      have q1z := hb.size
      try simp at q1z
      have q1t : w.heap.size ≤ w1.heap.size := (by omega)
      have q1o : ∀ b o, b < w.heap.size → w1.cell? ⟨b, o, none⟩ = w.cell? ⟨b, o, none⟩ := fun b o h => q1B.cell (p := ⟨b, o, none⟩) h
      clear hb
      go_wp2_with fail
      refine (lives_any _).mono ?_
      rintro e w2 ⟨rfl, hb⟩
      have q2B : Below w.heap.size w w2 := (by refine Below.trans ?_ (hb.mono (by first | omega | (simp <;> omega))); (repeat (first | (with_reducible first | exact Below.refl _ _ | assumption | refine Below.drew ?_ | refine below_drewN ?_ _) | ((with_reducible first | refine Below.alloc ?_ ?_ _ | refine Below.setCell ?_ ?_ _); rotate_left; (first | omega | (simp <;> omega))))))
      have q2z := hb.size
      try simp at q2z
      have q2t : w.heap.size ≤ w2.heap.size := (by omega)
      have q2o : ∀ b o, b < w.heap.size → w2.cell? ⟨b, o, none⟩ = w.cell? ⟨b, o, none⟩ := fun b o h => q2B.cell (p := ⟨b, o, none⟩) h
      clear hb q1o q1z q1B
      go_wp2_with fail
      go_ret
      exact ⟨rfl, q2B⟩
    · have d0 : 0 ≤ bk := by omega
      clear c0
      by_cases c1 : 73048 < bk
      · clear hjn
        go_enter Try.func7, Try.ntmps7
        go_wp2_with (with_reducible refine wpList_load_row rfl 33 (.tmp 4) rfl w.heap.size rfl 33 B.C (0, 0) _ (blk_new rfl) Try.underlying33 rfl HS.out ?_)
        refine (HFW.out _ (HA.out.below (by (repeat (first | (with_reducible first | exact Below.refl _ _ | assumption | refine Below.drew ?_ | refine below_drewN ?_ _) | ((with_reducible first | refine Below.alloc ?_ ?_ _ | refine Below.setCell ?_ ?_ _); rotate_left; (first | omega | (simp <;> omega)))))))).mono ?_
        rintro e w1 ⟨rfl, hb⟩
        have X1 := hide (blk_below hb (by simp) (blk_new (k := w.heap.size) rfl))
        have q1B : Below w.heap.size w w1 := (by refine Below.trans ?_ (hb.mono (by first | omega | (simp <;> omega))); (repeat (first | (with_reducible first | exact Below.refl _ _ | assumption | refine Below.drew ?_ | refine below_drewN ?_ _) | ((with_reducible first | refine Below.alloc ?_ ?_ _ | refine Below.setCell ?_ ?_ _); rotate_left; (first | omega | (simp <;> omega))))))
        have q1z := hb.size
        try simp at q1z
        have q1t : w.heap.size ≤ w1.heap.size := (by omega)
        have q1o : ∀ b o, b < w.heap.size → w1.cell? ⟨b, o, none⟩ = w.cell? ⟨b, o, none⟩ := fun b o h => q1B.cell (p := ⟨b, o, none⟩) h
        clear hb
        go_wp2_with fail
        refine (lives_any _).mono ?_
        rintro e w2 ⟨rfl, hb⟩
        have q2B : Below w.heap.size w w2 := (by refine Below.trans ?_ (hb.mono (by first | omega | (simp <;> omega))); (repeat (first | (with_reducible first | exact Below.refl _ _ | assumption | refine Below.drew ?_ | refine below_drewN ?_ _) | ((with_reducible first | refine Below.alloc ?_ ?_ _ | refine Below.setCell ?_ ?_ _); rotate_left; (first | omega | (simp <;> omega))))))
        have q2z := hb.size
        try simp at q2z
        have q2t : w.heap.size ≤ w2.heap.size := (by omega)
        have q2o : ∀ b o, b < w.heap.size → w2.cell? ⟨b, o, none⟩ = w.cell? ⟨b, o, none⟩ := fun b o h => q2B.cell (p := ⟨b, o, none⟩) h
        clear hb q1o q1z q1B
        go_wp2_with fail
        go_ret
        exact ⟨rfl, q2B⟩
      · have d1 : bk ≤ 73048 := by omega
        clear c1
        obtain ⟨V, hV⟩ : ∃ x, x = dayV B id day := ⟨_, rfl⟩
        obtain ⟨E, hE⟩ : ∃ x, x = dayE B id day := ⟨_, rfl⟩
        have HD1 := hide (fun W h => by have t := day_any B HB.out id day W h; unfold DayRet at t; rw [← hV, ← hE] at t; exact t)
        have HVE := hide (And.intro hV hE)
        clear hV hE
        have HBK := hide d1
        obtain ⟨jA, hjA⟩ : ∃ x, x = B.jA := ⟨_, rfl⟩
        have HRE := hide (show RowEnt w jA B.jn B.E from by rw [hjA]; exact HW.out.jrn.row)
        have H19 := hide (show B.C[19]? = some (.slice jA B.jn B.jc) from by rw [hjA]; exact HB.out.bks.jou)
        clear hjA
        go_enter Try.func7, Try.ntmps7
        go_wp2_with (with_reducible refine wpList_load_row rfl 33 (.tmp 4) rfl w.heap.size rfl 33 B.C (0, 0) _ (blk_new rfl) Try.underlying33 rfl HS.out ?_)
        refine (HFW.out _ (HA.out.below (by (repeat (first | (with_reducible first | exact Below.refl _ _ | assumption | refine Below.drew ?_ | refine below_drewN ?_ _) | ((with_reducible first | refine Below.alloc ?_ ?_ _ | refine Below.setCell ?_ ?_ _); rotate_left; (first | omega | (simp <;> omega)))))))).mono ?_
        rintro e w1 ⟨rfl, hb⟩
        have X1 := hide (blk_below hb (by simp) (blk_new (k := w.heap.size) rfl))
        have q1B : Below w.heap.size w w1 := (by refine Below.trans ?_ (hb.mono (by first | omega | (simp <;> omega))); (repeat (first | (with_reducible first | exact Below.refl _ _ | assumption | refine Below.drew ?_ | refine below_drewN ?_ _) | ((with_reducible first | refine Below.alloc ?_ ?_ _ | refine Below.setCell ?_ ?_ _); rotate_left; (first | omega | (simp <;> omega))))))
        have q1z := hb.size
        try simp at q1z
        have q1t : w.heap.size ≤ w1.heap.size := (by omega)
        have q1o : ∀ b o, b < w.heap.size → w1.cell? ⟨b, o, none⟩ = w.cell? ⟨b, o, none⟩ := fun b o h => q1B.cell (p := ⟨b, o, none⟩) h
        clear hb
        have B1 := hide q1B
        have HZ1 := hide (show w.heap.size < w1.heap.size by omega)
        go_wp2_with fail
        go_loopw [9] (fun v wr => OrJ B w1 v wr) (fun v _ => B.jn - (intOf v).toNat)
        case atStart => exact ⟨0, by omega, rfl, fun i hi => by omega, Below.refl _ _⟩
        case round =>
          obtain ⟨k, hk, rfl, hl, hb⟩ := hrel
          have HL := hide hl
          have H0 := hide hb
          have XR := hide (blk_below hb HZ1.out X1.out)
          have zr := hb.size
          have c19 := (cell_of_cells XR.out 19).trans H19.out
          have HBR := hide (B1.out.trans (hb.mono B1.out.size))
          clear hl hb
          by_cases hlt : k < B.jn
          · have hm : (k : Int) < B.jn := by omega
            have hk0 : (0 : Int) ≤ k := by omega
            have HK := hide hlt
            obtain ⟨b, off, rfl, hbl, e0, e1, e2, e3, e4, e5, e6, e7, e8, e9⟩ := (HRE.out.below HBR.out).at hlt
            clear hlt hk
            by_cases t1 : 73048 < (B.E k).bk
            · go_wp2_with fail
              refine (lives_any _).mono ?_
              rintro e w3 ⟨rfl, hb⟩
              have HB3 := hide (HBR.out.trans (hb.mono (by have := HBR.out.size; simpa using this)))
              go_wp2_with fail
              go_ret
              exact ⟨rfl, HB3.out⟩
            · have t2 : (B.E k).bk ≤ 73048 := by omega
              have HT := hide t2
              clear t1
              go_wp2_with fail
              go_roundw
              case rel => exact ⟨k + 1, HK.out, by go_num, fun i hi => by
                rcases Nat.lt_succ_iff_lt_or_eq.1 hi with h | rfl
                · exact HL.out i h
                · exact HT.out, H0.out⟩
              case measure => have := HK.out; simp [intOf]; omega
          · obtain rfl : k = B.jn := by omega
            clear hlt hk
            have zr0 : w.heap.size < wr.heap.size := by have := HZ1.out; omega
            obtain ⟨i0, Z, hi0, hi1, hi2⟩ := sm_zero
            have hn1 : ¬ wr.heap.size = w.heap.size := by omega
            have hn2 : ¬ w.heap.size = wr.heap.size := by omega
            go_wp2_with (first
              | (with_reducible refine wpList_load_row rfl 33 (.tmp 4) rfl w.heap.size rfl 33 B.C (0, 0) _ (XR.out) Try.underlying33 rfl HS.out ?_)
              | (with_reducible refine wpList_alloc_row rfl 33 rfl (some 10) rfl i0 hi0 Z hi1 wr.heap.size rfl ?_)
              | ((with_reducible refine wpList_store_newrow2 rfl 33 (.tmp 10) (.tmp 44) rfl rfl wr.heap.size B.C rfl rfl 33 Z (blk_new rfl) HS.out (by rw [hi2, HSZ.out]) HB.out.ones ?_); intro w9 hb hs9 hx9 hk9; have HX9 := hide hx9; have g19 := (cell_of_cells hx9 19).trans H19.out; have gfr := free_of_cells hx9; have hx4 := (hk9 w.heap.size hn2).trans (blk_under XR.out); have b19 := (cell_of_cells hx4 19).trans H19.out; have HX4 := hide hx4; have H9 := hide (show Below wr.heap.size wr w9 from (by refine Below.trans ?_ hb; (repeat (first | (with_reducible first | exact Below.refl _ _ | assumption | refine Below.drew ?_ | refine below_drewN ?_ _) | ((with_reducible first | refine Below.alloc ?_ ?_ _ | refine Below.setCell ?_ ?_ _); rotate_left; (first | omega | (simp <;> omega))))))); (try simp at hs9); clear hx9 hk9 hb hx4))
            have zw9 : wr.heap.size < w9.heap.size := by omega
            obtain ⟨j0, hj0, hz0, hz1, hz2⟩ := info_parts ent_info'
            have I0 := hide hj0
            have I1 := hide hz0
            have I2 := hide hz1
            have I3 := hide hz2
            clear hj0 hz0 hz1 hz2 hi0 hi1 hi2 c19
            go_loopw [11] (fun v w2 => OrI B day bk wr.heap.size wr v w2) (fun v _ => (intOf v + 1).toNat)
            case atStart => exact ⟨0, B.jn, (B.jn : Int) - 1, none, 0, by omega, rfl, by go_num, blk_setCell HX9.out, World.ownsRow_nil _ _ _ _, H9.out.trans (by (repeat (first | (with_reducible first | exact Below.refl _ _ | assumption | refine Below.drew ?_ | refine below_drewN ?_ _) | ((with_reducible first | refine Below.alloc ?_ ?_ _ | refine Below.setCell ?_ ?_ _); rotate_left; (first | omega | (simp <;> omega)))))), by simpa using zw9⟩
            case round =>
              obtain ⟨k, m, x, A, c, hkm, hx, rfl, hgx, hown, hb, hgz⟩ := hrel
              rename World => w2
              have HG := hide hgx
              have HO := hide hown
              have HB2 := hide hb
              have HX4r := hide (blk_below hb zr0 XR.out)
              have HBW := hide (HBR.out.trans (hb.mono HBR.out.size))
              have c19 := (cell_of_cells HX4r.out 19).trans H19.out
              have d19 := (cell_of_cells hgx 19).trans (show _ = some (.slice A (ordE B.E day bk B.jn k).length c) by simp [HSZ.out])
              have dfr := free_of_cells hgx
              have HKM := hide hkm
              have zz0 : w.heap.size < w2.heap.size := by omega
              clear hgx hown hb
              obtain ⟨l, hl⟩ : ∃ l, l = ordE B.E day bk B.jn k := ⟨_, rfl⟩
              have hll : l.length ≤ k := by rw [hl]; exact ordE_len _ _ _ _ k
              rw [← hl] at HG HO d19
              obtain ⟨n, hn⟩ : ∃ n, n = l.length := ⟨_, rfl⟩
              rw [← hn] at HG HO d19 hll
              cases m with
              | zero =>
                obtain rfl : x = -1 := by omega
                obtain rfl : k = B.jn := by omega
                have hll2 : n ≤ 1000000 := by omega
                clear hx hkm
                obtain ⟨A', c', hv, hj⟩ := ord_jrn (day := day) (bk := bk) (HW.out.jrn.below HBW.out) (by rw [← hl, ← hn]; exact HO.out)
                rw [← hl, ← hn] at hv hj
                injection hv with hv1 hv2 hv3
                subst hv1
                subst hv3
                have HJ := hide hj
                have hbal := ord_bal (B := B) (day := day) (bk := bk) id (fun k hk => HL.out k hk) HBK.out
                rw [← hl, ← hn] at hbal
                have HD2 := hide (fun W h => by have t := day_any (jouB B A n c (atE l)) (jou_ok HB.out A n c _ hll2) id day W h; unfold DayRet at t; rw [(jou_day id hbal).1, (jou_day id hbal).2, ← HVE.out.1, ← HVE.out.2] at t; exact t)
                have HS2 := hide (show (Try.prog.info? 33).map (·.size) = some (jouB B A n c (atE l)).C.size by show _ = some (B.C.setIfInBounds 19 _).size; rw [Array.size_setIfInBounds]; exact HS.out)
                have HG2 := hide (show w2.heap[wr.heap.size]? = some (.cells (jouB B A n c (atE l)).C 33 (0, 0)) from HG.out)
                clear hj hbal hl hn hll hll2 c19 d19 dfr HG
                go_wp2_with (with_reducible refine wpList_load_row rfl 33 (.tmp 4) rfl w.heap.size rfl 33 B.C (0, 0) _ (HX4r.out) Try.underlying33 rfl HS.out ?_)
                refine (HD1.out _ (HW.out.below (HBW.out.trans (by (repeat (first | (with_reducible first | exact Below.refl _ _ | assumption | refine Below.drew ?_ | refine below_drewN ?_ _) | ((with_reducible first | refine Below.alloc ?_ ?_ _ | refine Below.setCell ?_ ?_ _); rotate_left; (first | omega | (simp <;> omega))))))))).mono ?_
                rintro e w3 ⟨rfl, hb⟩
                have H3 := hide (HBW.out.trans (hb.mono HBW.out.size))
                have G3 := hide (blk_below hb hgz HG2.out)
                have HJ3 := hide (HJ.out.below hb)
                have z3 := hb.size
                have q3B : Below w2.heap.size w2 w3 := (by refine Below.trans ?_ (hb.mono (by first | omega | (simp <;> omega))); (repeat (first | (with_reducible first | exact Below.refl _ _ | assumption | refine Below.drew ?_ | refine below_drewN ?_ _) | ((with_reducible first | refine Below.alloc ?_ ?_ _ | refine Below.setCell ?_ ?_ _); rotate_left; (first | omega | (simp <;> omega))))))
                have q3z := hb.size
                try simp at q3z
                have q3t : w2.heap.size ≤ w3.heap.size := (by omega)
                have q3o : ∀ b o, b < w2.heap.size → w3.cell? ⟨b, o, none⟩ = w2.cell? ⟨b, o, none⟩ := fun b o h => q3B.cell (p := ⟨b, o, none⟩) h
                clear hb
                go_wp2_with (with_reducible refine wpList_load_row rfl 33 (.tmp 10) rfl wr.heap.size rfl 33 (jouB B A n c (atE l)).C (0, 0) _ (by repeat (first | exact G3.out | refine blk_setOther (by simp; omega) ?_ | refine blk_under ?_)) Try.underlying33 rfl HS2.out ?_)
                refine (HD2.out _ (jou_in (HW.out.below (H3.out.trans (by (repeat (first | (with_reducible first | exact Below.refl _ _ | assumption | refine Below.drew ?_ | refine below_drewN ?_ _) | ((with_reducible first | refine Below.alloc ?_ ?_ _ | refine Below.setCell ?_ ?_ _); rotate_left; (first | omega | (simp <;> omega)))))))) (HJ3.out.below (by (repeat (first | (with_reducible first | exact Below.refl _ _ | assumption | refine Below.drew ?_ | refine below_drewN ?_ _) | ((with_reducible first | refine Below.alloc ?_ ?_ _ | refine Below.setCell ?_ ?_ _); rotate_left; (first | omega | (simp <;> omega))))))))).mono ?_
                rintro e w4 ⟨rfl, hb⟩
                have q4B : Below w3.heap.size w3 w4 := (by refine Below.trans ?_ (hb.mono (by first | omega | (simp <;> omega))); (repeat (first | (with_reducible first | exact Below.refl _ _ | assumption | refine Below.drew ?_ | refine below_drewN ?_ _) | ((with_reducible first | refine Below.alloc ?_ ?_ _ | refine Below.setCell ?_ ?_ _); rotate_left; (first | omega | (simp <;> omega))))))
                have q4z := hb.size
                try simp at q4z
                have q4t : w3.heap.size ≤ w4.heap.size := (by omega)
                have q4s0 : w3.heap.size < w4.heap.size := (by omega)
                have q4n0_0 : ¬ w4.heap.size = w3.heap.size := (by omega)
                have q4n0_1 : ¬ w4.heap.size + 1 = w3.heap.size := (by omega)
                have q4n0_2 : ¬ w4.heap.size + 2 = w3.heap.size := (by omega)
                have q4c0_0 := hb.cell (p := ⟨w3.heap.size, 0, none⟩) (by first | omega | (simp <;> omega))
                simp [go_sem, *] at q4c0_0
                have q4c0_1 := hb.cell (p := ⟨w3.heap.size, 1, none⟩) (by first | omega | (simp <;> omega))
                simp [go_sem, *] at q4c0_1
                have q4c0_2 := hb.cell (p := ⟨w3.heap.size, 2, none⟩) (by first | omega | (simp <;> omega))
                simp [go_sem, *] at q4c0_2
                have q4c0_3 := hb.cell (p := ⟨w3.heap.size, 3, none⟩) (by first | omega | (simp <;> omega))
                simp [go_sem, *] at q4c0_3
                have q4c0_4 := hb.cell (p := ⟨w3.heap.size, 4, none⟩) (by first | omega | (simp <;> omega))
                simp [go_sem, *] at q4c0_4
                have q4c0_5 := hb.cell (p := ⟨w3.heap.size, 5, none⟩) (by first | omega | (simp <;> omega))
                simp [go_sem, *] at q4c0_5
                have q4c0_6 := hb.cell (p := ⟨w3.heap.size, 6, none⟩) (by first | omega | (simp <;> omega))
                simp [go_sem, *] at q4c0_6
                have q4f0 := fun o => hb.frozen (p := ⟨w3.heap.size, o, none⟩) (by first | omega | (simp <;> omega))
                simp [go_sem, *] at q4f0
                have q4o : ∀ b o, b < w3.heap.size → w4.cell? ⟨b, o, none⟩ = w3.cell? ⟨b, o, none⟩ := fun b o h => q4B.cell (p := ⟨b, o, none⟩) h
                clear hb q3o q3z q3B
                have H4 := hide (H3.out.trans (q4B.mono (by omega)))
                go_wp2_with fail
                refine (lives_any _).mono ?_
                rintro e w5 ⟨rfl, hb⟩
                have H5 := hide (H4.out.trans (show Below w.heap.size w4 w5 from Below.trans (by (repeat (first | (with_reducible first | exact Below.refl _ _ | assumption | refine Below.drew ?_ | refine below_drewN ?_ _) | ((with_reducible first | refine Below.alloc ?_ ?_ _ | refine Below.setCell ?_ ?_ _); rotate_left; (first | omega | (simp <;> omega)))))) (hb.mono (by simp; omega))))
                have q5B : Below w4.heap.size w4 w5 := (by refine Below.trans ?_ (hb.mono (by first | omega | (simp <;> omega))); (repeat (first | (with_reducible first | exact Below.refl _ _ | assumption | refine Below.drew ?_ | refine below_drewN ?_ _) | ((with_reducible first | refine Below.alloc ?_ ?_ _ | refine Below.setCell ?_ ?_ _); rotate_left; (first | omega | (simp <;> omega))))))
                have q5z := hb.size
                try simp at q5z
                have q5t : w4.heap.size ≤ w5.heap.size := (by omega)
                have q5o : ∀ b o, b < w4.heap.size → w5.cell? ⟨b, o, none⟩ = w4.cell? ⟨b, o, none⟩ := fun b o h => q5B.cell (p := ⟨b, o, none⟩) h
                clear hb q4o q4f0 q4c0_6 q4c0_5 q4c0_4 q4c0_3 q4c0_2 q4c0_1 q4c0_0 q4s0 q4z q4B
                go_wp2_with fail
                go_ret
                exact ⟨rfl, H5.out⟩
              | succ m =>
                obtain rfl : x = (m : Int) := by omega
                have hmn : m < B.jn := by omega
                have hmi : (m : Int) < B.jn := by omega
                have hm0 : (0 : Int) ≤ m := by omega
                have hkm2 : B.jn - 1 - k = m := by omega
                have HKM2 := hide hkm2
                have hll2 : n ≤ 60 := by omega
                obtain ⟨b, off, rfl, hbl, e0, e1, e2, e3, e4, e5, e6, e7, e8, e9⟩ := (HRE.out.below HBW.out).at hmn
                have HL2 := hide hl
                have HN2 := hide hn
                clear hx hkm hkm2 hmn hl hn
                by_cases hv : (B.E m).va ≤ day
                · have HY := hide (ord_yes (bk := bk) HKM2.out hv)
                  go_wp2_with (at_builtin; go_loud (refine wpList_append_own2 _ rfl (.tmp 66) (.tmp 68) 29 rfl (wr.heap.size + 1) 59 j0 (.agg #[.int .i64 0, .int .i64 0, .int .i64 0, .int .i64 0, .int .i64 0, .int .i64 0, .string ⟨#[]⟩, .string ⟨#[]⟩, .slice none 0 0, .int .u64 0]) 10 112 Try.underlying29 I0.out I1.out I2.out I3.out rfl (by decide) (.slice A n c) n (l.flatMap entL) rfl ?hown ⟨w2.heap.size + 1, 0, none⟩ 1 1 (entL { B.E m with bk := bk }) rfl rfl ?hnews ?h1 ?c3 ?c4 ?c5 ?_); (case hown => exact (owns_below HO.out (by (repeat (first | (with_reducible first | exact Below.refl _ _ | assumption | refine Below.drew ?_ | refine below_drewN ?_ _) | ((with_reducible first | refine Below.alloc ?_ ?_ _ | refine Below.setCell ?_ ?_ _); rotate_left; (first | omega | (simp <;> omega)))))))); (case hnews => exact (ord_new (cs := ⟨entL { B.E m with bk := bk }⟩) (by simp))); (case h1 => exact (ones_all rfl)); (case c3 => (simp only [maxLen]; omega)); (case c4 => omega); (case c5 => (simp; omega)); (intro A1 c1 w8 ho hg hv); go_loud (have hx := HO.out); go_loud (have hne : (Value.slice A n c).ownBlock ≠ some wr.heap.size := fun e => by have := own_ge hx _ e; omega); go_loud (have X8 := blk_grown (k := wr.heap.size) hg hne (blk_under (blk_under HG.out))); (have y19 := (cell_of_cells X8 19).trans (show _ = some (.slice A n c) by simp [HSZ.out])); have yfr := free_of_cells X8; have z8 := hg.size; (try simp at z8); have zg8 : wr.heap.size < w8.heap.size := by omega)
                  go_roundw
                  case rel => exact ⟨k + 1, m, (m : Int) - 1, A1, c1, by have := HKM.out; omega, rfl, by go_num, by rw [HY.out, ← HL2.out, List.length_append, List.length_singleton, ← HN2.out]; have t := blk_setCell (i := 19) (v := .slice A1 (n + 1) c1) X8; rw [Array.setIfInBounds_setIfInBounds] at t; exact t, by rw [HY.out, ← HL2.out]; exact ord_own HN2.out (owns_else ho (by simp) _), HB2.out.trans (by refine Below.trans ?_ ((below_grown (B := wr.heap.size) hg (by simp; omega) (fun k hk => by have := own_ge HO.out k hk; omega)).setCell (by simp) _); (repeat (first | (with_reducible first | exact Below.refl _ _ | assumption | refine Below.drew ?_ | refine below_drewN ?_ _) | ((with_reducible first | refine Below.alloc ?_ ?_ _ | refine Below.setCell ?_ ?_ _); rotate_left; (first | omega | (simp <;> omega)))))), by simpa using zg8⟩
                  case measure => simp [intOf] <;> omega
                · have hv2 : day < (B.E m).va := by omega
                  have HY := hide (ord_no (bk := bk) HKM2.out hv)
                  clear hv
                  go_wp2_with fail
                  go_roundw
                  case rel => exact ⟨k + 1, m, (m : Int) - 1, A, c, by have := HKM.out; omega, rfl, by go_num, by rw [HY.out, ← HL2.out, ← HN2.out]; exact blk_under HG.out, by rw [HY.out, ← HL2.out, ← HN2.out]; exact owns_below HO.out (by (repeat (first | (with_reducible first | exact Below.refl _ _ | assumption | refine Below.drew ?_ | refine below_drewN ?_ _) | ((with_reducible first | refine Below.alloc ?_ ?_ _ | refine Below.setCell ?_ ?_ _); rotate_left; (first | omega | (simp <;> omega)))))), HB2.out.trans (by (repeat (first | (with_reducible first | exact Below.refl _ _ | assumption | refine Below.drew ?_ | refine below_drewN ?_ _) | ((with_reducible first | refine Below.alloc ?_ ?_ _ | refine Below.setCell ?_ ?_ _); rotate_left; (first | omega | (simp <;> omega)))))), by simp; omega⟩
                  case measure => simp [intOf] <;> omega
end Go.Proofs.Ytfolccncegejjaa
