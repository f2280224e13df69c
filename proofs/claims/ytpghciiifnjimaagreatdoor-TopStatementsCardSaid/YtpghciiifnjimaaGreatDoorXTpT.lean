/- Texts laid together: TpT. -/
import Derived.Test.YtpghciiifnjimaaGreatDoorXTpN
import Derived.Test.YtpghciiifnjimaaGreatDoorXK0
namespace Go.Proofs.YtpghciiifnjimaaGreatDoor
set_option maxRecDepth 4000
set_option linter.unusedSimpArgs false
set_option linter.unusedVariables false
open Go.RowKit
def monL (p : ByteArray × Int) : List Value := [.string p.1, .int .i64 p.2]
def mons (l : List (ByteArray × Int)) : List Value := l.flatMap monL
theorem mons_app (l m : List (ByteArray × Int)) : mons (l ++ m) = mons l ++ mons m := by simp [mons]
theorem mons_len (l : List (ByteArray × Int)) : (mons l).length = l.length * 2 := flatC_len (f := monL) (sz := 2) (fun _ => rfl) l
theorem mons_ones (l : List (ByteArray × Int)) : ∀ u ∈ mons l, u.oneCell' = true := fun u hu => by
 simp only [mons, List.mem_flatMap, monL] at hu
 obtain ⟨p, _, hp⟩ := hu
 simp at hp
 rcases hp with rfl | rfl <;> rfl
def monC (M : Nat → ByteArray × Int) (k j : Nat) : Value := (monL (M k)).getD j undef
theorem mons_rng (M : Nat → ByteArray × Int) (m : Nat) : ∀ k j, k < m → j < 2 → (mons ((List.range m).map M))[k * 2 + j]? = some (monC M k j) := fun k j hk hj => by
 have h := flatC_at (sz := 2) (f := monL) (fun _ => rfl) ((List.range m).map M) k j (by simpa using hk) hj
 show (((List.range m).map M).flatMap monL)[k * 2 + j]? = _
 rw [h]
 have e : ((List.range m).map M)[k]'(by simpa using hk) = M k := by simp
 rw [e]
 match j, hj with
 | 0, _ => rfl
 | 1, _ => rfl
/-- A row of some amounts. -/
def MRow (w : World) (A : Option Addr) (n : Nat) : Prop := ((A = none ∧ n = 0) ∨ ∃ b off, A = some ⟨b, off, none⟩) ∧ ∃ M : Nat → ByteArray × Int, RowS w A n 2 (monC M)
theorem MRow.below {w w' : World} {A : Option Addr} {n : Nat} (h : MRow w A n) (hb : Below w.heap.size w w') : MRow w' A n := by
 obtain ⟨hA, M, h⟩ := h
 exact ⟨hA, M, h.below hb⟩
theorem MRow.at {w : World} {A : Option Addr} {n k : Nat} (h : MRow w A n) (hk : k < n) : ∃ b off s z, A = some ⟨b, off, none⟩ ∧ b < w.heap.size ∧ w.cell? ⟨b, off + k * 2, none⟩ = some (.string s) ∧ w.cell? ⟨b, off + k * 2 + 1, none⟩ = some (.int .i64 z) := by
 obtain ⟨_, M, h⟩ := h
 obtain ⟨b, off, e, hb, hc⟩ := h (by omega)
 exact ⟨b, off, (M k).1, (M k).2, e, hb, hc k 0 hk (by decide), by have := hc k 1 hk (by decide); rw [← Nat.add_assoc] at this; exact this⟩
theorem MRow.cut {w : World} {A : Option Addr} {n k : Nat} (h : MRow w A n) (hk : k ≤ n) : ∃ M : Nat → ByteArray × Int, RowS w A k 2 (monC M) ∧ ∀ q, q ≤ n → ∀ b off, A = some ⟨b, off, none⟩ → ∀ m, m = n - q → RowS w (some ⟨b, off + q * 2, none⟩) m 2 (monC (fun j => M (q + j))) := by
 obtain ⟨_, M, h⟩ := h
 refine ⟨M, fun h0 => ?_, fun q hq b off e m hm h0 => ?_⟩
 ·obtain ⟨b, off, e, hb, hc⟩ := h (by omega)
  exact ⟨b, off, e, hb, fun i j hi hj => hc i j (by omega) hj⟩
 ·obtain ⟨b2, off2, e2, hb, hc⟩ := h (by omega)
  rw [e] at e2
  injection e2 with e2
  injection e2 with e3 e4
  subst e3 e4
  refine ⟨b, off + q * 2, rfl, hb, fun i j hi hj => ?_⟩
  have := hc (q + i) j (by omega) hj
  have e5 : off + ((q + i) * 2 + j) = off + q * 2 + (i * 2 + j) := by omega
  rw [e5] at this
  exact this
theorem own_mrow {w : World} {base n : Nat} {e : TypeId} {A : Option Addr} {c : Nat} {l : List (ByteArray × Int)} (h : w.ownsRow base e 2 (.slice A n c) n (mons l)) : n ≤ c ∧ MRow w A n := by
 have hl : l.length = n := by have := h.1; rw [mons_len] at this; omega
 rcases h.2 with ⟨e2, h0⟩ | ⟨g, cap, cur, hv, hg, hh, h3, h4, h5, h6⟩
 ·injection e2 with e3 e4 e5
  exact ⟨by omega, .inl ⟨e3, e4⟩, ⟨fun _ => (⟨#[]⟩, 0), fun hn => by omega⟩⟩
 ·injection hv with e1 e4 e5
  subst e1
  refine ⟨by omega, .inr ⟨_, _, rfl⟩, ⟨fun k => l.getD k (⟨#[]⟩, 0), fun _ => ⟨g, 0, rfl, heap_lt hh, fun k j hk hj => ?_⟩⟩⟩
  have hk2 : k < l.length := by omega
  have f1 : (mons l)[k * 2 + j]? = some (monC (fun k => l.getD k (⟨#[]⟩, 0)) k j) := by
   have h := flatC_at (sz := 2) (f := monL) (fun _ => rfl) l k j hk2 hj
   show (l.flatMap monL)[k * 2 + j]? = _
   rw [h]
   have e : l.getD k (⟨#[]⟩, 0) = l[k] := by simp [List.getD, hk2]
   show (monL l[k])[j]? = some ((monL (l.getD k (⟨#[]⟩, 0))).getD j undef)
   rw [e]
   match j, hj with
   | 0, _ => rfl
   | 1, _ => rfl
  rw [← h6, List.getElem?_take] at f1
  split at f1
  ·have e0 : 0 + (k * 2 + j) = k * 2 + j := by omega
   rw [e0]
   exact (cell_of_cells hh _).trans (by simpa using f1)
  ·cases f1
theorem mon_info : (Tryz.prog.info? 128).map (fun i => (i.zero, i.size, i.bytes)) = some (some (.agg #[.string ⟨#[]⟩, .int .i64 0]), 2, 24) := by kernel_rfl
def SuJ (n : Nat) (W : World) (v3 v4 : Value) (wr : World) : Prop := ∃ (k m c : Nat) (A : Option Addr), k ≤ n ∧ v4 = .int .i64 k ∧ v3 = .slice A m c ∧ m ≤ k ∧ m ≤ c ∧ MRow wr A m ∧ Below W.heap.size W wr
def SumR (n : Nat) (w : World) (e : Ending) (w' : World) : Prop := ∃ A m c, e = .returned (.slice A m c) ∧ m ≤ n ∧ MRow w' A m ∧ Below w.heap.size w w'
set_option maxRecDepth 8000 in
set_option maxHeartbeats 8000000 in
theorem wsums_any (A : Option Addr) (n cap : Nat) (c : Nat → Nat → Tr) (C : Nat → Nat → Value) (hk : RowK 10 n c) (hn : n ≤ 20) (w : World) (hA : RowT (Old w) w 10 A n c C) : Calls Tryz.prog 243 #[.slice A n cap] w (SumR n w) := by
 have HK := hide hk
 have HA := hide hA
 clear hk hA
 obtain ⟨i0, hi0, hz00, hz1, hz2⟩ := info_parts mon_info
 go_enter Tryz.func243, Tryz.ntmps243
 go_wp2_with fail
 go_loopw [3, 4] (fun v3 v4 wr => SuJ n w v3 v4 wr) (fun _ v _ => n - (intOf v).toNat)
 case atStart => exact ⟨0, 0, 0, none, by omega, rfl, rfl, by omega, by omega, ⟨.inl ⟨rfl, rfl⟩, fun _ => (⟨#[]⟩, 0), fun h => by omega⟩, Below.refl _ _⟩
 case round =>
  obtain ⟨k, m, p, B, hkn, rfl, rfl, hmk, hmp, hm, hb⟩ := hrel
  have H0 := hide hb
  have HM := hide hm
  have HMK := hide hmk
  have zb := hb.size
  by_cases hlt : k < n
  ·have hm1 : (k : Int) < n := by omega
   have hk0 : (0 : Int) ≤ k := by omega
   have HLT := hide hlt
   obtain ⟨b, off, rfl, hbl, hc⟩ := (HA.out.below hb).all (by decide) (by omega)
   obtain ⟨z1, _, e1, _⟩ := rd_int (HA.out.rd k 1 hlt (by decide)) (HK.out.wt k 1 hlt (by decide))
   obtain ⟨s2, _, e2, _⟩ := rd_str (HA.out.rd k 2 hlt (by decide)) (HK.out.wt k 2 hlt (by decide))
   have c1 : wr.cell? ⟨b, off + k * 3 + 1, none⟩ = some (.int .i64 z1) := by have hcc := hc k 1 hlt (by decide); rw [e1] at hcc; exact hcc
   have c2 : wr.cell? ⟨b, off + k * 3 + 2, none⟩ = some (.string s2) := by have hcc := hc k 2 hlt (by decide); rw [e2] at hcc; exact hcc
   have HBL := hide hbl
   obtain ⟨wq, hwq⟩ : ∃ x, x = wr := ⟨_, rfl⟩
   subst hwq
   clear hlt hkn hb hm hc e1 e2
   go_wp2_with fail
   go_loopw [6] (fun v wr => KB m wq v wr) (fun v _ => m - (intOf v).toNat)
   case atStart => exact ⟨0, by omega, rfl, Below.refl _ _⟩
   case round =>
    obtain ⟨j, hj, rfl, hb⟩ := hrel
    have HJ := hide hb
    have d1 := (hb.cell (p := ⟨b, off + k * 3 + 1, none⟩) HBL.out).trans c1
    have d2 := (hb.cell (p := ⟨b, off + k * 3 + 2, none⟩) HBL.out).trans c2
    have hbr : b < wr.heap.size := Nat.lt_of_lt_of_le HBL.out hb.size
    have hj0 : (0 : Int) ≤ j := by omega
    have hjp : (j : Int) ≤ p := by omega
    have HJM := hide hj
    by_cases hjt : j < m
    ·have hjm : (j : Int) < m := by omega
     obtain ⟨b5, o5, s5, z5, rfl, hb5, f0, f1⟩ := (HM.out.below hb).at hjt
     have HJT := hide hjt
     clear hjt hj hb
     rcases Bool.eq_false_or_eq_true (Op.bytesLess s5.toList s2.toList) with q1 | q1
     ·
      go_wp2_with fail
      refine ord_start (SB (wr.heap.size) [] _) 17 (preB 0 17) (by kernel_rfl) (by kernel_rfl) (by kernel_rfl) SB.refl.drew (fun hHeld => ?_)
      refine oS (i := 0) (preB 1 16) rfl hHeld ?_
      (try simp only [Act.put, putS])
      refine oS (i := 1) (preB 2 15) rfl hHeld ?_
      (try simp only [Act.put, putS])
      refine oS (i := 2) (preB 3 14) rfl hHeld ?_
      (try simp only [Act.put, putS])
      refine oS (i := 3) (preB 4 13) rfl hHeld ?_
      (try simp only [Act.put, putS])
      refine oS (i := 4) (preB 5 12) rfl hHeld ?_
      (try simp only [Act.put, putS])
      refine oS (i := 5) (preB 6 11) rfl hHeld ?_
      (try simp only [Act.put, putS])
      refine oS (i := 6) (preB 7 10) rfl hHeld ?_
      (try simp only [Act.put, putS])
      refine oS (i := 7) (preB 8 9) rfl hHeld ?_
      (try simp only [Act.put, putS])
      refine oS (i := 8) (preB 9 8) rfl hHeld ?_
      (try simp only [Act.put, putS])
      refine oS (i := 9) (preB 10 7) rfl hHeld ?_
      (try simp only [Act.put, putS])
      refine oS (i := 10) (preB 11 6) rfl hHeld ?_
      (try simp only [Act.put, putS])
      refine oS (i := 11) (preB 12 5) rfl hHeld ?_
      (try simp only [Act.put, putS])
      refine oS (i := 12) (preB 13 4) rfl hHeld ?_
      (try simp only [Act.put, putS])
      refine oS (i := 13) (preB 14 3) rfl hHeld ?_
      (try simp only [Act.put, putS])
      refine oS (i := 14) (preB 15 2) rfl hHeld ?_
      (try simp only [Act.put, putS])
      refine oS (i := 15) (preB 16 1) rfl hHeld ?_
      (try simp only [Act.put, putS])
      refine oS (i := 16) (preB 17 0) rfl hHeld ?_
      (try simp only [Act.put, putS])
      refine wpAnyH_done (by kernel_rfl) ?_ _
      go_wp2_with fail
      go_roundw
      case rel => exact ⟨j + 1, HJT.out, by go_num, HJ.out.trans belT⟩
      case measure => have := HJT.out; simp [intOf]; omega
     rcases Bool.eq_false_or_eq_true (s5.toList == s2.toList) with q2 | q2
     ·
      go_wp2_with fail
      refine ord_start (SB (wr.heap.size) [] _) 17 (preB 0 17) (by kernel_rfl) (by kernel_rfl) (by kernel_rfl) SB.refl.drew (fun hHeld => ?_)
      refine oS (i := 0) (preB 1 16) rfl hHeld ?_
      (try simp only [Act.put, putS])
      refine oS (i := 1) (preB 2 15) rfl hHeld ?_
      (try simp only [Act.put, putS])
      refine oS (i := 2) (preB 3 14) rfl hHeld ?_
      (try simp only [Act.put, putS])
      refine oS (i := 3) (preB 4 13) rfl hHeld ?_
      (try simp only [Act.put, putS])
      refine oS (i := 4) (preB 5 12) rfl hHeld ?_
      (try simp only [Act.put, putS])
      refine oS (i := 5) (preB 6 11) rfl hHeld ?_
      (try simp only [Act.put, putS])
      refine oS (i := 6) (preB 7 10) rfl hHeld ?_
      (try simp only [Act.put, putS])
      refine oS (i := 7) (preB 8 9) rfl hHeld ?_
      (try simp only [Act.put, putS])
      refine oS (i := 8) (preB 9 8) rfl hHeld ?_
      (try simp only [Act.put, putS])
      refine oS (i := 9) (preB 10 7) rfl hHeld ?_
      (try simp only [Act.put, putS])
      refine oS (i := 10) (preB 11 6) rfl hHeld ?_
      (try simp only [Act.put, putS])
      refine oS (i := 11) (preB 12 5) rfl hHeld ?_
      (try simp only [Act.put, putS])
      refine oS (i := 12) (preB 13 4) rfl hHeld ?_
      (try simp only [Act.put, putS])
      refine oS (i := 13) (preB 14 3) rfl hHeld ?_
      (try simp only [Act.put, putS])
      refine oS (i := 14) (preB 15 2) rfl hHeld ?_
      (try simp only [Act.put, putS])
      refine oS (i := 15) (preB 16 1) rfl hHeld ?_
      (try simp only [Act.put, putS])
      refine oS (i := 16) (preB 17 0) rfl hHeld ?_
      (try simp only [Act.put, putS])
      refine wpAnyH_done (by kernel_rfl) ?_ _
      obtain ⟨M, hr1, hr3⟩ := (HM.out.below HJ.out).cut HJM.out
      have HR1 := hide hr1
      have HR3 := hide (show ∀ m', m' = m - (j + 1) → RowS wr (if p = j + 1 then some ⟨b5, o5, none⟩ else some ⟨b5, o5 + (j + 1) * 2, none⟩) m' 2 (monC (fun i => M (j + 1 + i))) from fun m' hm' => by
       by_cases hp : p = j + 1
       ·rw [if_pos hp]; intro h0; omega
       ·rw [if_neg hp]; exact hr3 (j + 1) HJT.out _ _ rfl m' hm')
      have HJC := HJT
      clear hr1 hr3
      have HO0 := hide (show ∀ W : World, W.ownsRow wr.heap.size 128 2 (.slice none 0 0) 0 (mons []) from fun _ => ⟨rfl, .inl ⟨rfl, rfl⟩⟩)
      go_wp2_with (at_builtin; go_loud (refine wpList_append_rowS _ rfl (.tmp 33) (.tmp 36) 125 rfl wr.heap.size 128 i0 (.agg #[.string ⟨#[]⟩, .int .i64 0]) 2 24 Tryz.underlying125 hi0 hz00 hz1 hz2 rfl (by decide) _ _ _ rfl (HO0.out _) _ j _ rfl _ (HR1.out.below belT) (mons ((List.range j).map M)) (by rw [mons_len]; simp) (mons_rng M j) (mons_ones _) (by have := HJM.out; simp only [maxLen]; omega) (by have := HJM.out; omega) (by first | omega | (simp <;> omega)) ?_; intro A1 c1x w1 ho1 hg1 hv1; have hs1 := hg1.size; (try simp at hs1); have B1 := hide (show Below wr.heap.size wr w1 from Below.trans (by (repeat (first | (with_reducible first | exact Below.refl _ _ | assumption | refine Below.drew ?_) | ((with_reducible first | refine Below.alloc ?_ ?_ _ | refine Below.setCell ?_ ?_ _); rotate_left; (first | omega | (simp <;> omega))))) : Below wr.heap.size wr _) (below_grown (B := wr.heap.size) hg1 (by first | omega | (simp <;> omega)) (fun k hk => by cases hk))); rw [Nat.zero_add] at ho1; have HO1 := hide (show w1.ownsRow wr.heap.size 128 2 (.slice A1 j c1x) j (mons ((List.range j).map M)) from ho1); have x1 := (B1.out.cell (p := ⟨b, off + k * 3 + 1, none⟩) hbr).trans d1; have x2 := (B1.out.cell (p := ⟨b, off + k * 3 + 2, none⟩) hbr).trans d2; have x3 := (B1.out.cell (p := ⟨b5, o5 + j * 2, none⟩) hb5).trans f0; have x4 := (B1.out.cell (p := ⟨b5, o5 + j * 2 + 1, none⟩) hb5).trans f1; have hb51 : b5 < w1.heap.size := Nat.lt_of_lt_of_le hb5 B1.out.size; have hbr1 : b < w1.heap.size := Nat.lt_of_lt_of_le hbr B1.out.size; clear ho1 hg1 hv1))
      refine ord_start (SB (w1.heap.size) [] _) 17 (preB 0 17) (by kernel_rfl) (by kernel_rfl) (by kernel_rfl) SB.refl.drew (fun hHeld => ?_)
      refine oS (i := 0) (preB 1 16) rfl hHeld ?_
      (try simp only [Act.put, putS])
      refine oS (i := 1) (preB 2 15) rfl hHeld ?_
      (try simp only [Act.put, putS])
      refine oS (i := 2) (preB 3 14) rfl hHeld ?_
      (try simp only [Act.put, putS])
      refine oS (i := 3) (preB 4 13) rfl hHeld ?_
      (try simp only [Act.put, putS])
      refine oS (i := 4) (preB 5 12) rfl hHeld ?_
      (try simp only [Act.put, putS])
      refine oS (i := 5) (preB 6 11) rfl hHeld ?_
      (try simp only [Act.put, putS])
      refine oS (i := 6) (preB 7 10) rfl hHeld ?_
      (try simp only [Act.put, putS])
      refine oS (i := 7) (preB 8 9) rfl hHeld ?_
      (try simp only [Act.put, putS])
      refine oS (i := 8) (preB 9 8) rfl hHeld ?_
      (try simp only [Act.put, putS])
      refine oS (i := 9) (preB 10 7) rfl hHeld ?_
      (try simp only [Act.put, putS])
      refine oS (i := 10) (preB 11 6) rfl hHeld ?_
      (try simp only [Act.put, putS])
      refine oS (i := 11) (preB 12 5) rfl hHeld ?_
      (try simp only [Act.put, putS])
      refine oS (i := 12) (preB 13 4) rfl hHeld ?_
      (try simp only [Act.put, putS])
      refine oS (i := 13) (preB 14 3) rfl hHeld ?_
      (try simp only [Act.put, putS])
      refine oS (i := 14) (preB 15 2) rfl hHeld ?_
      (try simp only [Act.put, putS])
      refine oS (i := 15) (preB 16 1) rfl hHeld ?_
      (try simp only [Act.put, putS])
      refine oS (i := 16) (preB 17 0) rfl hHeld ?_
      (try simp only [Act.put, putS])
      refine wpAnyH_done (by kernel_rfl) ?_ _
      go_wp2_with (at_builtin; first
       | (refine wpList_append_own2 _ rfl (.tmp 69) (.tmp 77) 125 rfl wr.heap.size 128 i0 (.agg #[.string ⟨#[]⟩, .int .i64 0]) 2 24 Tryz.underlying125 hi0 hz00 hz1 hz2 rfl (by decide) _ _ _ rfl (HO1.out.drew.alloc _) ⟨w1.heap.size, 0, none⟩ 1 1 (mons [(s2, _)]) rfl rfl (news_cells (blk_new rfl)) (mons_ones _) (by have := HJM.out; simp only [maxLen]; omega) (by have := HJM.out; omega) (by first | omega | (simp <;> omega)) ?_; intro A2 c2x w2 ho2 hg2 hv2; have hs2 := hg2.size; (try simp at hs2); have B2 := hide (show Below wr.heap.size wr w2 from B1.out.trans (Below.trans (by (repeat (first | (with_reducible first | exact Below.refl _ _ | assumption | refine Below.drew ?_) | ((with_reducible first | refine Below.alloc ?_ ?_ _ | refine Below.setCell ?_ ?_ _); rotate_left; (first | omega | (simp <;> omega))))) : Below wr.heap.size w1 _) (below_grown (B := wr.heap.size) hg2 (by first | omega | (simp <;> omega)) (own_ge HO1.out)))); have HO2 := hide ho2; clear ho2 hg2 hv2)
       | go_loud (refine wpList_append_rowS _ rfl (.tmp 79) (.tmp 82) 125 rfl wr.heap.size 128 i0 (.agg #[.string ⟨#[]⟩, .int .i64 0]) 2 24 Tryz.underlying125 hi0 hz00 hz1 hz2 rfl (by decide) _ _ _ rfl HO2.out _ _ _ rfl _ ((HR3.out _ (by omega)).below B2.out) (mons ((List.range (m - (j + 1))).map (fun i => M ((j + 1) + i)))) (by rw [mons_len]; simp) (mons_rng (fun i => M ((j + 1) + i)) (m - (j + 1))) (mons_ones _) (by have := HJM.out; simp only [maxLen]; omega) (by have := HJM.out; omega) (by omega) ?_; intro A3 c3x w3 ho3 hg3 hv3; have hs3 := hg3.size; have B3 := hide (B2.out.trans (below_grown (B := wr.heap.size) hg3 (by omega) (own_ge HO2.out))); have HO3 := hide ho3; clear ho3 hg3 hv3))
      all_goals
       obtain ⟨sm, hw3⟩ : ∃ sm : Int, w3.ownsRow wr.heap.size 128 2 (.slice A3 (j + 1 + (m - (j + 1))) c3x) (j + 1 + (m - (j + 1))) (mons (((List.range j).map M ++ [(s2, sm)]) ++ (List.range (m - (j + 1))).map (fun i => M ((j + 1) + i)))) := ⟨_, by rw [mons_app, mons_app]; exact HO3.out⟩
       obtain ⟨e1, e2⟩ := own_mrow hw3
       go_roundw
       case rel => exact ⟨k + 1, _, c3x, A3, HLT.out, by go_num, rfl, by have h1 := HJM.out; have h2 := HMK.out; have h3 := HJC.out; omega, e1, e2, H0.out.trans ((HJ.out.trans (B3.out.mono HJ.out.size)).mono H0.out.size)⟩
       case measure => have := HLT.out; simp [intOf]; omega
     ·
      go_wp2_with fail
      refine ord_start (SB (wr.heap.size) [] _) 17 (preB 0 17) (by kernel_rfl) (by kernel_rfl) (by kernel_rfl) SB.refl.drew (fun hHeld => ?_)
      refine oS (i := 0) (preB 1 16) rfl hHeld ?_
      (try simp only [Act.put, putS])
      refine oS (i := 1) (preB 2 15) rfl hHeld ?_
      (try simp only [Act.put, putS])
      refine oS (i := 2) (preB 3 14) rfl hHeld ?_
      (try simp only [Act.put, putS])
      refine oS (i := 3) (preB 4 13) rfl hHeld ?_
      (try simp only [Act.put, putS])
      refine oS (i := 4) (preB 5 12) rfl hHeld ?_
      (try simp only [Act.put, putS])
      refine oS (i := 5) (preB 6 11) rfl hHeld ?_
      (try simp only [Act.put, putS])
      refine oS (i := 6) (preB 7 10) rfl hHeld ?_
      (try simp only [Act.put, putS])
      refine oS (i := 7) (preB 8 9) rfl hHeld ?_
      (try simp only [Act.put, putS])
      refine oS (i := 8) (preB 9 8) rfl hHeld ?_
      (try simp only [Act.put, putS])
      refine oS (i := 9) (preB 10 7) rfl hHeld ?_
      (try simp only [Act.put, putS])
      refine oS (i := 10) (preB 11 6) rfl hHeld ?_
      (try simp only [Act.put, putS])
      refine oS (i := 11) (preB 12 5) rfl hHeld ?_
      (try simp only [Act.put, putS])
      refine oS (i := 12) (preB 13 4) rfl hHeld ?_
      (try simp only [Act.put, putS])
      refine oS (i := 13) (preB 14 3) rfl hHeld ?_
      (try simp only [Act.put, putS])
      refine oS (i := 14) (preB 15 2) rfl hHeld ?_
      (try simp only [Act.put, putS])
      refine oS (i := 15) (preB 16 1) rfl hHeld ?_
      (try simp only [Act.put, putS])
      refine oS (i := 16) (preB 17 0) rfl hHeld ?_
      (try simp only [Act.put, putS])
      refine wpAnyH_done (by kernel_rfl) ?_ _
      obtain ⟨M, hr1, hr3⟩ := (HM.out.below HJ.out).cut HJM.out
      have HR1 := hide hr1
      have HR3 := hide (hr3 j HJM.out b5 o5 rfl)
      have HJC := HJM
      clear hr1 hr3
      have HO0 := hide (show ∀ W : World, W.ownsRow wr.heap.size 128 2 (.slice none 0 0) 0 (mons []) from fun _ => ⟨rfl, .inl ⟨rfl, rfl⟩⟩)
      go_wp2_with (at_builtin; go_loud (refine wpList_append_rowS _ rfl (.tmp 33) (.tmp 36) 125 rfl wr.heap.size 128 i0 (.agg #[.string ⟨#[]⟩, .int .i64 0]) 2 24 Tryz.underlying125 hi0 hz00 hz1 hz2 rfl (by decide) _ _ _ rfl (HO0.out _) _ j _ rfl _ (HR1.out.below belT) (mons ((List.range j).map M)) (by rw [mons_len]; simp) (mons_rng M j) (mons_ones _) (by have := HJM.out; simp only [maxLen]; omega) (by have := HJM.out; omega) (by first | omega | (simp <;> omega)) ?_; intro A1 c1x w1 ho1 hg1 hv1; have hs1 := hg1.size; (try simp at hs1); have B1 := hide (show Below wr.heap.size wr w1 from Below.trans (by (repeat (first | (with_reducible first | exact Below.refl _ _ | assumption | refine Below.drew ?_) | ((with_reducible first | refine Below.alloc ?_ ?_ _ | refine Below.setCell ?_ ?_ _); rotate_left; (first | omega | (simp <;> omega))))) : Below wr.heap.size wr _) (below_grown (B := wr.heap.size) hg1 (by first | omega | (simp <;> omega)) (fun k hk => by cases hk))); rw [Nat.zero_add] at ho1; have HO1 := hide (show w1.ownsRow wr.heap.size 128 2 (.slice A1 j c1x) j (mons ((List.range j).map M)) from ho1); have x1 := (B1.out.cell (p := ⟨b, off + k * 3 + 1, none⟩) hbr).trans d1; have x2 := (B1.out.cell (p := ⟨b, off + k * 3 + 2, none⟩) hbr).trans d2; have x3 := (B1.out.cell (p := ⟨b5, o5 + j * 2, none⟩) hb5).trans f0; have x4 := (B1.out.cell (p := ⟨b5, o5 + j * 2 + 1, none⟩) hb5).trans f1; have hb51 : b5 < w1.heap.size := Nat.lt_of_lt_of_le hb5 B1.out.size; have hbr1 : b < w1.heap.size := Nat.lt_of_lt_of_le hbr B1.out.size; clear ho1 hg1 hv1))
      refine ord_start (SB (w1.heap.size) [] _) 17 (preB 0 17) (by kernel_rfl) (by kernel_rfl) (by kernel_rfl) SB.refl.drew (fun hHeld => ?_)
      refine oS (i := 0) (preB 1 16) rfl hHeld ?_
      (try simp only [Act.put, putS])
      refine oS (i := 1) (preB 2 15) rfl hHeld ?_
      (try simp only [Act.put, putS])
      refine oS (i := 2) (preB 3 14) rfl hHeld ?_
      (try simp only [Act.put, putS])
      refine oS (i := 3) (preB 4 13) rfl hHeld ?_
      (try simp only [Act.put, putS])
      refine oS (i := 4) (preB 5 12) rfl hHeld ?_
      (try simp only [Act.put, putS])
      refine oS (i := 5) (preB 6 11) rfl hHeld ?_
      (try simp only [Act.put, putS])
      refine oS (i := 6) (preB 7 10) rfl hHeld ?_
      (try simp only [Act.put, putS])
      refine oS (i := 7) (preB 8 9) rfl hHeld ?_
      (try simp only [Act.put, putS])
      refine oS (i := 8) (preB 9 8) rfl hHeld ?_
      (try simp only [Act.put, putS])
      refine oS (i := 9) (preB 10 7) rfl hHeld ?_
      (try simp only [Act.put, putS])
      refine oS (i := 10) (preB 11 6) rfl hHeld ?_
      (try simp only [Act.put, putS])
      refine oS (i := 11) (preB 12 5) rfl hHeld ?_
      (try simp only [Act.put, putS])
      refine oS (i := 12) (preB 13 4) rfl hHeld ?_
      (try simp only [Act.put, putS])
      refine oS (i := 13) (preB 14 3) rfl hHeld ?_
      (try simp only [Act.put, putS])
      refine oS (i := 14) (preB 15 2) rfl hHeld ?_
      (try simp only [Act.put, putS])
      refine oS (i := 15) (preB 16 1) rfl hHeld ?_
      (try simp only [Act.put, putS])
      refine oS (i := 16) (preB 17 0) rfl hHeld ?_
      (try simp only [Act.put, putS])
      refine wpAnyH_done (by kernel_rfl) ?_ _
      go_wp2_with (at_builtin; first
       | (refine wpList_append_own2 _ rfl (.tmp 69) (.tmp 77) 125 rfl wr.heap.size 128 i0 (.agg #[.string ⟨#[]⟩, .int .i64 0]) 2 24 Tryz.underlying125 hi0 hz00 hz1 hz2 rfl (by decide) _ _ _ rfl (HO1.out.drew.alloc _) ⟨w1.heap.size, 0, none⟩ 1 1 (mons [(s2, _)]) rfl rfl (news_cells (blk_new rfl)) (mons_ones _) (by have := HJM.out; simp only [maxLen]; omega) (by have := HJM.out; omega) (by first | omega | (simp <;> omega)) ?_; intro A2 c2x w2 ho2 hg2 hv2; have hs2 := hg2.size; (try simp at hs2); have B2 := hide (show Below wr.heap.size wr w2 from B1.out.trans (Below.trans (by (repeat (first | (with_reducible first | exact Below.refl _ _ | assumption | refine Below.drew ?_) | ((with_reducible first | refine Below.alloc ?_ ?_ _ | refine Below.setCell ?_ ?_ _); rotate_left; (first | omega | (simp <;> omega))))) : Below wr.heap.size w1 _) (below_grown (B := wr.heap.size) hg2 (by first | omega | (simp <;> omega)) (own_ge HO1.out)))); have HO2 := hide ho2; clear ho2 hg2 hv2)
       | go_loud (refine wpList_append_rowS _ rfl (.tmp 79) (.tmp 82) 125 rfl wr.heap.size 128 i0 (.agg #[.string ⟨#[]⟩, .int .i64 0]) 2 24 Tryz.underlying125 hi0 hz00 hz1 hz2 rfl (by decide) _ _ _ rfl HO2.out _ _ _ rfl _ ((HR3.out _ (by omega)).below B2.out) (mons ((List.range (m - j)).map (fun i => M (j + i)))) (by rw [mons_len]; simp) (mons_rng (fun i => M (j + i)) (m - j)) (mons_ones _) (by have := HJM.out; simp only [maxLen]; omega) (by have := HJM.out; omega) (by omega) ?_; intro A3 c3x w3 ho3 hg3 hv3; have hs3 := hg3.size; have B3 := hide (B2.out.trans (below_grown (B := wr.heap.size) hg3 (by omega) (own_ge HO2.out))); have HO3 := hide ho3; clear ho3 hg3 hv3))
      all_goals
       obtain ⟨sm, hw3⟩ : ∃ sm : Int, w3.ownsRow wr.heap.size 128 2 (.slice A3 (j + 1 + (m - j)) c3x) (j + 1 + (m - j)) (mons (((List.range j).map M ++ [(s2, sm)]) ++ (List.range (m - j)).map (fun i => M (j + i)))) := ⟨_, by rw [mons_app, mons_app]; exact HO3.out⟩
       obtain ⟨e1, e2⟩ := own_mrow hw3
       go_roundw
       case rel => exact ⟨k + 1, _, c3x, A3, HLT.out, by go_num, rfl, by have h1 := HJM.out; have h2 := HMK.out; have h3 := HJC.out; omega, e1, e2, H0.out.trans ((HJ.out.trans (B3.out.mono HJ.out.size)).mono H0.out.size)⟩
       case measure => have := HLT.out; simp [intOf]; omega
    ·have dj : decide ((j : Int) < m) = false := decide_eq_false (by omega)
     have dj2 : decide (j < m) = false := decide_eq_false hjt
     have HJT := hide hjt
     clear hjt hj hb
     go_wp2_with fail
     refine ord_start (SB (wr.heap.size) [] _) 17 (preB 0 17) (by kernel_rfl) (by kernel_rfl) (by kernel_rfl) SB.refl.drew (fun hHeld => ?_)
     refine oS (i := 0) (preB 1 16) rfl hHeld ?_
     (try simp only [Act.put, putS])
     refine oS (i := 1) (preB 2 15) rfl hHeld ?_
     (try simp only [Act.put, putS])
     refine oS (i := 2) (preB 3 14) rfl hHeld ?_
     (try simp only [Act.put, putS])
     refine oS (i := 3) (preB 4 13) rfl hHeld ?_
     (try simp only [Act.put, putS])
     refine oS (i := 4) (preB 5 12) rfl hHeld ?_
     (try simp only [Act.put, putS])
     refine ord_skip (i := 5) (preB 6 11) rfl (by kernel_rfl) (by kernel_rfl) (by kernel_rfl) (by kernel_rfl) (fun _ _ _ h => h) hHeld (by rfl) ?_
     (try simp only [Act.put, putS])
     refine ord_skip (i := 6) (preB 7 10) rfl (by kernel_rfl) (by kernel_rfl) (by kernel_rfl) (by kernel_rfl) (fun _ _ _ h => h) hHeld (by rfl) ?_
     (try simp only [Act.put, putS])
     refine ord_skip (i := 7) (preB 8 9) rfl (by kernel_rfl) (by kernel_rfl) (by kernel_rfl) (by kernel_rfl) (fun _ _ _ h => h) hHeld (by rfl) ?_
     (try simp only [Act.put, putS])
     refine ord_skip (i := 8) (preB 9 8) rfl (by kernel_rfl) (by kernel_rfl) (by kernel_rfl) (by kernel_rfl) (fun _ _ _ h => h) hHeld (by rfl) ?_
     (try simp only [Act.put, putS])
     refine ord_skip (i := 9) (preB 10 7) rfl (by kernel_rfl) (by kernel_rfl) (by kernel_rfl) (by kernel_rfl) (fun _ _ _ h => h) hHeld (by rfl) ?_
     (try simp only [Act.put, putS])
     refine ord_skip (i := 10) (preB 11 6) rfl (by kernel_rfl) (by kernel_rfl) (by kernel_rfl) (by kernel_rfl) (fun _ _ _ h => h) hHeld (by rfl) ?_
     (try simp only [Act.put, putS])
     refine ord_skip (i := 11) (preB 12 5) rfl (by kernel_rfl) (by kernel_rfl) (by kernel_rfl) (by kernel_rfl) (fun _ _ _ h => h) hHeld (by rfl) ?_
     (try simp only [Act.put, putS])
     refine ord_skip (i := 12) (preB 13 4) rfl (by kernel_rfl) (by kernel_rfl) (by kernel_rfl) (by kernel_rfl) (fun _ _ _ h => h) hHeld (by rfl) ?_
     (try simp only [Act.put, putS])
     refine ord_skip (i := 13) (preB 14 3) rfl (by kernel_rfl) (by kernel_rfl) (by kernel_rfl) (by kernel_rfl) (fun _ _ _ h => h) hHeld (by rfl) ?_
     (try simp only [Act.put, putS])
     refine ord_skip (i := 14) (preB 15 2) rfl (by kernel_rfl) (by kernel_rfl) (by kernel_rfl) (by kernel_rfl) (fun _ _ _ h => h) hHeld (by rfl) ?_
     (try simp only [Act.put, putS])
     refine ord_skip (i := 15) (preB 16 1) rfl (by kernel_rfl) (by kernel_rfl) (by kernel_rfl) (by kernel_rfl) (fun _ _ _ h => h) hHeld (by rfl) ?_
     (try simp only [Act.put, putS])
     refine oS (i := 16) (preB 17 0) rfl hHeld ?_
     (try simp only [Act.put, putS])
     refine wpAnyH_done (by kernel_rfl) ?_ _
     obtain ⟨M, hr1, hr3⟩ := (HM.out.below HJ.out).cut HJM.out
     have HR1 := hide hr1
     have HJC := HJM
     rcases HM.out.1 with ⟨rfl, h0⟩ | ⟨b5, o5, rfl⟩
     ·have HR3 := hide (show ∀ m', m' = m - j → RowS wr none m' 2 (monC (fun i => M (j + i))) from fun m' hm' h1 => by omega)
      clear hr1 hr3 h0
      have HO0 := hide (show ∀ W : World, W.ownsRow wr.heap.size 128 2 (.slice none 0 0) 0 (mons []) from fun _ => ⟨rfl, .inl ⟨rfl, rfl⟩⟩)
      go_wp2_with (at_builtin; go_loud (refine wpList_append_rowS _ rfl (.tmp 33) (.tmp 36) 125 rfl wr.heap.size 128 i0 (.agg #[.string ⟨#[]⟩, .int .i64 0]) 2 24 Tryz.underlying125 hi0 hz00 hz1 hz2 rfl (by decide) _ _ _ rfl (HO0.out _) _ j _ rfl _ (HR1.out.below belT) (mons ((List.range j).map M)) (by rw [mons_len]; simp) (mons_rng M j) (mons_ones _) (by have := HJM.out; simp only [maxLen]; omega) (by have := HJM.out; omega) (by first | omega | (simp <;> omega)) ?_; intro A1 c1x w1 ho1 hg1 hv1; have hs1 := hg1.size; (try simp at hs1); have B1 := hide (show Below wr.heap.size wr w1 from Below.trans (by (repeat (first | (with_reducible first | exact Below.refl _ _ | assumption | refine Below.drew ?_) | ((with_reducible first | refine Below.alloc ?_ ?_ _ | refine Below.setCell ?_ ?_ _); rotate_left; (first | omega | (simp <;> omega))))) : Below wr.heap.size wr _) (below_grown (B := wr.heap.size) hg1 (by first | omega | (simp <;> omega)) (fun k hk => by cases hk))); rw [Nat.zero_add] at ho1; have HO1 := hide (show w1.ownsRow wr.heap.size 128 2 (.slice A1 j c1x) j (mons ((List.range j).map M)) from ho1); have x1 := (B1.out.cell (p := ⟨b, off + k * 3 + 1, none⟩) hbr).trans d1; have x2 := (B1.out.cell (p := ⟨b, off + k * 3 + 2, none⟩) hbr).trans d2; have hbr1 : b < w1.heap.size := Nat.lt_of_lt_of_le hbr B1.out.size; clear ho1 hg1 hv1))
      refine ord_start (SB (w1.heap.size) [] _) 17 (preB 0 17) (by kernel_rfl) (by kernel_rfl) (by kernel_rfl) SB.refl.drew (fun hHeld => ?_)
      refine oS (i := 0) (preB 1 16) rfl hHeld ?_
      (try simp only [Act.put, putS])
      refine oS (i := 1) (preB 2 15) rfl hHeld ?_
      (try simp only [Act.put, putS])
      refine oS (i := 2) (preB 3 14) rfl hHeld ?_
      (try simp only [Act.put, putS])
      refine oS (i := 3) (preB 4 13) rfl hHeld ?_
      (try simp only [Act.put, putS])
      refine oS (i := 4) (preB 5 12) rfl hHeld ?_
      (try simp only [Act.put, putS])
      refine ord_skip (i := 5) (preB 6 11) rfl (by kernel_rfl) (by kernel_rfl) (by kernel_rfl) (by kernel_rfl) (fun _ _ _ h => h) hHeld (by rfl) ?_
      (try simp only [Act.put, putS])
      refine ord_skip (i := 6) (preB 7 10) rfl (by kernel_rfl) (by kernel_rfl) (by kernel_rfl) (by kernel_rfl) (fun _ _ _ h => h) hHeld (by rfl) ?_
      (try simp only [Act.put, putS])
      refine ord_skip (i := 7) (preB 8 9) rfl (by kernel_rfl) (by kernel_rfl) (by kernel_rfl) (by kernel_rfl) (fun _ _ _ h => h) hHeld (by rfl) ?_
      (try simp only [Act.put, putS])
      refine ord_skip (i := 8) (preB 9 8) rfl (by kernel_rfl) (by kernel_rfl) (by kernel_rfl) (by kernel_rfl) (fun _ _ _ h => h) hHeld (by rfl) ?_
      (try simp only [Act.put, putS])
      refine ord_skip (i := 9) (preB 10 7) rfl (by kernel_rfl) (by kernel_rfl) (by kernel_rfl) (by kernel_rfl) (fun _ _ _ h => h) hHeld (by rfl) ?_
      (try simp only [Act.put, putS])
      refine ord_skip (i := 10) (preB 11 6) rfl (by kernel_rfl) (by kernel_rfl) (by kernel_rfl) (by kernel_rfl) (fun _ _ _ h => h) hHeld (by rfl) ?_
      (try simp only [Act.put, putS])
      refine ord_skip (i := 11) (preB 12 5) rfl (by kernel_rfl) (by kernel_rfl) (by kernel_rfl) (by kernel_rfl) (fun _ _ _ h => h) hHeld (by rfl) ?_
      (try simp only [Act.put, putS])
      refine ord_skip (i := 12) (preB 13 4) rfl (by kernel_rfl) (by kernel_rfl) (by kernel_rfl) (by kernel_rfl) (fun _ _ _ h => h) hHeld (by rfl) ?_
      (try simp only [Act.put, putS])
      refine ord_skip (i := 13) (preB 14 3) rfl (by kernel_rfl) (by kernel_rfl) (by kernel_rfl) (by kernel_rfl) (fun _ _ _ h => h) hHeld (by rfl) ?_
      (try simp only [Act.put, putS])
      refine ord_skip (i := 14) (preB 15 2) rfl (by kernel_rfl) (by kernel_rfl) (by kernel_rfl) (by kernel_rfl) (fun _ _ _ h => h) hHeld (by rfl) ?_
      (try simp only [Act.put, putS])
      refine ord_skip (i := 15) (preB 16 1) rfl (by kernel_rfl) (by kernel_rfl) (by kernel_rfl) (by kernel_rfl) (fun _ _ _ h => h) hHeld (by rfl) ?_
      (try simp only [Act.put, putS])
      refine oS (i := 16) (preB 17 0) rfl hHeld ?_
      (try simp only [Act.put, putS])
      refine wpAnyH_done (by kernel_rfl) ?_ _
      go_wp2_with (at_builtin; first
       | (refine wpList_append_own2 _ rfl (.tmp 69) (.tmp 77) 125 rfl wr.heap.size 128 i0 (.agg #[.string ⟨#[]⟩, .int .i64 0]) 2 24 Tryz.underlying125 hi0 hz00 hz1 hz2 rfl (by decide) _ _ _ rfl (HO1.out.drew.alloc _) ⟨w1.heap.size, 0, none⟩ 1 1 (mons [(s2, _)]) rfl rfl (news_cells (blk_new rfl)) (mons_ones _) (by have := HJM.out; simp only [maxLen]; omega) (by have := HJM.out; omega) (by first | omega | (simp <;> omega)) ?_; intro A2 c2x w2 ho2 hg2 hv2; have hs2 := hg2.size; (try simp at hs2); have B2 := hide (show Below wr.heap.size wr w2 from B1.out.trans (Below.trans (by (repeat (first | (with_reducible first | exact Below.refl _ _ | assumption | refine Below.drew ?_) | ((with_reducible first | refine Below.alloc ?_ ?_ _ | refine Below.setCell ?_ ?_ _); rotate_left; (first | omega | (simp <;> omega))))) : Below wr.heap.size w1 _) (below_grown (B := wr.heap.size) hg2 (by first | omega | (simp <;> omega)) (own_ge HO1.out)))); have HO2 := hide ho2; clear ho2 hg2 hv2)
       | go_loud (refine wpList_append_rowS _ rfl (.tmp 79) (.tmp 82) 125 rfl wr.heap.size 128 i0 (.agg #[.string ⟨#[]⟩, .int .i64 0]) 2 24 Tryz.underlying125 hi0 hz00 hz1 hz2 rfl (by decide) _ _ _ rfl HO2.out _ _ _ rfl _ ((HR3.out _ (by omega)).below B2.out) (mons ((List.range (m - j)).map (fun i => M (j + i)))) (by rw [mons_len]; simp) (mons_rng (fun i => M (j + i)) (m - j)) (mons_ones _) (by have := HJM.out; simp only [maxLen]; omega) (by have := HJM.out; omega) (by omega) ?_; intro A3 c3x w3 ho3 hg3 hv3; have hs3 := hg3.size; have B3 := hide (B2.out.trans (below_grown (B := wr.heap.size) hg3 (by omega) (own_ge HO2.out))); have HO3 := hide ho3; clear ho3 hg3 hv3))
      all_goals
       obtain ⟨sm, hw3⟩ : ∃ sm : Int, w3.ownsRow wr.heap.size 128 2 (.slice A3 (j + 1 + (m - j)) c3x) (j + 1 + (m - j)) (mons (((List.range j).map M ++ [(s2, sm)]) ++ (List.range (m - j)).map (fun i => M (j + i)))) := ⟨_, by rw [mons_app, mons_app]; exact HO3.out⟩
       obtain ⟨e1, e2⟩ := own_mrow hw3
       go_roundw
       case rel => exact ⟨k + 1, _, c3x, A3, HLT.out, by go_num, rfl, by have h1 := HJM.out; have h2 := HMK.out; have h3 := HJC.out; omega, e1, e2, H0.out.trans ((HJ.out.trans (B3.out.mono HJ.out.size)).mono H0.out.size)⟩
       case measure => have := HLT.out; simp [intOf]; omega
     ·have HR3 := hide (show ∀ m', m' = m - j → RowS wr (if p = j then some ⟨b5, o5, none⟩ else some ⟨b5, o5 + j * 2, none⟩) m' 2 (monC (fun i => M (j + i))) from fun m' hm' h1 => by have := HJT.out; omega)
      clear hr1 hr3
      have HO0 := hide (show ∀ W : World, W.ownsRow wr.heap.size 128 2 (.slice none 0 0) 0 (mons []) from fun _ => ⟨rfl, .inl ⟨rfl, rfl⟩⟩)
      go_wp2_with (at_builtin; go_loud (refine wpList_append_rowS _ rfl (.tmp 33) (.tmp 36) 125 rfl wr.heap.size 128 i0 (.agg #[.string ⟨#[]⟩, .int .i64 0]) 2 24 Tryz.underlying125 hi0 hz00 hz1 hz2 rfl (by decide) _ _ _ rfl (HO0.out _) _ j _ rfl _ (HR1.out.below belT) (mons ((List.range j).map M)) (by rw [mons_len]; simp) (mons_rng M j) (mons_ones _) (by have := HJM.out; simp only [maxLen]; omega) (by have := HJM.out; omega) (by first | omega | (simp <;> omega)) ?_; intro A1 c1x w1 ho1 hg1 hv1; have hs1 := hg1.size; (try simp at hs1); have B1 := hide (show Below wr.heap.size wr w1 from Below.trans (by (repeat (first | (with_reducible first | exact Below.refl _ _ | assumption | refine Below.drew ?_) | ((with_reducible first | refine Below.alloc ?_ ?_ _ | refine Below.setCell ?_ ?_ _); rotate_left; (first | omega | (simp <;> omega))))) : Below wr.heap.size wr _) (below_grown (B := wr.heap.size) hg1 (by first | omega | (simp <;> omega)) (fun k hk => by cases hk))); rw [Nat.zero_add] at ho1; have HO1 := hide (show w1.ownsRow wr.heap.size 128 2 (.slice A1 j c1x) j (mons ((List.range j).map M)) from ho1); have x1 := (B1.out.cell (p := ⟨b, off + k * 3 + 1, none⟩) hbr).trans d1; have x2 := (B1.out.cell (p := ⟨b, off + k * 3 + 2, none⟩) hbr).trans d2; have hbr1 : b < w1.heap.size := Nat.lt_of_lt_of_le hbr B1.out.size; clear ho1 hg1 hv1))
      refine ord_start (SB (w1.heap.size) [] _) 17 (preB 0 17) (by kernel_rfl) (by kernel_rfl) (by kernel_rfl) SB.refl.drew (fun hHeld => ?_)
      refine oS (i := 0) (preB 1 16) rfl hHeld ?_
      (try simp only [Act.put, putS])
      refine oS (i := 1) (preB 2 15) rfl hHeld ?_
      (try simp only [Act.put, putS])
      refine oS (i := 2) (preB 3 14) rfl hHeld ?_
      (try simp only [Act.put, putS])
      refine oS (i := 3) (preB 4 13) rfl hHeld ?_
      (try simp only [Act.put, putS])
      refine oS (i := 4) (preB 5 12) rfl hHeld ?_
      (try simp only [Act.put, putS])
      refine ord_skip (i := 5) (preB 6 11) rfl (by kernel_rfl) (by kernel_rfl) (by kernel_rfl) (by kernel_rfl) (fun _ _ _ h => h) hHeld (by rfl) ?_
      (try simp only [Act.put, putS])
      refine ord_skip (i := 6) (preB 7 10) rfl (by kernel_rfl) (by kernel_rfl) (by kernel_rfl) (by kernel_rfl) (fun _ _ _ h => h) hHeld (by rfl) ?_
      (try simp only [Act.put, putS])
      refine ord_skip (i := 7) (preB 8 9) rfl (by kernel_rfl) (by kernel_rfl) (by kernel_rfl) (by kernel_rfl) (fun _ _ _ h => h) hHeld (by rfl) ?_
      (try simp only [Act.put, putS])
      refine ord_skip (i := 8) (preB 9 8) rfl (by kernel_rfl) (by kernel_rfl) (by kernel_rfl) (by kernel_rfl) (fun _ _ _ h => h) hHeld (by rfl) ?_
      (try simp only [Act.put, putS])
      refine ord_skip (i := 9) (preB 10 7) rfl (by kernel_rfl) (by kernel_rfl) (by kernel_rfl) (by kernel_rfl) (fun _ _ _ h => h) hHeld (by rfl) ?_
      (try simp only [Act.put, putS])
      refine ord_skip (i := 10) (preB 11 6) rfl (by kernel_rfl) (by kernel_rfl) (by kernel_rfl) (by kernel_rfl) (fun _ _ _ h => h) hHeld (by rfl) ?_
      (try simp only [Act.put, putS])
      refine ord_skip (i := 11) (preB 12 5) rfl (by kernel_rfl) (by kernel_rfl) (by kernel_rfl) (by kernel_rfl) (fun _ _ _ h => h) hHeld (by rfl) ?_
      (try simp only [Act.put, putS])
      refine ord_skip (i := 12) (preB 13 4) rfl (by kernel_rfl) (by kernel_rfl) (by kernel_rfl) (by kernel_rfl) (fun _ _ _ h => h) hHeld (by rfl) ?_
      (try simp only [Act.put, putS])
      refine ord_skip (i := 13) (preB 14 3) rfl (by kernel_rfl) (by kernel_rfl) (by kernel_rfl) (by kernel_rfl) (fun _ _ _ h => h) hHeld (by rfl) ?_
      (try simp only [Act.put, putS])
      refine ord_skip (i := 14) (preB 15 2) rfl (by kernel_rfl) (by kernel_rfl) (by kernel_rfl) (by kernel_rfl) (fun _ _ _ h => h) hHeld (by rfl) ?_
      (try simp only [Act.put, putS])
      refine ord_skip (i := 15) (preB 16 1) rfl (by kernel_rfl) (by kernel_rfl) (by kernel_rfl) (by kernel_rfl) (fun _ _ _ h => h) hHeld (by rfl) ?_
      (try simp only [Act.put, putS])
      refine oS (i := 16) (preB 17 0) rfl hHeld ?_
      (try simp only [Act.put, putS])
      refine wpAnyH_done (by kernel_rfl) ?_ _
      go_wp2_with (at_builtin; first
       | (refine wpList_append_own2 _ rfl (.tmp 69) (.tmp 77) 125 rfl wr.heap.size 128 i0 (.agg #[.string ⟨#[]⟩, .int .i64 0]) 2 24 Tryz.underlying125 hi0 hz00 hz1 hz2 rfl (by decide) _ _ _ rfl (HO1.out.drew.alloc _) ⟨w1.heap.size, 0, none⟩ 1 1 (mons [(s2, _)]) rfl rfl (news_cells (blk_new rfl)) (mons_ones _) (by have := HJM.out; simp only [maxLen]; omega) (by have := HJM.out; omega) (by first | omega | (simp <;> omega)) ?_; intro A2 c2x w2 ho2 hg2 hv2; have hs2 := hg2.size; (try simp at hs2); have B2 := hide (show Below wr.heap.size wr w2 from B1.out.trans (Below.trans (by (repeat (first | (with_reducible first | exact Below.refl _ _ | assumption | refine Below.drew ?_) | ((with_reducible first | refine Below.alloc ?_ ?_ _ | refine Below.setCell ?_ ?_ _); rotate_left; (first | omega | (simp <;> omega))))) : Below wr.heap.size w1 _) (below_grown (B := wr.heap.size) hg2 (by first | omega | (simp <;> omega)) (own_ge HO1.out)))); have HO2 := hide ho2; clear ho2 hg2 hv2)
       | go_loud (refine wpList_append_rowS _ rfl (.tmp 79) (.tmp 82) 125 rfl wr.heap.size 128 i0 (.agg #[.string ⟨#[]⟩, .int .i64 0]) 2 24 Tryz.underlying125 hi0 hz00 hz1 hz2 rfl (by decide) _ _ _ rfl HO2.out _ _ _ rfl _ ((HR3.out _ (by omega)).below B2.out) (mons ((List.range (m - j)).map (fun i => M (j + i)))) (by rw [mons_len]; simp) (mons_rng (fun i => M (j + i)) (m - j)) (mons_ones _) (by have := HJM.out; simp only [maxLen]; omega) (by have := HJM.out; omega) (by omega) ?_; intro A3 c3x w3 ho3 hg3 hv3; have hs3 := hg3.size; have B3 := hide (B2.out.trans (below_grown (B := wr.heap.size) hg3 (by omega) (own_ge HO2.out))); have HO3 := hide ho3; clear ho3 hg3 hv3))
      all_goals
       obtain ⟨sm, hw3⟩ : ∃ sm : Int, w3.ownsRow wr.heap.size 128 2 (.slice A3 (j + 1 + (m - j)) c3x) (j + 1 + (m - j)) (mons (((List.range j).map M ++ [(s2, sm)]) ++ (List.range (m - j)).map (fun i => M (j + i)))) := ⟨_, by rw [mons_app, mons_app]; exact HO3.out⟩
       obtain ⟨e1, e2⟩ := own_mrow hw3
       go_roundw
       case rel => exact ⟨k + 1, _, c3x, A3, HLT.out, by go_num, rfl, by have h1 := HJM.out; have h2 := HMK.out; have h3 := HJC.out; omega, e1, e2, H0.out.trans ((HJ.out.trans (B3.out.mono HJ.out.size)).mono H0.out.size)⟩
       case measure => have := HLT.out; simp [intOf]; omega
  ·obtain rfl : k = n := by omega
   clear hlt hkn
   go_wp2_with fail
   go_ret
   exact ⟨_, _, _, rfl, hmk, HM.out, H0.out⟩
end Go.Proofs.YtpghciiifnjimaaGreatDoor
