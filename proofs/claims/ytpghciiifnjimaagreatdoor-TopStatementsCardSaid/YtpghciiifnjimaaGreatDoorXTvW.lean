/- Texts laid together: TvW TvX. -/
import Derived.Test.YtpghciiifnjimaaGreatDoorXTvT
import Derived.Defers
import Derived.Test.YtpghciiifnjimaaGreatDoorXK0
namespace Go.Proofs.YtpghciiifnjimaaGreatDoor
set_option maxRecDepth 4000
set_option linter.unusedSimpArgs false
set_option linter.unusedVariables false
open Go.RowKit
def putE (E : Nat → LEnt) (n : Nat) (e : LEnt) (k : Nat) : LEnt := if k < n then E k else e
/-- An entry as it is sealed behind n entries. -/
def SealOf (e : LEnt) (n : Nat) (e' : LEnt) : Prop := ∃ A c z, e' = { e with id := (n : Int) + 1, lA := A, lc := c, ch := z } ∧ 0 ≤ z ∧ z < 18446744073709551616
/-- What journal.Post answers. -/
def jpE (c : Int) (E : Nat → LEnt) (n : Nat) (e : LEnt) : Int := if c ≠ 0 then c else if hasJ E e.key n = true then 12 else if 0 < n ∧ e.bk < lstD E n then 10 else if 4096 ≤ n then 5 else 0
def JpRet (E : Nat → LEnt) (n : Nat) (e : LEnt) (err : Int) (w : World) (r : Ending) (w' : World) : Prop :=
 (err ≠ 0 ∧ r = .returned (.tuple #[.slice none 0 0, .int .i64 err]) ∧ Below w.heap.size w w') ∨
 (err = 0 ∧ ∃ A c e', r = .returned (.tuple #[.slice A (n + 1) c, .int .i64 0]) ∧ Jrn w' A (n + 1) (putE E n e') ∧ SealOf e n e' ∧ (∀ b o q, A = some ⟨b, o, q⟩ → w.heap.size ≤ b) ∧ (∀ b o q, e'.lA = some ⟨b, o, q⟩ → w.heap.size ≤ b) ∧ Below w.heap.size w w')
theorem own_fullT {w : World} {base sz g n : Nat} {e : TypeId} {xs : List Value} (h : w.ownsRow base e sz (.slice (some ⟨g, 0, none⟩) n n) n xs) : w.heap[g]? = some (.cells xs.toArray e (0, 0)) := by
 rcases h.2 with ⟨e2, h0⟩ | ⟨g', cap, cur, hv, hb, hh, h3, h4, h5, h6⟩
 ·cases e2
 ·injection hv with e1 _ e3
  injection e1 with e1
  injection e1 with e1
  subst e1 e3
  rw [hh, ← h6, List.take_of_length_le (by rw [Array.length_toList, h5]; exact Nat.le_refl _)]
theorem own_ofT {w : World} {base sz g n : Nat} {e : TypeId} {xs : List Value} (h : w.heap[g]? = some (.cells xs.toArray e (0, 0))) (hl : xs.length = n * sz) (hb : base ≤ g) (hm : n ≤ maxLen) : w.ownsRow base e sz (.slice (some ⟨g, 0, none⟩) n n) n xs :=
 ⟨hl, .inr ⟨g, n, xs.toArray, rfl, hb, h, Nat.le_refl _, hm, by simpa using hl, by rw [List.take_of_length_le (by simp [hl])]⟩⟩
def ents (l : List LEnt) : List Value := l.flatMap entL
theorem ents_len (l : List LEnt) : (ents l).length = l.length * 10 := flatC_len entL_len l
theorem ents_ones (l : List LEnt) : ∀ u ∈ ents l, u.oneCell' = true := fun u hu => by
 simp only [ents, List.mem_flatMap, entL] at hu
 obtain ⟨p, _, hp⟩ := hu
 simp at hp
 rcases hp with rfl | rfl | rfl | rfl | rfl | rfl | rfl | rfl | rfl | rfl <;> rfl
theorem ents_rng (M : Nat → LEnt) (m : Nat) : ∀ k j, k < m → j < 10 → (ents ((List.range m).map M))[k * 10 + j]? = some (entC (M k) j) := fun k j hk hj => by
 have h := flatC_at (sz := 10) (f := entL) entL_len ((List.range m).map M) k j (by simpa using hk) hj
 show (((List.range m).map M).flatMap entL)[k * 10 + j]? = _
 rw [h]
 have e : ((List.range m).map M)[k]'(by simpa using hk) = M k := by simp
 rw [e, entL_at _ _ hj]
theorem ents_src {w : World} {b off m : Nat} {M : Nat → LEnt} (h : ∀ k j, k < m → j < 10 → w.cell? ⟨b, off + (k * 10 + j), none⟩ = some (entC (M k) j)) (j : Nat) (v : Value) (hv : (ents ((List.range m).map M))[j]? = some v) :
  w.cell? ((⟨b, off, none⟩ : Addr).add j) = some v := rowS_news (by decide) h (by rw [ents_len]; simp) (ents_rng M m) j v hv
theorem map_put (E : Nat → LEnt) (n : Nat) (e : LEnt) : (List.range (n + 1)).map (putE E n e) = (List.range n).map E ++ [e] := by
 rw [List.range_succ, List.map_append]
 congr 1
 ·apply List.map_congr_left
  intro k hk
  unfold putE
  rw [if_pos (by simpa using hk)]
 ·show [putE E n e n] = [e]
  unfold putE
  rw [if_neg (by omega)]
/-- A journal with one entry more lies in a row of the call's own. -/
theorem own_jrn {w : World} {base : Nat} {t : TypeId} {A : Option Addr} {n c : Nat} {E : Nat → LEnt} {e : LEnt} (h : w.ownsRow base t 10 (.slice A (n + 1) c) (n + 1) (ents ((List.range n).map E) ++ entL e))
  (hl : ∀ k, k < n → RowLeg w (E k).lA (E k).ln (E k).legs) (hs : ∀ k, k < n → (E k).ln ≤ 1000000) (he : RowLeg w e.lA e.ln e.legs) (hel : e.ln ≤ 1000000) : Jrn w A (n + 1) (putE E n e) := by
 have h2 : ents ((List.range n).map E) ++ entL e = ents ((List.range (n + 1)).map (putE E n e)) := by rw [map_put]; simp [ents]
 rw [h2] at h
 obtain ⟨g, rfl, _, hg, hc, _⟩ := own_cells h (by omega)
 refine ⟨⟨fun _ => ⟨g, 0, rfl, hg, fun k j hk hj => by rw [Nat.zero_add]; exact hc _ _ (ents_rng _ _ k j hk hj)⟩, fun k hk => ?_⟩, fun k hk => ?_⟩
 ·unfold putE
  split
  ·rename_i h; exact hl k h
  ·exact he
 ·unfold putE
  split
  ·rename_i h; exact hs k h
  ·exact hel
theorem jrn_set {w : World} {A : Option Addr} {n g j : Nat} {E : Nat → LEnt} {e : LEnt} {v : Value} (hJ : Jrn w A (n + 1) (putE E n e)) (hA : ∀ b o q, A = some ⟨b, o, q⟩ → b ≠ g) (hl : ∀ b o q, e.lA = some ⟨b, o, q⟩ → b ≠ g)
  (hE : ∀ k, k < n → RowLeg (w.setCell ⟨g, j, none⟩ v) (E k).lA (E k).ln (E k).legs) : Jrn (w.setCell ⟨g, j, none⟩ v) A (n + 1) (putE E n e) := by
 refine ⟨⟨fun hn => ?_, fun k hk => ?_⟩, hJ.legs⟩
 ·obtain ⟨b, off, ea, hb, hc⟩ := hJ.row.1 hn
  have hne := hA _ _ _ ea
  exact ⟨b, off, ea, by simpa using hb, fun k i hk hi => by rw [World.cell?_setCell_other _ _ _ _ (by simp [hne])]; exact hc k i hk hi⟩
 ·have h := hJ.row.2 k hk
  unfold putE at h ⊢
  split
  ·rename_i hlt; exact hE k hlt
  ·rename_i hlt
   rw [if_neg hlt] at h
   exact h.set hl
set_option maxRecDepth 40000 in
set_option maxHeartbeats 16000000 in
theorem jpost_any (e : LEnt) (hS : EntS e) (c0 : Int) (R : World → Prop) (hRb : ∀ W W', R W → Below W.heap.size W W' → R W')
  (hC : ∀ W, R W → Calls Tryz.prog 27 #[entA e] W fun r w' => r = .returned (.int .i64 c0) ∧ Below W.heap.size W w')
  (A : Option Addr) (n cap : Nat) (E : Nat → LEnt) (hn : n ≤ 999999) (hch : ∀ k, k < n → 0 ≤ (E k).ch ∧ (E k).ch < 18446744073709551616)
  (w : World) (hR : R w) (hr : Jrn w A n E) (hl : RowLeg w e.lA e.ln e.legs) (ht : Tab w) :
  Calls Tryz.prog 31 #[.slice A n cap, entA e] w (JpRet E n e (jpE c0 E n e) w) := by
 have HS := hide hS
 have HCH := hide hC
 have HRB := hide hRb
 have HR := hide hR
 have HJ := hide hr
 have HL := hide hl
 have HT := hide ht
 have HCC := hide (show 0 ≤ lstC E n ∧ lstC E n < 18446744073709551616 from by
  cases n with
  | zero => exact ⟨Int.le_refl 0, (by decide : (0 : Int) < 18446744073709551616)⟩
  | succ m => exact hch m (by omega))
 obtain ⟨b1, hb1⟩ : ∃ b, b = hasJ E e.key n := ⟨_, rfl⟩
 obtain ⟨dd, hdd⟩ : ∃ d, d = lstD E n := ⟨_, rfl⟩
 obtain ⟨cc, hcc⟩ : ∃ d, d = lstC E n := ⟨_, rfl⟩
 have H1 := hide (fun W h => by have t := jfind_any A n cap E e.key (by omega) W h; rw [← hb1] at t; exact t)
 have H2 := hide (fun W h => by have t := last_any A n cap E (by omega) W h; rw [← hdd, ← hcc] at t; exact t)
 have HE := hide (show jpE c0 E n e = if c0 ≠ 0 then c0 else if b1 = true then 12 else if 0 < n ∧ e.bk < dd then 10 else if 4096 ≤ n then 5 else 0 from by rw [hb1, hdd]; rfl)
 rw [← hcc] at HCC
 obtain ⟨id, bk, va, ki, au, pe, key, tx, lA, ln, lc, ch, l⟩ := e
 obtain ⟨i0, hi0, hz00, hz1, hz2⟩ := info_parts ent_info
 have I0 := hide hi0
 have I1 := hide hz00
 have I2 := hide hz1
 have I3 := hide hz2
 clear hS hC hRb hR hr hl ht hb1 hdd hcc hi0 hz00 hz1 hz2
 dsimp only [entA] at H1 HE ⊢
 go_enter Tryz.func31, Tryz.ntmps31
 go_wp2_with fail
 refine (HCH.out _ (HRB.out _ _ HR.out belT)).mono ?_
 rintro r w1 ⟨rfl, hb⟩
 have q1B : Below w.heap.size w w1 := qB hb
 have q1z := hb.size
 try simp at q1z
 have q1t : w.heap.size ≤ w1.heap.size := (by omega)
 obtain ⟨q1s0, q1n0_0, q1n0_1, q1n0_2⟩ := kB w1.heap.size w.heap.size
 obtain ⟨q1c0_0, q1c0_1, q1c0_2, q1c0_3, q1c0_4, q1c0_5, q1c0_6, q1c0_7, q1c0_8, q1c0_9, q1f0⟩ := kC10 hb w.heap.size
 simp [go_sem, *] at q1c0_0 q1c0_1 q1c0_2 q1c0_3 q1c0_4 q1c0_5 q1c0_6 q1c0_7 q1c0_8 q1c0_9 q1f0
 have q1o := belO q1B
 clear hb
 have B1 := hide q1B
 by_cases hc0 : c0 = 0
 ·have d0 : (c0 == 0) = true := by simp [hc0]
  have HE1 := hide (HE.out.trans (if_neg (by simp [hc0])))
  clear hc0 HE
  go_wp2_with fail
  refine (H1.out _ (HJ.out.below B1.out)).mono ?_
  rintro r w2 ⟨⟨x, rfl⟩, hb⟩
  obtain ⟨xid, xbk, xva, xki, xau, xpe, xkey, xtx, xlA, xln, xlc, xch, xl⟩ := x
  have q2B : Below w1.heap.size w1 w2 := qB hb
  have q2z := hb.size
  try simp at q2z
  have q2t : w1.heap.size ≤ w2.heap.size := (by omega)
  obtain ⟨q2s0, q2n0_0, q2n0_1, q2n0_2⟩ := kB w2.heap.size w.heap.size
  obtain ⟨q2c0_0, q2c0_1, q2c0_2, q2c0_3, q2c0_4, q2c0_5, q2c0_6, q2c0_7, q2c0_8, q2c0_9, q2f0⟩ := kC10 hb w.heap.size
  simp [go_sem, *] at q2c0_0 q2c0_1 q2c0_2 q2c0_3 q2c0_4 q2c0_5 q2c0_6 q2c0_7 q2c0_8 q2c0_9 q2f0
  have q2o := belO q2B
  clear hb q1o q1f0 q1c0_9 q1c0_8 q1c0_7 q1c0_6 q1c0_5 q1c0_4 q1c0_3 q1c0_2 q1c0_1 q1c0_0 q1s0 q1z q1B
  have B2 := hide (B1.out.trans (q2B.mono (by omega)))
  dsimp only [entA]
  cases b1 with
  | true =>
   have HE2 := hide (HE1.out.trans (if_pos rfl))
   go_wp2_with fail
   go_ret2
   exact .inl ⟨by rw [HE2.out]; decide, by rw [HE2.out]; rfl, B2.out.trans belT⟩
  | false =>
   have HE2 := hide (HE1.out.trans (if_neg (by decide)))
   clear HE1
   go_wp2_with fail
   refine (H2.out _ (HJ.out.below (B2.out.trans belT))).mono ?_
   rintro r w3 ⟨rfl, hb⟩
   have q3B : Below w2.heap.size w2 w3 := qB hb
   have q3z := hb.size
   try simp at q3z
   have q3t : w2.heap.size ≤ w3.heap.size := (by omega)
   obtain ⟨q3s0, q3n0_0, q3n0_1, q3n0_2⟩ := kB w3.heap.size w.heap.size
   obtain ⟨q3c0_0, q3c0_1, q3c0_2, q3c0_3, q3c0_4, q3c0_5, q3c0_6, q3c0_7, q3c0_8, q3c0_9, q3f0⟩ := kC10 hb w.heap.size
   simp [go_sem, *] at q3c0_0 q3c0_1 q3c0_2 q3c0_3 q3c0_4 q3c0_5 q3c0_6 q3c0_7 q3c0_8 q3c0_9 q3f0
   have q3o := belO q3B
   clear hb q2o q2f0 q2c0_9 q2c0_8 q2c0_7 q2c0_6 q2c0_5 q2c0_4 q2c0_3 q2c0_2 q2c0_1 q2c0_0 q2s0 q2z q2B
   have B3 := hide (B2.out.trans (q3B.mono (by omega)))
   rcases Nat.eq_zero_or_pos n with h0 | h0
   ·have HE3 := hide (HE2.out.trans (if_neg (fun h => by omega)))
    have g0 : ¬ (0 : Int) < n := by omega
    have HN0 := hide h0
    clear h0 HE2
    by_cases h4 : 4096 ≤ n
    ·have m4 : (4096 : Int) ≤ n := by omega
     have HE4 := hide (HE3.out.trans (if_pos h4))
     clear h4
     go_wp2_with fail
     all_goals (go_ret2; exact .inl ⟨by rw [HE4.out]; decide, by rw [HE4.out]; rfl, B3.out.trans belT⟩)
    ·have m4 : ¬ (4096 : Int) ≤ n := by omega
     have HE4 := hide (HE3.out.trans (if_neg h4))
     have mw : IntKind.i64.wrap ((n : Int) + 1) = (n : Int) + 1 := by rw [i64w]; unfold wrap64; omega
     have mi : (n : Int) < (n : Int) + 1 := by omega
     have mj : (0 : Int) ≤ n := by omega
     clear h4
     go_wp2_with (at_make; refine wpList_make_full _ rfl _ _ 29 rfl w3.heap.size 53 i0 (.agg #[.int .i64 0, .int .i64 0, .int .i64 0, .int .i64 0, .int .i64 0, .int .i64 0, .string ⟨#[]⟩, .string ⟨#[]⟩, .slice none 0 0, .int .u64 0]) 10 Tryz.underlying29 I0.out I1.out I2.out .i64 .i64 _ _ (n + 1) rfl rfl (by simp) (by simp) (by rw [I3.out]; omega) (by simp only [maxLen]; omega) (Nat.le_refl _) ?_; intro w4 ho4 hg4; refine Hid.out ?_)
     refine Lib.hid ?_
     obtain ⟨zs, hzs⟩ : ∃ zs : List Value, zs = (madeCells (Value.agg #[.int .i64 0, .int .i64 0, .int .i64 0, .int .i64 0, .int .i64 0, .int .i64 0, .string ⟨#[]⟩, .string ⟨#[]⟩, .slice none 0 0, .int .u64 0]).cells ((n + 1) * 10)).toList := ⟨_, rfl⟩
     rw [← hzs] at ho4
     have HF4 := hide (own_fullT ho4)
     have hzl : zs.length = (n + 1) * 10 := ho4.1
     have HZL := hide hzl
     have HJ4 := hide (HJ.out.below (B3.out.trans ((below_grown hg4 (Nat.le_refl _) (fun k e => by cases e)).mono B3.out.size)))
     have HB4 := hide (below_grown (B := w3.heap.size) hg4 (Nat.le_refl _) (fun k e => by cases e))
     have hs4 : w3.heap.size < w4.heap.size := heap_lt HF4.out
     clear ho4 hg4 hzs hzl
     have HS1 := hide (show (ents ((List.range n).map E)).length = Nat.min n (n + 1) * 10 from by rw [ents_len, List.length_map, List.length_range]; show n * 10 = min n (n + 1) * 10; omega)
     have HS2 := hide (show 0 < Nat.min n (n + 1) → (some (⟨w3.heap.size, 0, none⟩ : Addr)) = some ⟨w3.heap.size, 0, none⟩ ∧ ∃ ad, A = some ad ∧ ∀ (j : Nat) (v : Value), (ents ((List.range n).map E))[j]? = some v → w4.cell? (ad.add j) = some v from fun hpos => ⟨rfl, by
      obtain ⟨b, off, e, _, hc⟩ := HJ4.out.row.1 (by have : min n (n + 1) = n := (by omega); have hp : 0 < min n (n + 1) := hpos; omega)
      exact ⟨_, e, fun j v hv => ents_src hc j v hv⟩⟩)
     have HS3 := hide (show 0 + (ents ((List.range n).map E)).length ≤ zs.length from by rw [ents_len, List.length_map, List.length_range, HZL.out]; omega)
     have HS4 := hide (show (Tryz.prog.info? 53).map (·.size) = some 10 from by kernel_rfl)
     go_wp2_with ((with_reducible refine wpList_copyS rfl (.tmp 46) (.tmp 47) 29 29 rfl 53 10 Tryz.underlying29 HS4.out (some ⟨w3.heap.size, 0, none⟩) A (n + 1) (n + 1) n cap rfl rfl w3.heap.size 0 zs 53 HF4.out (ents ((List.range n).map E)) HS1.out HS2.out HS3.out (ents_ones _) ?_); intro w5 h5 hk5 hs5 hb5; refine Hid.out ?_)
     refine Lib.hid ?_
     have hb : Below w3.heap.size w3 w5 := HB4.out.trans hb5
     have HO5 := hide (show w5.ownsRow w3.heap.size 53 10 (.slice (some ⟨w3.heap.size, 0, none⟩) (n + 1) (n + 1)) (n + 1) (ents ((List.range n).map E) ++ zs.drop (n * 10)) from own_ofT (by
      have e : splice zs 0 (ents ((List.range n).map E)) = ents ((List.range n).map E) ++ zs.drop (n * 10) := by simp [splice, ents_len]
      rw [← e]; exact h5) (by rw [List.length_append, ents_len, List.length_map, List.length_range, List.length_drop, HZL.out]; omega) (Nat.le_refl _) (by simp only [maxLen]; omega))
     have hs5' : w3.heap.size < w5.heap.size := by omega
     clear h5 hk5 hs5 hb5
     have q5B : Below w3.heap.size w3 w5 := qB hb
     have q5z := hb.size
     try simp at q5z
     have q5t : w3.heap.size ≤ w5.heap.size := (by omega)
     obtain ⟨q5s0, q5n0_0, q5n0_1, q5n0_2⟩ := kB w5.heap.size w.heap.size
     obtain ⟨q5c0_0, q5c0_1, q5c0_2, q5c0_3, q5c0_4, q5c0_5, q5c0_6, q5c0_7, q5c0_8, q5c0_9, q5f0⟩ := kC10 hb w.heap.size
     simp [go_sem, *] at q5c0_0 q5c0_1 q5c0_2 q5c0_3 q5c0_4 q5c0_5 q5c0_6 q5c0_7 q5c0_8 q5c0_9 q5f0
     have q5o := belO q5B
     clear hb q3o q3f0 q3c0_9 q3c0_8 q3c0_7 q3c0_6 q3c0_5 q3c0_4 q3c0_3 q3c0_2 q3c0_1 q3c0_0 q3s0 q3z q3B
     have B5 := hide (B3.out.trans (q5B.mono (by omega)))
     go_wp2_with fail
     refine (sealed_any ⟨id, bk, va, ki, au, pe, key, tx, lA, ln, lc, ch, l⟩ HS.out n (by omega) cc HCC.out.1 HCC.out.2 _ (HL.out.below B5.out) (HT.out.below B5.out)).mono ?_
     rintro r w6 ⟨A6, c6, z6, rfl, hr6, hA6, z60, z61, hb⟩
     have HR6 := hide (And.intro hr6 (And.intro hA6 (And.intro z60 z61)))
     have HO6 := hide (owns_below HO5.out hb)
     have B6 := hide (B5.out.trans (hb.mono B5.out.size))
     have Bq6 := hide (show Below w3.heap.size w3 w6 from q5B.trans (hb.mono (by omega)))
     have hs6 := hb.size
     clear hr6 hA6 z60 z61 hb
     have HTH := hide (show w6.there w3.heap.size (n * 10) (#[.int .i64 ((n : Int) + 1), .int .i64 bk, .int .i64 va, .int .i64 ki, .int .i64 au, .int .i64 pe, .string key, .string tx, .slice A6 ln c6, .int .u64 z6] : Array Value).size from own_thereT HO6.out (by show n * 10 + 10 ≤ (n + 1) * 10; omega))
     have HIS := hide (show (Tryz.prog.info? 53).map (·.size) = some (#[.int .i64 ((n : Int) + 1), .int .i64 bk, .int .i64 va, .int .i64 ki, .int .i64 au, .int .i64 pe, .string key, .string tx, .slice A6 ln c6, .int .u64 z6] : Array Value).size from by kernel_rfl)
     have HON := hide (show (#[.int .i64 ((n : Int) + 1), .int .i64 bk, .int .i64 va, .int .i64 ki, .int .i64 au, .int .i64 pe, .string key, .string tx, .slice A6 ln c6, .int .u64 z6] : Array Value).all (·.oneCell') = true from by kernel_rfl)
     dsimp only [entA]
     go_wp2_with (with_reducible refine wpList_store_mid rfl 53 (.tmp 57) (.tmp 56) rfl w3.heap.size (n * 10) #[.int .i64 ((n : Int) + 1), .int .i64 bk, .int .i64 va, .int .i64 ki, .int .i64 au, .int .i64 pe, .string key, .string tx, .slice A6 ln c6, .int .u64 z6] rfl rfl HTH.out HIS.out HON.out ?_)
     go_ret2
     have BS := below_setsT (B := w3.heap.size) (g := w3.heap.size) (Nat.le_refl _) (vs := entL ⟨(n : Int) + 1, bk, va, ki, au, pe, key, tx, A6, ln, c6, z6, l⟩) (o := n * 10) Bq6.out
     have BW := B3.out.trans (BS.mono B3.out.size)
     exact .inr ⟨HE4.out, _, _, ⟨(n : Int) + 1, bk, va, ki, au, pe, key, tx, A6, ln, c6, z6, l⟩, rfl, own_jrn (own_setsT (vs := entL ⟨(n : Int) + 1, bk, va, ki, au, pe, key, tx, A6, ln, c6, z6, l⟩) HO6.out (by rw [ents_len, List.length_map, List.length_range]) (by rw [List.length_drop, HZL.out]; show 10 = _; omega)) (fun k hk => (HJ.out.row.2 k hk).below BW) (fun k hk => HJ.out.legs k hk) (RowLeg.sets (fun b o q e => by have := HR6.out.2.1 b o q e; omega) _ _ _ HR6.out.1) (Nat.le_trans HS.out.ln (by decide)), ⟨A6, c6, z6, rfl, HR6.out.2.2.1, HR6.out.2.2.2⟩, fun b o q e => by cases e; exact B3.out.size, fun b o q e => Nat.le_trans B5.out.size (HR6.out.2.1 b o q e), BW⟩
   ·have g0 : (0 : Int) < n := by omega
    by_cases h5 : bk < dd
    ·have HE3 := hide (HE2.out.trans (if_pos ⟨h0, h5⟩))
     clear h0
     go_wp2_with fail
     go_ret2
     exact .inl ⟨by rw [HE3.out]; decide, by rw [HE3.out]; rfl, B3.out.trans belT⟩
    ·have HE3 := hide (HE2.out.trans (if_neg (fun h => h5 h.2)))
     have HN0 := hide h0
     clear h0 HE2
     by_cases h4 : 4096 ≤ n
     ·have m4 : (4096 : Int) ≤ n := by omega
      have HE4 := hide (HE3.out.trans (if_pos h4))
      clear h4
      go_wp2_with fail
      all_goals (go_ret2; exact .inl ⟨by rw [HE4.out]; decide, by rw [HE4.out]; rfl, B3.out.trans belT⟩)
     ·have m4 : ¬ (4096 : Int) ≤ n := by omega
      have HE4 := hide (HE3.out.trans (if_neg h4))
      have mw : IntKind.i64.wrap ((n : Int) + 1) = (n : Int) + 1 := by rw [i64w]; unfold wrap64; omega
      have mi : (n : Int) < (n : Int) + 1 := by omega
      have mj : (0 : Int) ≤ n := by omega
      clear h4
      go_wp2_with (at_make; refine wpList_make_full _ rfl _ _ 29 rfl w3.heap.size 53 i0 (.agg #[.int .i64 0, .int .i64 0, .int .i64 0, .int .i64 0, .int .i64 0, .int .i64 0, .string ⟨#[]⟩, .string ⟨#[]⟩, .slice none 0 0, .int .u64 0]) 10 Tryz.underlying29 I0.out I1.out I2.out .i64 .i64 _ _ (n + 1) rfl rfl (by simp) (by simp) (by rw [I3.out]; omega) (by simp only [maxLen]; omega) (Nat.le_refl _) ?_; intro w4 ho4 hg4; refine Hid.out ?_)
      refine Lib.hid ?_
      obtain ⟨zs, hzs⟩ : ∃ zs : List Value, zs = (madeCells (Value.agg #[.int .i64 0, .int .i64 0, .int .i64 0, .int .i64 0, .int .i64 0, .int .i64 0, .string ⟨#[]⟩, .string ⟨#[]⟩, .slice none 0 0, .int .u64 0]).cells ((n + 1) * 10)).toList := ⟨_, rfl⟩
      rw [← hzs] at ho4
      have HF4 := hide (own_fullT ho4)
      have hzl : zs.length = (n + 1) * 10 := ho4.1
      have HZL := hide hzl
      have HJ4 := hide (HJ.out.below (B3.out.trans ((below_grown hg4 (Nat.le_refl _) (fun k e => by cases e)).mono B3.out.size)))
      have HB4 := hide (below_grown (B := w3.heap.size) hg4 (Nat.le_refl _) (fun k e => by cases e))
      have hs4 : w3.heap.size < w4.heap.size := heap_lt HF4.out
      clear ho4 hg4 hzs hzl
      have HS1 := hide (show (ents ((List.range n).map E)).length = Nat.min n (n + 1) * 10 from by rw [ents_len, List.length_map, List.length_range]; show n * 10 = min n (n + 1) * 10; omega)
      have HS2 := hide (show 0 < Nat.min n (n + 1) → (some (⟨w3.heap.size, 0, none⟩ : Addr)) = some ⟨w3.heap.size, 0, none⟩ ∧ ∃ ad, A = some ad ∧ ∀ (j : Nat) (v : Value), (ents ((List.range n).map E))[j]? = some v → w4.cell? (ad.add j) = some v from fun hpos => ⟨rfl, by
       obtain ⟨b, off, e, _, hc⟩ := HJ4.out.row.1 (by have : min n (n + 1) = n := (by omega); have hp : 0 < min n (n + 1) := hpos; omega)
       exact ⟨_, e, fun j v hv => ents_src hc j v hv⟩⟩)
      have HS3 := hide (show 0 + (ents ((List.range n).map E)).length ≤ zs.length from by rw [ents_len, List.length_map, List.length_range, HZL.out]; omega)
      have HS4 := hide (show (Tryz.prog.info? 53).map (·.size) = some 10 from by kernel_rfl)
      go_wp2_with ((with_reducible refine wpList_copyS rfl (.tmp 46) (.tmp 47) 29 29 rfl 53 10 Tryz.underlying29 HS4.out (some ⟨w3.heap.size, 0, none⟩) A (n + 1) (n + 1) n cap rfl rfl w3.heap.size 0 zs 53 HF4.out (ents ((List.range n).map E)) HS1.out HS2.out HS3.out (ents_ones _) ?_); intro w5 h5 hk5 hs5 hb5; refine Hid.out ?_)
      refine Lib.hid ?_
      have hb : Below w3.heap.size w3 w5 := HB4.out.trans hb5
      have HO5 := hide (show w5.ownsRow w3.heap.size 53 10 (.slice (some ⟨w3.heap.size, 0, none⟩) (n + 1) (n + 1)) (n + 1) (ents ((List.range n).map E) ++ zs.drop (n * 10)) from own_ofT (by
       have e : splice zs 0 (ents ((List.range n).map E)) = ents ((List.range n).map E) ++ zs.drop (n * 10) := by simp [splice, ents_len]
       rw [← e]; exact h5) (by rw [List.length_append, ents_len, List.length_map, List.length_range, List.length_drop, HZL.out]; omega) (Nat.le_refl _) (by simp only [maxLen]; omega))
      have hs5' : w3.heap.size < w5.heap.size := by omega
      clear h5 hk5 hs5 hb5
      have q5B : Below w3.heap.size w3 w5 := qB hb
      have q5z := hb.size
      try simp at q5z
      have q5t : w3.heap.size ≤ w5.heap.size := (by omega)
      obtain ⟨q5s0, q5n0_0, q5n0_1, q5n0_2⟩ := kB w5.heap.size w.heap.size
      obtain ⟨q5c0_0, q5c0_1, q5c0_2, q5c0_3, q5c0_4, q5c0_5, q5c0_6, q5c0_7, q5c0_8, q5c0_9, q5f0⟩ := kC10 hb w.heap.size
      simp [go_sem, *] at q5c0_0 q5c0_1 q5c0_2 q5c0_3 q5c0_4 q5c0_5 q5c0_6 q5c0_7 q5c0_8 q5c0_9 q5f0
      have q5o := belO q5B
      clear hb
      have B5 := hide (B3.out.trans (q5B.mono (by omega)))
      go_wp2_with fail
      refine (sealed_any ⟨id, bk, va, ki, au, pe, key, tx, lA, ln, lc, ch, l⟩ HS.out n (by omega) cc HCC.out.1 HCC.out.2 _ (HL.out.below B5.out) (HT.out.below B5.out)).mono ?_
      rintro r w6 ⟨A6, c6, z6, rfl, hr6, hA6, z60, z61, hb⟩
      have HR6 := hide (And.intro hr6 (And.intro hA6 (And.intro z60 z61)))
      have HO6 := hide (owns_below HO5.out hb)
      have B6 := hide (B5.out.trans (hb.mono B5.out.size))
      have Bq6 := hide (show Below w3.heap.size w3 w6 from q5B.trans (hb.mono (by omega)))
      have hs6 := hb.size
      clear hr6 hA6 z60 z61 hb
      have HTH := hide (show w6.there w3.heap.size (n * 10) (#[.int .i64 ((n : Int) + 1), .int .i64 bk, .int .i64 va, .int .i64 ki, .int .i64 au, .int .i64 pe, .string key, .string tx, .slice A6 ln c6, .int .u64 z6] : Array Value).size from own_thereT HO6.out (by show n * 10 + 10 ≤ (n + 1) * 10; omega))
      have HIS := hide (show (Tryz.prog.info? 53).map (·.size) = some (#[.int .i64 ((n : Int) + 1), .int .i64 bk, .int .i64 va, .int .i64 ki, .int .i64 au, .int .i64 pe, .string key, .string tx, .slice A6 ln c6, .int .u64 z6] : Array Value).size from by kernel_rfl)
      have HON := hide (show (#[.int .i64 ((n : Int) + 1), .int .i64 bk, .int .i64 va, .int .i64 ki, .int .i64 au, .int .i64 pe, .string key, .string tx, .slice A6 ln c6, .int .u64 z6] : Array Value).all (·.oneCell') = true from by kernel_rfl)
      dsimp only [entA]
      go_wp2_with (with_reducible refine wpList_store_mid rfl 53 (.tmp 57) (.tmp 56) rfl w3.heap.size (n * 10) #[.int .i64 ((n : Int) + 1), .int .i64 bk, .int .i64 va, .int .i64 ki, .int .i64 au, .int .i64 pe, .string key, .string tx, .slice A6 ln c6, .int .u64 z6] rfl rfl HTH.out HIS.out HON.out ?_)
      go_ret2
      have BS := below_setsT (B := w3.heap.size) (g := w3.heap.size) (Nat.le_refl _) (vs := entL ⟨(n : Int) + 1, bk, va, ki, au, pe, key, tx, A6, ln, c6, z6, l⟩) (o := n * 10) Bq6.out
      have BW := B3.out.trans (BS.mono B3.out.size)
      exact .inr ⟨HE4.out, _, _, ⟨(n : Int) + 1, bk, va, ki, au, pe, key, tx, A6, ln, c6, z6, l⟩, rfl, own_jrn (own_setsT (vs := entL ⟨(n : Int) + 1, bk, va, ki, au, pe, key, tx, A6, ln, c6, z6, l⟩) HO6.out (by rw [ents_len, List.length_map, List.length_range]) (by rw [List.length_drop, HZL.out]; show 10 = _; omega)) (fun k hk => (HJ.out.row.2 k hk).below BW) (fun k hk => HJ.out.legs k hk) (RowLeg.sets (fun b o q e => by have := HR6.out.2.1 b o q e; omega) _ _ _ HR6.out.1) (Nat.le_trans HS.out.ln (by decide)), ⟨A6, c6, z6, rfl, HR6.out.2.2.1, HR6.out.2.2.2⟩, fun b o q e => by cases e; exact B3.out.size, fun b o q e => Nat.le_trans B5.out.size (HR6.out.2.1 b o q e), BW⟩
 ·have d0 : (c0 == 0) = false := by simpa using hc0
  have HE1 := hide (HE.out.trans (if_pos hc0))
  have HZ := hide hc0
  clear hc0
  go_wp2_with fail
  go_ret2
  exact .inl ⟨by rw [HE1.out]; exact HZ.out, by rw [HE1.out]; rfl, B1.out.trans belT⟩
end Go.Proofs.YtpghciiifnjimaaGreatDoor
namespace Go.Proofs.YtpghciiifnjimaaGreatDoor
set_option maxRecDepth 4000
set_option linter.unusedSimpArgs false
set_option linter.unusedVariables false
open Go.RowKit
theorem results_row_cell {P : Program} {fn : Func} {p q : Tmp} {ty t2 : TypeId} (h : fn.results = #[.cell p ty, .cell q t2]) (tmps : Array Value) (w : World) (g : Nat) (t : TypeId) (cs : Array Value) (fr : Nat × Nat) (d : TypeDesc)
  (hp : tmps.getD p undef = .pointer (some ⟨g, 0, none⟩)) (hg : w.heap[g]? = some (.cells cs t fr))
  (hu : P.underlying ty = some d) (hd : (match d with | .struct _ | .array _ _ => true | _ => false) = true) (hi : (P.info? ty).map (·.size) = some cs.size)
  (k : Nat) (v : Value) (hq : tmps.getD q undef = .pointer (some ⟨k, 0, none⟩)) (hv : ((loadVar t2 ⟨k, 0, none⟩).run P w) = .ok v w) :
  (results fn tmps).run P w = .ok (.tuple #[.agg cs, v]) w := by
 have hp' : tmps[p]?.getD undef = .pointer (some ⟨g, 0, none⟩) := by simpa using hp
 have hq' : tmps[q]?.getD undef = .pointer (some ⟨k, 0, none⟩) := by simpa using hq
 simp [results, h, hp', hq', asAddr, run_loadVar_row w g t ty cs fr d hg hu hd hi, hv]
/-- Books of zeros. -/
def bzZ : Array Value := #[.slice none 0 0, .slice none 0 0, .slice none 0 0, .int .i64 0, .int .i64 0, .int .i64 0, .int .i64 0, .int .i64 0, .int .i64 0, .int .i64 0, .int .i64 0, .int .i64 0, .int .i64 0, .int .i64 0, .int .i64 0, .int .i64 0, .int .i64 0, .slice none 0 0, .slice none 0 0, .slice none 0 0, .slice none 0 0, .slice none 0 0]
theorem bz_built : ∃ C : Array Value, Tryz.prog.built 33 [] = some C ∧ C.size = 22 ∧ C.all (·.oneCell') = true := ⟨bzZ, by kernel_rfl, rfl, by kernel_rfl⟩
theorem post1_ok (a b c n : Nat) (A1 A2 : Option Addr) (c1 c2 : Nat) (hn : n ≤ 1000000) (u : FrameMode) (w : World) (h0 : w.cell? ⟨a, 0, none⟩ = some (.int .i64 0)) (h1 : w.cell? ⟨b, 19, none⟩ = some (.slice A1 (n + 1) c1)) (h2 : w.cell? ⟨c, 19, none⟩ = some (.slice A2 n c2)) :
  CallsD Tryz.prog 26 #[.pointer (some ⟨a, 0, none⟩), .pointer (some ⟨b, 0, none⟩), .pointer (some ⟨c, 0, none⟩)] u w fun e u' w' => u' = u ∧ (e = .returned (.tuple #[]) ∧ w' = w) := by
 have hw : IntKind.i64.wrap ((n : Int) + 1) = (n : Int) + 1 := by rw [i64w]; unfold wrap64; omega
 go_enter_d Tryz.func26, Tryz.ntmps26
 go_wp2_with fail
 go_end0
 exact ⟨rfl, rfl⟩
theorem post1_err (a b c : Nat) (z : Int) (hz : (z == 0) = false) (u : FrameMode) (w : World) (X : Array Value) (hX : X.size = 22) (h0 : w.cell? ⟨a, 0, none⟩ = some (.int .i64 z)) (hb : w.heap[b]? = some (.cells X 33 (0, 0))) :
  CallsD Tryz.prog 26 #[.pointer (some ⟨a, 0, none⟩), .pointer (some ⟨b, 0, none⟩), .pointer (some ⟨c, 0, none⟩)] u w fun e u' w' => u' = u ∧ (e = .returned (.tuple #[]) ∧ (∃ C : Array Value, C.size = 22 ∧ C.all (·.oneCell') = true ∧ w'.heap[b]? = some (.cells C 33 (0, 0))) ∧ (∀ k, k ≠ b → w'.heap[k]? = w.heap[k]?) ∧ w'.heap.size = w.heap.size ∧ Below b w w') := by
 obtain ⟨Z2, hz0, hz1, hz2⟩ := bz_built
 have HZ := hide (And.intro hz0 (And.intro hz1 hz2))
 have HB := hide hb
 have HX := hide hX
 have HS := hide (show (Tryz.prog.info? 33).map (·.size) = some Z2.size by rw [hz1]; kernel_rfl)
 have hzn : (z != 0) = true := by simp [bne, hz]
 clear hz0 hz1 hz2 hb hX
 go_enter_d Tryz.func26, Tryz.ntmps26
 go_wp2_with (first
  | ((with_reducible refine Go.wpList_buildTo rfl 33 #[] rfl (some 15) rfl Z2 ?_ ?_); (focus (refine Eq.trans (congrArg _ ?_) HZ.out.1; simp [Act.eval])))
  | ((with_reducible refine wpList_store_newrow2 rfl 33 (.tmp 1) (.tmp 15) rfl rfl b Z2 rfl rfl 33 X HB.out HS.out (by rw [HZ.out.2.1, HX.out]) HZ.out.2.2 ?_); intro w5 hb5 hs5 hx5 hk5))
 go_end0
 exact ⟨rfl, ⟨Z2, HZ.out.2.1, HZ.out.2.2, hx5⟩, hk5, hs5, hb5⟩
theorem lv_errno (k : Nat) (z : Int) (w : World) (h : w.cell? ⟨k, 0, none⟩ = some (.int .i64 z)) : (loadVar 40 ⟨k, 0, none⟩).run Tryz.prog w = .ok (.int .i64 z) w := by simp [go_sem, h]
theorem bz_zero : ∃ (i : TypeInfo) (Z : Array Value), Tryz.prog.info? 33 = some i ∧ i.zero = some (.agg Z) ∧ Z.size = 22 ∧ Z.all (·.oneCell') = true := by
 obtain ⟨i, h1, h2⟩ := info_agg (show (Tryz.prog.info? 33).bind (·.zero) = some (.agg bzZ) by kernel_rfl)
 exact ⟨i, bzZ, h1, h2, rfl, by kernel_rfl⟩
end Go.Proofs.YtpghciiifnjimaaGreatDoor
