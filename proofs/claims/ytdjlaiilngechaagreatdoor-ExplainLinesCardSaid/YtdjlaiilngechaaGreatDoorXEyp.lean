/- Texts laid together: Eyp ExB. -/
import Derived.Test.YtdjlaiilngechaaGreatDoorXExL
import Derived.Test.YtdjlaiilngechaaGreatDoorXAcF
import Derived.Test.YtdjlaiilngechaaGreatDoorXAcB
import Derived.Test.YtdjlaiilngechaaGreatDoorXAcJ
import Derived.Test.YtdjlaiilngechaaGreatDoorXK0
namespace Go.Proofs.YtdjlaiilngechaaGreatDoor
set_option maxRecDepth 4000
set_option linter.unusedSimpArgs false
set_option linter.unusedVariables false
open Go.RowKit
abbrev tBasic : ByteArray := ⟨#[98, 97, 115, 105, 99]⟩
abbrev tEur : ByteArray := ⟨#[69, 85, 82]⟩
abbrev tWeek : ByteArray := ⟨#[119, 101, 101, 107]⟩
abbrev tAnn : ByteArray := ⟨#[97, 110, 110]⟩
abbrev tD : ByteArray := ⟨#[100]⟩
abbrev tNone : ByteArray := ⟨#[]⟩
abbrev exLg (n : Int) : Array Value := #[.int .i64 1, .int .i64 n, .string tEur, .int .i64 1000, .int .i64 (-n), .string tEur]
abbrev exEn (d : Int) (b : Nat) : Array Value := #[.int .i64 0, .int .i64 0, .int .i64 d, .int .i64 1, .int .i64 0, .int .i64 0, .string tD, .string tNone, .slice (some ⟨b, 0, none⟩) 2 2, .int .u64 0]
abbrev exPC (tb : Nat) : Array Value := #[.string tBasic, .string tEur, .string tWeek, .int .i64 0, .int .i64 1, .int .i64 0, .int .i64 0, .slice (some ⟨tb, 0, none⟩) 1 1, .bool false, .int .i64 2, .int .i64 6, .bool false, .slice (some ⟨tb, 0, none⟩) 1 1, .bool false, .int .i64 2, .int .i64 6, .bool false, .slice none 0 0, .slice none 0 0]
def exI (tb : Nat) : LInt := ⟨some ⟨tb, 0, none⟩, 1, 1, false, 2, 6, false, fun _ => 0, fun _ => 15000⟩
def exP (tb : Nat) : LPro := ⟨exPC tb, tBasic, 0, exI tb, exI tb⟩
def exA : LAcc := ⟨1000, 0, 0, 0, tAnn, tBasic, tNone⟩
def exLs (n : Int) : Nat → LLeg
 | 0 => ⟨1, n, tEur⟩
 | _ => ⟨1000, -n, tEur⟩
def exE (later : Int) (b1 b2 : Nat) : Nat → LEnt
 | 0 => ⟨0, 0, 0, 1, 0, 0, tD, tNone, some ⟨b1, 0, none⟩, 2, 2, 0, exLs 100000⟩
 | _ => ⟨0, 0, later, 1, 0, 0, tD, tNone, some ⟨b2, 0, none⟩, 2, 2, 0, exLs 50000⟩
def exB (C : Array Value) (later : Int) (tb pb ab jb b1 b2 : Nat) : LBk := ⟨C, some ⟨ab, 0, none⟩, 1, 1, fun _ => exA, some ⟨jb, 0, none⟩, 2, 2, exE later b1 b2, some ⟨pb, 0, none⟩, 1, 1, fun _ => exP tb⟩
theorem ex_prc (tb : Nat) : PrC (exPC tb) (exP tb) := ⟨rfl, by unfold exPC; simp [Value.oneCell'], rfl, rfl, rfl, rfl, rfl, rfl, rfl, rfl, rfl, rfl, rfl, rfl⟩
section
variable (C : Array Value) (tb pb ab jb b1 b2 : Nat) (later : Int)
theorem ex_act {d : Int} (h : 0 ≤ d) : actB (exB C later tb pb ab jb b1 b2) 1000 d = true := by
 show (true && (decide ((0 : Int) ≤ d) && (((0 : Int) == 0) || decide (d < 0)))) = true
 rw [decide_eq_true h]
 rfl
theorem ex_prd {d : Int} (h : 0 ≤ d) : prdB (exB C later tb pb ab jb b1 b2) 1000 d = some 0 := by
 show bstP (fun _ => exP tb) tBasic d 1 = some 0
 exact bst_none (by simp [exP]) h rfl
theorem ex_bal {d : Int} (h0 : 0 ≤ d) : balB (exB C later tb pb ab jb b1 b2) 1000 d = (if later ≤ d then 150000 else 100000) := by
 show sumE (exE later b1 b2) 1000 (upB 73048 d) 2 = _
 by_cases h : later ≤ d
 ·rw [if_pos h]
  have e0 : upB 73048 d (exE later b1 b2 0) = true := by
   show upB 73048 d ⟨0, 0, 0, 1, 0, 0, tD, tNone, some ⟨b1, 0, none⟩, 2, 2, 0, exLs 100000⟩ = true
   simp [upB]; omega
  have e1 : upB 73048 d (exE later b1 b2 1) = true := by
   show upB 73048 d ⟨0, 0, later, 1, 0, 0, tD, tNone, some ⟨b2, 0, none⟩, 2, 2, 0, exLs 50000⟩ = true
   simp [upB]; omega
  have m1 : mvE (exE later b1 b2 0) 1000 = 100000 := by kernel_rfl
  have m2 : mvE (exE later b1 b2 1) 1000 = 50000 := by kernel_rfl
  simp only [sumE, e0, e1, m1, m2, if_true, Bool.false_eq_true, if_false]
  decide +kernel
 ·rw [if_neg h]
  have e0 : upB 73048 d (exE later b1 b2 0) = true := by
   show upB 73048 d ⟨0, 0, 0, 1, 0, 0, tD, tNone, some ⟨b1, 0, none⟩, 2, 2, 0, exLs 100000⟩ = true
   simp [upB]; omega
  have e1 : upB 73048 d (exE later b1 b2 1) = false := by
   show upB 73048 d ⟨0, 0, later, 1, 0, 0, tD, tNone, some ⟨b2, 0, none⟩, 2, 2, 0, exLs 50000⟩ = false
   simp [upB]; omega
  have m1 : mvE (exE later b1 b2 0) 1000 = 100000 := by kernel_rfl
  have m2 : mvE (exE later b1 b2 1) 1000 = 50000 := by kernel_rfl
  simp only [sumE, e0, e1, m1, m2, if_true, Bool.false_eq_true, if_false]
  decide +kernel
end
theorem ex_sl {b : Int} (hb : b = 100000 ∨ b = 150000) : slices 1 (fun _ => 0) (fun _ => 15000) false b (rate 1 (fun _ => 0) (fun _ => 15000) b) = [(b, 15000)] := by
 rcases hb with rfl | rfl <;> decide +kernel
theorem ex_gr {b : Int} (hb : b = 100000 ∨ b = 150000) : grR 1 (fsts [(b, 15000)]) (snds [(b, 15000)]) 4392 = b * 65880000 := by
 rcases hb with rfl | rfl <;> decide +kernel
theorem ex_grn (tb : Nat) {b d : Int} (hb : b = 100000 ∨ b = 150000) (hd : vday d = true) : grn (exI tb) b d = b * 65880000 := by
 have h : grn (exI tb) b d = grR (slices 1 (fun _ => 0) (fun _ => 15000) false b (rate 1 (fun _ => 0) (fun _ => 15000) b)).length (fsts (slices 1 (fun _ => 0) (fun _ => 15000) false b (rate 1 (fun _ => 0) (fun _ => 15000) b))) (snds (slices 1 (fun _ => 0) (fun _ => 15000) false b (rate 1 (fun _ => 0) (fun _ => 15000) b))) (wgt 2 d) := rfl
 rw [h, ex_sl hb, wgt_2 hd rfl]
 exact ex_gr hb
/-- The line of day k. -/
def exF (later : Int) (k : Nat) : Lin := ⟨k, k, if later ≤ k then 150000 else 100000, 4392, [(if later ≤ k then 150000 else 100000, 15000)], (if later ≤ k then 150000 else 100000) * 65880000⟩
theorem ex_line (C : Array Value) (tb pb ab jb b1 b2 : Nat) (later : Int) {k : Nat} (hk : k ≤ 9) : oneP (exB C later tb pb ab jb b1 b2) (acrN (exB C later tb pb ab jb b1 b2) 1000 0 k) = exF later k := by
 obtain ⟨b, hb⟩ : ∃ b : Int, b = if later ≤ (k : Int) then 150000 else 100000 := ⟨_, rfl⟩
 have hb2 : b = 100000 ∨ b = 150000 := by rw [hb]; split <;> simp
 have hv : vday (k : Int) = true := vday_iff.2 ⟨by omega, by omega⟩
 have hbal := ex_bal C tb pb ab jb b1 b2 later (d := (k : Int)) (by omega)
 rw [← hb] at hbal
 have ha : acrN (exB C later tb pb ab jb b1 b2) 1000 0 k = ⟨1000, k, b, b * 65880000, 0⟩ := by
  unfold acrN
  rw [Int.zero_add, acr_pos (ex_act C tb pb ab jb b1 b2 later (by omega)) (ex_prd C tb pb ab jb b1 b2 later (by omega)) (by rw [hbal]; omega), hbal]
  show (⟨1000, (k : Int), b, grn (exI tb) b k, 0⟩ : LAcr) = _
  rw [ex_grn tb hb2 hv]
 have hs : oneS (exB C later tb pb ab jb b1 b2) 1000 k b = [(b, 15000)] := by
  unfold oneS
  rw [if_pos (ex_act C tb pb ab jb b1 b2 later (by omega)), ex_prd C tb pb ab jb b1 b2 later (by omega)]
  have : sdP (exP tb) b = exI tb := by unfold sdP; split <;> rfl
  show sliL (sdP (exP tb) b) b = _
  rw [this]
  exact ex_sl hb2
 have hw : oneW (exB C later tb pb ab jb b1 b2) 1000 k b = 4392 := by
  unfold oneW
  rw [hs, if_neg (by simp), ex_prd C tb pb ab jb b1 b2 later (by omega)]
  have : (sdP (exP tb) b).ba = 2 := by unfold sdP; split <;> rfl
  show wgt (sdP (exP tb) b).ba k = _
  rw [this]
  exact wgt_2 hv rfl
 rw [ha]
 show (⟨(k : Int), k, b, oneW _ 1000 k b, oneS _ 1000 k b, b * 65880000 - 0⟩ : Lin) = _
 rw [hs, hw, Int.sub_zero, hb]
 rfl
theorem lnS_congr {f g : Nat → Lin} : ∀ {k : Nat}, (∀ i, i ≤ k → f i = g i) → lnS f k = lnS g k
 | 0, h => by show ([], f 0) = ([], g 0); rw [h 0 (Nat.le_refl _)]
 | k + 1, h => by rw [lnS_succ, lnS_succ, lnS_congr (fun i hi => h i (by omega)), h (k + 1) (Nat.le_refl _)]
theorem lnL_congr {f g : Nat → Lin} {n : Nat} (h : ∀ i, i < n → f i = g i) : lnL f n = lnL g n := by
 cases n with
 | zero => rfl
 | succ k =>
  show (lnS f k).1 ++ [(lnS f k).2] = (lnS g k).1 ++ [(lnS g k).2]
  rw [lnS_congr (fun i hi => h i (by omega))]
def exL1 : Lin := ⟨0, 9, 100000, 43920, [(100000, 15000)], 65880000000000⟩
def exL2 : Lin := ⟨0, 4, 100000, 21960, [(100000, 15000)], 32940000000000⟩
def exL3 : Lin := ⟨5, 9, 150000, 21960, [(150000, 15000)], 49410000000000⟩
theorem ex_ln20 : lnL (exF 20) 10 = [exL1] := by kernel_rfl
theorem ex_ln5 : lnL (exF 5) 10 = [exL2, exL3] := by kernel_rfl
end Go.Proofs.YtdjlaiilngechaaGreatDoor
namespace Go.Proofs.YtdjlaiilngechaaGreatDoor
set_option maxRecDepth 4000
set_option linter.unusedSimpArgs false
set_option linter.unusedVariables false
open Go.RowKit
theorem len64_g (w : World) : Calls Tryz.prog 164 #[.int .u64 1603080000000] w fun e w' => e = .returned (.int .i64 41) ∧ w = w' := by
 go_enter Tryz.func164, Tryz.ntmps164
 go_wp2_with fail
 go_ret
 exact ⟨by kernel_rfl, rfl⟩
theorem lz64_g (w : World) : Calls Tryz.prog 172 #[.int .u64 1603080000000] w fun e w' => e = .returned (.int .i64 23) ∧ w = w' := by
 go_enter Tryz.func172, Tryz.ntmps172
 go_wp2_with fail
 refine (len64_g _).mono ?_
 rintro e w1 ⟨rfl, rfl⟩
 go_wp2_with fail
 go_ret
 exact ⟨rfl, rfl⟩
set_option maxHeartbeats 1000000 in
theorem div64_zero (lo : Int) (l1 : 0 ≤ lo) (l2 : lo < 18446744073709551616) (w : World) :
  Calls Tryz.prog 168 #[.int .u64 0, .int .u64 lo, .int .u64 1603080000000] w fun e w' => e = .returned (.tuple #[.int .u64 (lo / 1603080000000), .int .u64 (lo % 1603080000000)]) ∧ Below w.heap.size w w' := by
 have z1 : IntKind.u64.wrap (lo.tdiv 1603080000000) = lo / 1603080000000 := by rw [wrapU, Int.tdiv_eq_ediv_of_nonneg l1]; omega
 have z2 : lo.tmod 1603080000000 = lo % 1603080000000 := Int.tmod_eq_emod_of_nonneg l1
 have z3 : IntKind.u64.wrap (lo % 1603080000000) = lo % 1603080000000 := by rw [wrapU]; omega
 go_enter Tryz.func168, Tryz.ntmps168
 go_wp2_with fail
 refine wp_region_seq (SB (w.heap.size) [] _) [true, true, true, true, true, true, true, true] (by kernel_rfl) (by kernel_rfl) rfl (by kernel_rfl) (fun _ _ d _ _ h => by cases d <;> exact h) SB.refl.drew (fun hHeld => ?_)
 refine seq_take ?_ (by rfl) (fun wx hSx => ?_) ?_
 rotate_left
 ·(unfold SB at hSx; go_simp; (try with_reducible rfl))
 (try simp only [Act.put, putS])
 refine seq_take ?_ (by rfl) (fun wx hSx => ?_) ?_
 rotate_left
 ·(unfold SB at hSx; go_simp; (try with_reducible rfl))
 (try simp only [Act.put, putS])
 refine seq_take ?_ (by rfl) (fun wx hSx => ?_) ?_
 rotate_left
 ·(unfold SB at hSx; go_simp; (try with_reducible rfl))
 (try simp only [Act.put, putS])
 refine seq_take ?_ (by rfl) (fun wx hSx => ?_) ?_
 rotate_left
 ·(unfold SB at hSx; go_simp; (try with_reducible rfl))
 (try simp only [Act.put, putS])
 refine seq_take ?_ (by rfl) (fun wx hSx => ?_) ?_
 rotate_left
 ·(unfold SB at hSx; go_simp; (try with_reducible rfl))
 (try simp only [Act.put, putS])
 refine seq_take ?_ (by rfl) (fun wx hSx => ?_) ?_
 rotate_left
 ·(unfold SB at hSx; go_simp; (try with_reducible rfl))
 (try simp only [Act.put, putS])
 refine seq_take ?_ (by rfl) (fun wx hSx => ?_) ?_
 rotate_left
 ·(unfold SB at hSx; go_simp; (try with_reducible rfl))
 (try simp only [Act.put, putS])
 refine seq_take ?_ (by rfl) (fun wx hSx => ?_) ?_
 rotate_left
 ·(unfold SB at hSx; go_simp; (try with_reducible rfl))
 (try simp only [Act.put, putS])
 refine seq_end ?_
 go_wp2_with fail
 go_ret2
 exact ⟨rfl, by (repeat (first | (with_reducible first | exact Below.refl _ _ | assumption | refine Below.drew ?_) | ((with_reducible first | refine Below.alloc ?_ ?_ _ | refine Below.setCell ?_ ?_ _); rotate_left; (first | omega | (simp <;> omega)))))⟩
theorem orN (a b : Nat) (h : b < 8388608) (ha : a * 8388608 < 18446744073709551616) : bits .or .u64 ((a * 8388608 : Nat) : Int) (b : Int) = ((a * 8388608 + b : Nat) : Int) := by
 have h1 := bits_or_u64_nat (a * 8388608) b ha (by omega)
 rw [h1]
 have h2 := Nat.shiftLeft_add_eq_or_of_lt (i := 23) (show b < 2 ^ 23 from h) a
 rw [Nat.shiftLeft_eq] at h2
 exact congrArg _ h2.symm
def Dv0 (q r : Int) (w : World) (v15 v16 : Value) (wr : World) : Prop := v15 = .int .u64 q ∧ v16 = .int .u64 r ∧ wr = w
set_option maxHeartbeats 4000000 in
theorem div64_some (hi lo : Int) (h1 : 0 < hi) (h2 : hi < 1603080000000) (l1 : 0 ≤ lo) (l2 : lo < 18446744073709551616) (w : World) :
  Calls Tryz.prog 168 #[.int .u64 hi, .int .u64 lo, .int .u64 1603080000000] w fun e w' => e = .returned (.tuple #[.int .u64 ((hi * 18446744073709551616 + lo) / 1603080000000), .int .u64 ((hi * 18446744073709551616 + lo) % 1603080000000)]) ∧ w = w' := by
 have h3 : ¬ 1603080000000 ≤ hi := by omega
 obtain ⟨u, hu⟩ : ∃ u, u = hi * 8388608 + lo / 2199023255552 := ⟨_, rfl⟩
 obtain ⟨t, ht⟩ : ∃ t, t = (lo * 8388608) % 18446744073709551616 := ⟨_, rfl⟩
 obtain ⟨t1, ht1⟩ : ∃ t1, t1 = t / 4294967296 := ⟨_, rfl⟩
 obtain ⟨t0, ht0⟩ : ∃ t0, t0 = t % 4294967296 := ⟨_, rfl⟩
 obtain ⟨q, hq⟩ : ∃ q, q = u / 3131015625 := ⟨_, rfl⟩
 obtain ⟨r, hr⟩ : ∃ r, r = u % 3131015625 := ⟨_, rfl⟩
 obtain ⟨v, hv⟩ : ∃ v, v = r * 4294967296 + t1 := ⟨_, rfl⟩
 obtain ⟨p, hp⟩ : ∃ p, p = v / 3131015625 := ⟨_, rfl⟩
 obtain ⟨s, hs⟩ : ∃ s, s = v % 3131015625 := ⟨_, rfl⟩
 have bu : 0 ≤ u ∧ u < 13447609712640000000 := by omega
 have bt : 0 ≤ t ∧ t < 18446744073709551616 := by omega
 have bt1 : 0 ≤ t1 ∧ t1 < 4294967296 := by omega
 have bt0 : 0 ≤ t0 ∧ t0 < 4294967296 := by omega
 have bq : 0 ≤ q ∧ q < 4294967296 := by omega
 have br : 0 ≤ r ∧ r < 3131015625 := by omega
 have bv : 0 ≤ v ∧ v < 13447609712640000000 := by omega
 have bp : 0 ≤ p ∧ p < 4294967296 := by omega
 have bs : 0 ≤ s ∧ s < 3131015625 := by omega
 have e1 : bits .and .u64 13447609712640000000 4294967295 = 0 := by decide +kernel
 have e2 : bits .or .u64 (hi * 8388608) (lo / 2199023255552) = u := by
  obtain ⟨a, rfl⟩ := Int.eq_ofNat_of_zero_le (Int.le_of_lt h1)
  obtain ⟨b, hb⟩ := Int.eq_ofNat_of_zero_le (show 0 ≤ lo / 2199023255552 by omega)
  rw [hb, show ((a : Int) * 8388608) = ((a * 8388608 : Nat) : Int) by simp, orN a b (by omega) (by omega), hu, hb]
  simp
 have e3 : IntKind.u64.wrap (lo * 8388608) = t := by rw [wrapU, ht]
 have e4 : bits .and .u64 t 4294967295 = t0 := by
  obtain ⟨a, rfl⟩ := Int.eq_ofNat_of_zero_le bt.1
  rw [maskN a (by omega), ht0]; simp
 have e6 : IntKind.u64.wrap (u.tdiv 3131015625) = q := by rw [wrapU, Int.tdiv_eq_ediv_of_nonneg bu.1]; omega
 have e7 : IntKind.u64.wrap (q * 3131015625) = q * 3131015625 := by rw [wrapU]; omega
 have e8 : IntKind.u64.wrap (u - q * 3131015625) = r := by rw [wrapU]; omega
 have e9 : IntKind.u64.wrap (IntKind.u64.wrap (IntKind.u64.wrap (u * 4294967296) + t1) - IntKind.u64.wrap (q * 13447609712640000000)) = v := by simp only [wrapU]; omega
 have e10 : IntKind.u64.wrap (v.tdiv 3131015625) = p := by rw [wrapU, Int.tdiv_eq_ediv_of_nonneg bv.1]; omega
 have e11 : IntKind.u64.wrap (p * 3131015625) = p * 3131015625 := by rw [wrapU]; omega
 have e12 : IntKind.u64.wrap (v - p * 3131015625) = s := by rw [wrapU]; omega
 have HZ := hide (show IntKind.u64.wrap (IntKind.u64.wrap (q * 4294967296) + p) = q * 4294967296 + p ∧ IntKind.u64.wrap (IntKind.u64.wrap (IntKind.u64.wrap (v * 4294967296) + t0) - IntKind.u64.wrap (p * 13447609712640000000)) = s * 4294967296 + t0 by simp only [wrapU]; omega)
 have HE := hide (show (hi * 18446744073709551616 + lo) / 1603080000000 = q * 4294967296 + p ∧ (hi * 18446744073709551616 + lo) % 1603080000000 = (s * 4294967296 + t0) / 8388608 by omega)
 have ht1' := ht1.symm
 have HQ := hide (And.intro hq (And.intro hr (And.intro hv (And.intro hp hs))))
 have HU := hide (And.intro hu (And.intro ht (And.intro ht1 ht0)))
 obtain ⟨u0, u1⟩ := bu
 obtain ⟨q0, q1⟩ := bq
 obtain ⟨r0, r1⟩ := br
 obtain ⟨s0, s1⟩ := bs
 obtain ⟨p0, p1⟩ := bp
 obtain ⟨v0, v1⟩ := bv
 obtain ⟨x0, x1⟩ := bt1
 obtain ⟨y0, y1⟩ := bt0
 clear hu ht ht1 ht0 hq hr hv hp hs bt
 go_enter Tryz.func168, Tryz.ntmps168
 go_wp2_with fail
 refine (lz64_g _).mono ?_
 rintro e w1 ⟨rfl, rfl⟩
 go_wp2_with fail
 go_loopw [15, 16] (fun v15 v16 wr => Dv0 q r w v15 v16 wr) (fun _ _ _ => 0)
 case atStart => exact ⟨rfl, rfl, rfl⟩
 case round =>
  obtain ⟨rfl, rfl, rfl⟩ := hrel
  go_wp2_with fail
  go_loopw [18, 16] (fun v15 v16 wr2 => Dv0 p s wr v15 v16 wr2) (fun _ _ _ => 0)
  case atStart => exact ⟨rfl, rfl, rfl⟩
  case round =>
   obtain ⟨rfl, rfl, rfl⟩ := hrel
   go_wp2_with fail
   go_ret2
   exact ⟨by rw [HE.out.1, HE.out.2, ← HZ.out.1, ← HZ.out.2]; rfl, rfl⟩
theorem div64_any (hi lo : Int) (h1 : 0 ≤ hi) (h2 : hi < 1603080000000) (l1 : 0 ≤ lo) (l2 : lo < 18446744073709551616) (w : World) :
  Calls Tryz.prog 168 #[.int .u64 hi, .int .u64 lo, .int .u64 1603080000000] w fun e w' => e = .returned (.tuple #[.int .u64 ((hi * 18446744073709551616 + lo) / 1603080000000), .int .u64 ((hi * 18446744073709551616 + lo) % 1603080000000)]) ∧ Below w.heap.size w w' := by
 rcases Int.lt_or_eq_of_le h1 with h | h
 ·refine (div64_some hi lo h h2 l1 l2 w).mono ?_
  rintro e w' ⟨rfl, rfl⟩
  exact ⟨rfl, Below.refl _ _⟩
 ·subst h
  have t := div64_zero lo l1 l2 w
  rw [Int.zero_mul, Int.zero_add]
  exact t
theorem quo_parts {m : Int} (hm : MIn m) : hiW m / 1603080000000 = hiW (m / 1603080000000) ∧ (hiW m % 1603080000000 * 18446744073709551616 + loW m) / 1603080000000 = loW (m / 1603080000000) ∧ (hiW m % 1603080000000 * 18446744073709551616 + loW m) % 1603080000000 = m % 1603080000000 := by
 unfold MIn at hm
 unfold hiW loW
 refine ⟨by omega, by omega, by omega⟩
set_option maxHeartbeats 1000000 in
theorem divide_any (m : Int) (hm : MIn m) (w : World) :
  Calls Tryz.prog 159 #[.agg #[.int .u64 (hiW m), .int .u64 (loW m)], .int .u64 1603080000000] w fun e w' => e = .returned (.tuple #[.agg #[.int .u64 (hiW (m / 1603080000000)), .int .u64 (loW (m / 1603080000000))], .int .u64 (m % 1603080000000)]) ∧ Below w.heap.size w w' := by
 obtain ⟨a1, a2⟩ := hi_mbd hm
 obtain ⟨c1, c2⟩ := lo_bd m
 have HP := hide (quo_parts hm)
 obtain ⟨a, ha⟩ : ∃ a, a = hiW m := ⟨_, rfl⟩
 obtain ⟨l, hl⟩ : ∃ l, l = loW m := ⟨_, rfl⟩
 rw [← ha] at a1 a2 HP
 rw [← hl] at c1 c2 HP
 rw [← ha, ← hl]
 clear ha hl
 have z1 : a.tmod 1603080000000 = a % 1603080000000 := Int.tmod_eq_emod_of_nonneg a1
 have z3 : IntKind.u64.wrap (a % 1603080000000) = a % 1603080000000 := by rw [wrapU]; omega
 have z2 : IntKind.u64.wrap (a.tdiv 1603080000000) = a / 1603080000000 := by rw [wrapU, Int.tdiv_eq_ediv_of_nonneg a1]; omega
 have HD := hide (div64_any (a % 1603080000000) l (by omega) (by omega) c1 c2)
 go_enter Tryz.func159, Tryz.ntmps159
 go_wp2_with fail
 refine wp_region_seq (SB (w.heap.size + 2) [] _) [true, true, true, true, true, true, true, false, true, true, true, true, true] (by kernel_rfl) (by kernel_rfl) rfl (by kernel_rfl) (fun _ _ d _ _ h => by cases d <;> exact h) SB.refl.drew (fun hHeld => ?_)
 refine seq_take ?_ (by rfl) (fun wx hSx => ?_) ?_
 rotate_left
 ·(unfold SB at hSx; go_simp; (try with_reducible rfl))
 (try simp only [Act.put, putS])
 refine seq_take ?_ (by rfl) (fun wx hSx => ?_) ?_
 rotate_left
 ·(unfold SB at hSx; go_simp; (try with_reducible rfl))
 (try simp only [Act.put, putS])
 refine seq_take ?_ (by rfl) (fun wx hSx => ?_) ?_
 rotate_left
 ·(unfold SB at hSx; go_simp; (try with_reducible rfl))
 (try simp only [Act.put, putS])
 refine seq_take ?_ (by rfl) (fun wx hSx => ?_) ?_
 rotate_left
 ·(unfold SB at hSx; go_simp; (try with_reducible rfl))
 (try simp only [Act.put, putS])
 refine seq_take ?_ (by rfl) (fun wx hSx => ?_) ?_
 rotate_left
 ·(unfold SB at hSx; go_simp; (try with_reducible rfl))
 (try simp only [Act.put, putS])
 refine seq_take ?_ (by rfl) (fun wx hSx => ?_) ?_
 rotate_left
 ·(unfold SB at hSx; go_simp; (try with_reducible rfl))
 (try simp only [Act.put, putS])
 refine seq_take ?_ (by rfl) (fun wx hSx => ?_) ?_
 rotate_left
 ·(unfold SB at hSx; go_simp; (try with_reducible rfl))
 (try simp only [Act.put, putS])
 refine seq_run (by rfl) (fun K hK => ?_)
 go_simp
 go_wp2_with (go_at_call 168; refine (HD.out _).mono ?_; rintro e w3 ⟨rfl, hb⟩; have q3B : Below w.heap.size w w3 := qB hb; have q3z := hb.size; (try simp at q3z); have q3t : w.heap.size ≤ w3.heap.size := (by omega); have q3s0 : w.heap.size < w3.heap.size := (by omega); obtain ⟨q3n0_0, q3n0_1, q3n0_2⟩ := kN q3s0; obtain ⟨q3c0_0, q3c0_1, q3f0⟩ := kC2 hb w.heap.size; simp [go_sem, *] at q3c0_0 q3c0_1 q3f0; have q3s1 : w.heap.size + 1 < w3.heap.size := (by omega); obtain ⟨q3n1_0, q3n1_1, q3n1_2⟩ := kN q3s1; obtain ⟨q3c1_0, q3c1_1, q3f1⟩ := kC2 hb (w.heap.size + 1); simp [go_sem, *] at q3c1_0 q3c1_1 q3f1; have q3o := belO q3B; have hbS := hb; have hbS3 := hb; clear hb)
 refine hK.out _ _ ?_ (fun hHeld => ?_)
 ·exact sbT
 clear hK K
 (try simp only [Act.put, putS])
 refine seq_take ?_ (by rfl) (fun wx hSx => ?_) ?_
 rotate_left
 ·(unfold SB at hSx; go_simp; (try with_reducible rfl))
 (try simp only [Act.put, putS])
 refine seq_take ?_ (by rfl) (fun wx hSx => ?_) ?_
 rotate_left
 ·(unfold SB at hSx; go_simp; (try with_reducible rfl))
 (try simp only [Act.put, putS])
 refine seq_take ?_ (by rfl) (fun wx hSx => ?_) ?_
 rotate_left
 ·(unfold SB at hSx; go_simp; (try with_reducible rfl))
 (try simp only [Act.put, putS])
 refine seq_take ?_ (by rfl) (fun wx hSx => ?_) ?_
 rotate_left
 ·(unfold SB at hSx; go_simp; (try with_reducible rfl))
 (try simp only [Act.put, putS])
 refine seq_take ?_ (by rfl) (fun wx hSx => ?_) ?_
 rotate_left
 ·(unfold SB at hSx; go_simp; (try with_reducible rfl))
 (try simp only [Act.put, putS])
 refine seq_end ?_
 go_wp2_with fail
 refine bodyPost_ret (by simp [results, Tryz.results159, go_sem, *] <;> rfl) rfl ⟨?_, ?_⟩
 ·rw [← HP.out.1, ← HP.out.2.1, ← HP.out.2.2]
 (repeat (first | (with_reducible first | exact Below.refl _ _ | assumption | refine Below.drew ?_) | ((with_reducible first | refine Below.alloc ?_ ?_ _ | refine Below.setCell ?_ ?_ _); rotate_left; (first | omega | (simp <;> omega)))))
end Go.Proofs.YtdjlaiilngechaaGreatDoor
