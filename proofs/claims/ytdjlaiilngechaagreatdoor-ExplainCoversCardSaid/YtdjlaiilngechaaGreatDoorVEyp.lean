/- Texts laid together: Eyp ExA. -/
import Derived.Test.YtdjlaiilngechaaGreatDoorVExL
import Derived.Test.YtdjlaiilngechaaGreatDoorVAcF
import Derived.Test.YtdjlaiilngechaaGreatDoorVAcB
import Derived.Test.YtdjlaiilngechaaGreatDoorVAcJ
import Derived.Test.YtdjlaiilngechaaGreatDoorVRc
namespace Go.Proofs.YtdjlaiilngechaaGreatDoor
set_option maxRecDepth 4000
set_option linter.unusedSimpArgs false
set_option linter.unusedVariables false
open Go.RowKit
abbrev tBasic : ByteArray := ⟨#[98, 97, 115, 105, 99]⟩
abbrev tEur : ByteArray := ⟨#[69, 85, 82]⟩
abbrev tWeek : ByteArray := ⟨#[119, 101, 101, 107]⟩
abbrev tAnn : ByteArray := ⟨#[97, 110, 110]⟩
abbrev tD : ByteArray := ⟨#[100]⟩
abbrev tNone : ByteArray := ⟨#[]⟩
abbrev exLg (n : Int) : Array Value := #[.int .i64 1, .int .i64 n, .string tEur, .int .i64 1000, .int .i64 (-n), .string tEur]
abbrev exEn (d : Int) (b : Nat) : Array Value := #[.int .i64 0, .int .i64 0, .int .i64 d, .int .i64 1, .int .i64 0, .int .i64 0, .string tD, .string tNone, .slice (some ⟨b, 0, none⟩) 2 2, .int .u64 0]
abbrev exPC (tb : Nat) : Array Value := #[.string tBasic, .string tEur, .string tWeek, .int .i64 0, .int .i64 1, .int .i64 0, .int .i64 0, .slice (some ⟨tb, 0, none⟩) 1 1, .bool false, .int .i64 2, .int .i64 6, .bool false, .slice (some ⟨tb, 0, none⟩) 1 1, .bool false, .int .i64 2, .int .i64 6, .bool false, .slice none 0 0, .slice none 0 0]
def exI (tb : Nat) : LInt := ⟨some ⟨tb, 0, none⟩, 1, 1, false, 2, 6, false, fun _ => 0, fun _ => 15000⟩
def exP (tb : Nat) : LPro := ⟨exPC tb, tBasic, 0, exI tb, exI tb⟩
def exA : LAcc := ⟨1000, 0, 0, 0, tAnn, tBasic, tNone⟩
def exLs (n : Int) : Nat → LLeg
  | 0 => ⟨1, n, tEur⟩
  | _ => ⟨1000, -n, tEur⟩
def exE (later : Int) (b1 b2 : Nat) : Nat → LEnt
  | 0 => ⟨0, 0, 0, 1, 0, 0, tD, tNone, some ⟨b1, 0, none⟩, 2, 2, 0, exLs 100000⟩
  | _ => ⟨0, 0, later, 1, 0, 0, tD, tNone, some ⟨b2, 0, none⟩, 2, 2, 0, exLs 50000⟩
def exB (C : Array Value) (later : Int) (tb pb ab jb b1 b2 : Nat) : LBk := ⟨C, some ⟨ab, 0, none⟩, 1, 1, fun _ => exA, some ⟨jb, 0, none⟩, 2, 2, exE later b1 b2, some ⟨pb, 0, none⟩, 1, 1, fun _ => exP tb⟩
theorem ex_prc (tb : Nat) : PrC (exPC tb) (exP tb) := ⟨rfl, by unfold exPC; simp [Value.oneCell'], rfl, rfl, rfl, rfl, rfl, rfl, rfl, rfl, rfl, rfl, rfl, rfl⟩
section
variable (C : Array Value) (tb pb ab jb b1 b2 : Nat) (later : Int)
theorem ex_act {d : Int} (h : 0 ≤ d) : actB (exB C later tb pb ab jb b1 b2) 1000 d = true := by
  show (true && (decide ((0 : Int) ≤ d) && (((0 : Int) == 0) || decide (d < 0)))) = true
  rw [decide_eq_true h]
  rfl
theorem ex_prd {d : Int} (h : 0 ≤ d) : prdB (exB C later tb pb ab jb b1 b2) 1000 d = some 0 := by
  show bstP (fun _ => exP tb) tBasic d 1 = some 0
  exact bst_none (by simp [exP]) h rfl
theorem ex_bal {d : Int} (h0 : 0 ≤ d) : balB (exB C later tb pb ab jb b1 b2) 1000 d = (if later ≤ d then 150000 else 100000) := by
  show sumE (exE later b1 b2) 1000 (upB 73048 d) 2 = _
  by_cases h : later ≤ d
  · rw [if_pos h]
    have e0 : upB 73048 d (exE later b1 b2 0) = true := by
      show upB 73048 d ⟨0, 0, 0, 1, 0, 0, tD, tNone, some ⟨b1, 0, none⟩, 2, 2, 0, exLs 100000⟩ = true
      simp [upB]; omega
    have e1 : upB 73048 d (exE later b1 b2 1) = true := by
      show upB 73048 d ⟨0, 0, later, 1, 0, 0, tD, tNone, some ⟨b2, 0, none⟩, 2, 2, 0, exLs 50000⟩ = true
      simp [upB]; omega
    have m1 : mvE (exE later b1 b2 0) 1000 = 100000 := by kernel_rfl
    have m2 : mvE (exE later b1 b2 1) 1000 = 50000 := by kernel_rfl
    simp only [sumE, e0, e1, m1, m2, if_true, Bool.false_eq_true, if_false]
    decide +kernel
  · rw [if_neg h]
    have e0 : upB 73048 d (exE later b1 b2 0) = true := by
      show upB 73048 d ⟨0, 0, 0, 1, 0, 0, tD, tNone, some ⟨b1, 0, none⟩, 2, 2, 0, exLs 100000⟩ = true
      simp [upB]; omega
    have e1 : upB 73048 d (exE later b1 b2 1) = false := by
      show upB 73048 d ⟨0, 0, later, 1, 0, 0, tD, tNone, some ⟨b2, 0, none⟩, 2, 2, 0, exLs 50000⟩ = false
      simp [upB]; omega
    have m1 : mvE (exE later b1 b2 0) 1000 = 100000 := by kernel_rfl
    have m2 : mvE (exE later b1 b2 1) 1000 = 50000 := by kernel_rfl
    simp only [sumE, e0, e1, m1, m2, if_true, Bool.false_eq_true, if_false]
    decide +kernel
end
theorem ex_sl {b : Int} (hb : b = 100000 ∨ b = 150000) : slices 1 (fun _ => 0) (fun _ => 15000) false b (rate 1 (fun _ => 0) (fun _ => 15000) b) = [(b, 15000)] := by
  rcases hb with rfl | rfl <;> decide +kernel
theorem ex_gr {b : Int} (hb : b = 100000 ∨ b = 150000) : grR 1 (fsts [(b, 15000)]) (snds [(b, 15000)]) 4392 = b * 65880000 := by
  rcases hb with rfl | rfl <;> decide +kernel
theorem ex_grn (tb : Nat) {b d : Int} (hb : b = 100000 ∨ b = 150000) (hd : vday d = true) : grn (exI tb) b d = b * 65880000 := by
  have h : grn (exI tb) b d = grR (slices 1 (fun _ => 0) (fun _ => 15000) false b (rate 1 (fun _ => 0) (fun _ => 15000) b)).length (fsts (slices 1 (fun _ => 0) (fun _ => 15000) false b (rate 1 (fun _ => 0) (fun _ => 15000) b))) (snds (slices 1 (fun _ => 0) (fun _ => 15000) false b (rate 1 (fun _ => 0) (fun _ => 15000) b))) (wgt 2 d) := rfl
  rw [h, ex_sl hb, wgt_2 hd rfl]
  exact ex_gr hb
/-- The line of day k. -/
def exF (later : Int) (k : Nat) : Lin := ⟨k, k, if later ≤ k then 150000 else 100000, 4392, [(if later ≤ k then 150000 else 100000, 15000)], (if later ≤ k then 150000 else 100000) * 65880000⟩
theorem ex_line (C : Array Value) (tb pb ab jb b1 b2 : Nat) (later : Int) {k : Nat} (hk : k ≤ 9) : oneP (exB C later tb pb ab jb b1 b2) (acrN (exB C later tb pb ab jb b1 b2) 1000 0 k) = exF later k := by
  obtain ⟨b, hb⟩ : ∃ b : Int, b = if later ≤ (k : Int) then 150000 else 100000 := ⟨_, rfl⟩
  have hb2 : b = 100000 ∨ b = 150000 := by rw [hb]; split <;> simp
  have hv : vday (k : Int) = true := vday_iff.2 ⟨by omega, by omega⟩
  have hbal := ex_bal C tb pb ab jb b1 b2 later (d := (k : Int)) (by omega)
  rw [← hb] at hbal
  have ha : acrN (exB C later tb pb ab jb b1 b2) 1000 0 k = ⟨1000, k, b, b * 65880000, 0⟩ := by
    unfold acrN
    rw [Int.zero_add, acr_pos (ex_act C tb pb ab jb b1 b2 later (by omega)) (ex_prd C tb pb ab jb b1 b2 later (by omega)) (by rw [hbal]; omega), hbal]
    show (⟨1000, (k : Int), b, grn (exI tb) b k, 0⟩ : LAcr) = _
    rw [ex_grn tb hb2 hv]
  have hs : oneS (exB C later tb pb ab jb b1 b2) 1000 k b = [(b, 15000)] := by
    unfold oneS
    rw [if_pos (ex_act C tb pb ab jb b1 b2 later (by omega)), ex_prd C tb pb ab jb b1 b2 later (by omega)]
    have : sdP (exP tb) b = exI tb := by unfold sdP; split <;> rfl
    show sliL (sdP (exP tb) b) b = _
    rw [this]
    exact ex_sl hb2
  have hw : oneW (exB C later tb pb ab jb b1 b2) 1000 k b = 4392 := by
    unfold oneW
    rw [hs, if_neg (by simp), ex_prd C tb pb ab jb b1 b2 later (by omega)]
    have : (sdP (exP tb) b).ba = 2 := by unfold sdP; split <;> rfl
    show wgt (sdP (exP tb) b).ba k = _
    rw [this]
    exact wgt_2 hv rfl
  rw [ha]
  show (⟨(k : Int), k, b, oneW _ 1000 k b, oneS _ 1000 k b, b * 65880000 - 0⟩ : Lin) = _
  rw [hs, hw, Int.sub_zero, hb]
  rfl
theorem lnS_congr {f g : Nat → Lin} : ∀ {k : Nat}, (∀ i, i ≤ k → f i = g i) → lnS f k = lnS g k
  | 0, h => by show ([], f 0) = ([], g 0); rw [h 0 (Nat.le_refl _)]
  | k + 1, h => by rw [lnS_succ, lnS_succ, lnS_congr (fun i hi => h i (by omega)), h (k + 1) (Nat.le_refl _)]
theorem lnL_congr {f g : Nat → Lin} {n : Nat} (h : ∀ i, i < n → f i = g i) : lnL f n = lnL g n := by
  cases n with
  | zero => rfl
  | succ k =>
    show (lnS f k).1 ++ [(lnS f k).2] = (lnS g k).1 ++ [(lnS g k).2]
    rw [lnS_congr (fun i hi => h i (by omega))]
def exL1 : Lin := ⟨0, 9, 100000, 43920, [(100000, 15000)], 65880000000000⟩
def exL2 : Lin := ⟨0, 4, 100000, 21960, [(100000, 15000)], 32940000000000⟩
def exL3 : Lin := ⟨5, 9, 150000, 21960, [(150000, 15000)], 49410000000000⟩
theorem ex_ln20 : lnL (exF 20) 10 = [exL1] := by kernel_rfl
theorem ex_ln5 : lnL (exF 5) 10 = [exL2, exL3] := by kernel_rfl
end Go.Proofs.YtdjlaiilngechaaGreatDoor
namespace Go.Proofs.YtdjlaiilngechaaGreatDoor
set_option maxRecDepth 4000
set_option linter.unusedSimpArgs false
set_option linter.unusedVariables false
open Go.RowKit
theorem run_sub64 {P : Program} (x y : Int) (hx : 0 ≤ x) (hx2 : x < 18446744073709551616) (hy : 0 ≤ y) (hy2 : y < 18446744073709551616) (w : World) :
    ((Extern.MathBitsCarry.rows[1]'(by decide)).2 #[.int .u64 x, .int .u64 y, .int .u64 0]).run P w = .ok (.tuple #[.int .u64 (loW (x - y)), .int .u64 (-hiW (x - y))]) w := by
  have key : ((Extern.MathBitsCarry.rows[1]'(by decide)).2 #[.int .u64 x, .int .u64 y, .int .u64 0]).run P w =
      .ok (Extern.MathBitsCarry.pair ((x.toNat + Extern.MathBitsCarry.m64 - y.toNat - 0) % Extern.MathBitsCarry.m64) (if x.toNat < y.toNat + 0 then 1 else 0)) w := rfl
  rw [key]
  obtain ⟨X, rfl⟩ := Int.eq_ofNat_of_zero_le hx
  obtain ⟨Y, rfl⟩ := Int.eq_ofNat_of_zero_le hy
  simp only [Extern.MathBitsCarry.pair, Extern.MathBitsCarry.m64, Int.toNat_natCast, Nat.add_zero, Nat.sub_zero]
  have e1 : Int.ofNat ((X + 2 ^ 64 - Y) % 2 ^ 64) = loW ((X : Int) - Y) := by
    unfold loW
    show (((X + 2 ^ 64 - Y) % 2 ^ 64 : Nat) : Int) = _
    omega
  have e2 : Int.ofNat (if X < Y then 1 else 0) = -hiW ((X : Int) - Y) := by
    unfold hiW
    split
    · show (1 : Int) = _; omega
    · show (0 : Int) = _; omega
  rw [e1, e2]
theorem sub64_0 (x y : Int) (hx : 0 ≤ x) (hx2 : x < 18446744073709551616) (hy : 0 ≤ y) (hy2 : y < 18446744073709551616) (w : World) : (callFunc 45 #[.int .u64 x, .int .u64 y, .int .u64 0]).run Tryz.prog w =
    .ok (.value (.tuple #[.int .u64 (loW (x - y)), .int .u64 (-hiW (x - y))])) w := by
  rw [run_callFunc_extern Tryz.func45 (by kernel_rfl) (by kernel_rfl) (by kernel_rfl) (e := (Extern.MathBitsCarry.rows[1]'(by decide)).2) (by kernel_rfl), run_sub64 x y hx hx2 hy hy2]
  rfl
theorem sub_sum (x y : Int) : x - y = (hiW x - hiW y - -hiW (loW x - loW y)) * 18446744073709551616 + loW (loW x - loW y) := by unfold hiW loW; omega
theorem sub_parts (x y : Int) : hiW (x - y) = hiW x - hiW y - -hiW (loW x - loW y) ∧ loW (x - y) = loW (loW x - loW y) :=
  of_hi_lo (sub_sum x y) (lo_bd _).1 (lo_bd _).2
theorem sub_win (x y : Int) : WIn (x - y) ↔ -9223372036854775808 ≤ hiW x - hiW y - -hiW (loW x - loW y) ∧ hiW x - hiW y - -hiW (loW x - loW y) ≤ 9223372036854775807 :=
  win_hi (sub_sum x y) (lo_bd _).1 (lo_bd _).2
theorem sub_wrap (a b c : Int) (a1 : -9223372036854775808 ≤ a) (a2 : a ≤ 9223372036854775807) (b1 : -9223372036854775808 ≤ b) (b2 : b ≤ 9223372036854775807) (c1 : 0 ≤ c) (c2 : c ≤ 1) :
    (¬ (a < 0 ↔ b < 0) → (wrap64 (wrap64 (a - b) - c) < 0 ↔ a < 0) → -9223372036854775808 ≤ a - b - c ∧ a - b - c ≤ 9223372036854775807 ∧ wrap64 (wrap64 (a - b) - c) = a - b - c) ∧
    (¬ (a < 0 ↔ b < 0) → ¬ (wrap64 (wrap64 (a - b) - c) < 0 ↔ a < 0) → ¬ (-9223372036854775808 ≤ a - b - c ∧ a - b - c ≤ 9223372036854775807)) ∧
    ((a < 0 ↔ b < 0) → -9223372036854775808 ≤ a - b - c ∧ a - b - c ≤ 9223372036854775807 ∧ wrap64 (wrap64 (a - b) - c) = a - b - c) := by
  unfold wrap64; omega
theorem bne_iff2 {p q : Prop} [Decidable p] [Decidable q] : (!decide p == decide q) = true ↔ ¬ (p ↔ q) := by
  by_cases hp : p <;> by_cases hq : q <;> simp [hp, hq]
set_option maxHeartbeats 400000 in
theorem wsub_any (x y : Int) (hx : WIn x) (hy : WIn y) (w : World) :
    Calls Tryz.prog 24 #[.agg #[.int .i64 (hiW x), .int .u64 (loW x)], .agg #[.int .i64 (hiW y), .int .u64 (loW y)]] w fun e w' =>
      e = .returned (.tuple #[.agg #[.int .i64 (hiW (fitR (x - y))), .int .u64 (loW (fitR (x - y)))], .int .i64 (fitE (x - y))]) ∧ Below w.heap.size w w' := by
  obtain ⟨a1, a2⟩ := hi_bd hx; obtain ⟨b1, b2⟩ := hi_bd hy; obtain ⟨c1, c2⟩ := lo_bd x; obtain ⟨d1, d2⟩ := lo_bd y
  have k0 : 0 ≤ -hiW (loW x - loW y) := by unfold hiW; omega
  have k1 : -hiW (loW x - loW y) ≤ 1 := by unfold hiW; omega
  have HW := hide (sub_win x y)
  have HP := hide (sub_parts x y)
  obtain ⟨m1, m2, m3⟩ := sub_wrap _ _ _ a1 a2 b1 b2 k0 k1
  have HS := hide (sub64_0 (loW x) (loW y) c1 c2 d1 d2)
  obtain ⟨c, hc⟩ : ∃ c, c = -hiW (loW x - loW y) := ⟨_, rfl⟩
  rw [← hc] at k0 k1 HW HP m1 m2 m3 HS
  have M1 := hide m1; have M2 := hide m2; have M3 := hide m3
  clear m1 m2 m3 hc
  go_enter Tryz.func24, Tryz.ntmps24
  go_wp2_with (simp only [HS.out])
  · rename_i h1
    have hn := M3.out (by simpa using h1)
    have hw : WIn (x - y) := by rw [HW.out]; exact ⟨hn.1, hn.2.1⟩
    rw [fitR_of hw, fitE_of hw]
    refine bodyPost_ret (v := .tuple #[.agg #[.int .i64 (wrap64 (wrap64 (hiW x - hiW y) - c)), .int .u64 (loW (loW x - loW y))], .int .i64 0]) (by simp [results, Tryz.results24, go_sem]) rfl ⟨?_, ?_⟩
    · rw [hn.2.2, HP.out.1, HP.out.2]
    (repeat (first | (with_reducible first | exact Below.refl _ _ | assumption | refine Below.drew ?_) | ((with_reducible first | refine Below.alloc ?_ ?_ _ | refine Below.setCell ?_ ?_ _); rotate_left; (first | omega | (simp <;> omega)))))
  · rename_i h1
    have hn : ¬ WIn (x - y) := by rw [HW.out]; exact M2.out (bne_iff2.1 h1.1) (bne_iff2.1 h1.2)
    rw [fitR_not hn, fitE_not hn, hi_zero, lo_zero]
    refine bodyPost_ret (v := .tuple #[.agg #[.int .i64 0, .int .u64 0], .int .i64 6]) (by simp [results, Tryz.results24, go_sem]) rfl ⟨rfl, ?_⟩
    (repeat (first | (with_reducible first | exact Below.refl _ _ | assumption | refine Below.drew ?_) | ((with_reducible first | refine Below.alloc ?_ ?_ _ | refine Below.setCell ?_ ?_ _); rotate_left; (first | omega | (simp <;> omega)))))
  · rename_i h2
    have hn : -9223372036854775808 ≤ hiW x - hiW y - c ∧ hiW x - hiW y - c ≤ 9223372036854775807 ∧ wrap64 (wrap64 (hiW x - hiW y) - c) = hiW x - hiW y - c := by
      by_cases h1 : (hiW x < 0 ↔ hiW y < 0)
      · exact M3.out h1
      · rcases h2 with h2 | h2
        · exact absurd (bne_iff2.2 h1) (by rw [h2]; decide)
        · exact M1.out h1 (Classical.byContradiction fun h => absurd (bne_iff2.2 h) (by rw [h2]; decide))
    have hw : WIn (x - y) := by rw [HW.out]; exact ⟨hn.1, hn.2.1⟩
    rw [fitR_of hw, fitE_of hw]
    refine bodyPost_ret (v := .tuple #[.agg #[.int .i64 (wrap64 (wrap64 (hiW x - hiW y) - c)), .int .u64 (loW (loW x - loW y))], .int .i64 0]) (by simp [results, Tryz.results24, go_sem]) rfl ⟨?_, ?_⟩
    · rw [hn.2.2, HP.out.1, HP.out.2]
    (repeat (first | (with_reducible first | exact Below.refl _ _ | assumption | refine Below.drew ?_) | ((with_reducible first | refine Below.alloc ?_ ?_ _ | refine Below.setCell ?_ ?_ _); rotate_left; (first | omega | (simp <;> omega)))))
end Go.Proofs.YtdjlaiilngechaaGreatDoor
