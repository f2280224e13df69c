/- Texts laid together: TpG TpH. -/
import Derived.Test.YtpghciiifnjimaaGreatDoorXTpF
import Derived.Test.YtpghciiifnjimaaGreatDoorXTrM
import Derived.OwnWalk
import Derived.Test.YtpghciiifnjimaaGreatDoorXK0
namespace Go.Proofs.YtpghciiifnjimaaGreatDoor
set_option maxRecDepth 4000
set_option linter.unusedSimpArgs false
set_option linter.unusedVariables false
open Go.RowKit
def sumN (f : Nat → Nat) : Nat → Nat
 | 0 => 0
 | n + 1 => sumN f n + f n
/-- The nodes below a cell. -/
def nodesT : Tr → Nat
 | .lf _ => 0
 | .row n _ c => sumN (fun k => 1 + nodesT (c k 3)) n
/-- The nodes of an expression. -/
def nodesE (ck : Nat → Tr) : Nat := 1 + nodesT (ck 3)
theorem nodesE_row {ck : Nat → Tr} {n sz : Nat} {c : Nat → Nat → Tr} (h : ck 3 = .row n sz c) : nodesE ck = 1 + sumN (fun k => nodesE (c k)) n := by
 unfold nodesE
 rw [h]
 rfl
/-- By induction over expressions. -/
theorem treeK {P : (Nat → Tr) → Prop} (step : ∀ ck, KnOK 5 ck → (∀ n c, ck 3 = .row n (tbl 5).length c → ∀ k, k < n → P (c k)) → P ck) : ∀ (T : Tr) (n : Nat) (c : Nat → Nat → Tr), T = .row n (tbl 5).length c → T.wt (.sl 5) → ∀ k, k < n → P (c k) := fun T => by
 induction T with
 | lf v => intro n c h; cases h
 | row n sz c ih =>
  intro n' c' h hwt k hk
  injection h with h1 h2 h3
  subst h1 h2 h3
  have kn : KnOK 5 (c k) := fun j hj => hwt.2.2 k j hk hj
  exact step (c k) kn (fun n2 c2 h2 k2 hk2 => ih k 3 n2 c2 h2 (kn 3 (by decide)) k2 hk2)
theorem treeE {P : (Nat → Tr) → Prop} (step : ∀ ck, KnOK 5 ck → (∀ n c, ck 3 = .row n (tbl 5).length c → ∀ k, k < n → P (c k)) → P ck) {ck : Nat → Tr} (kn : KnOK 5 ck) : P ck :=
 step ck kn fun n c h k hk => treeK step _ n c h (kn 3 (by decide)) k hk
def CnI (n : Nat) (f : Nat → Nat) (most : Int) (W : World) (v5 v6 : Value) (wr : World) : Prop := ∃ (k : Nat) (s : Int), k ≤ n ∧ v6 = .int .i64 k ∧ v5 = .int .i64 s ∧ 1 ≤ s ∧ s ≤ most + 1 ∧ (s ≤ most → s = 1 + sumN f k) ∧ Below W.heap.size W wr
def CnOK (ck : Nat → Tr) : Prop := ∀ (w : World) (X : Array Value) (most : Int), ElT (Old w) w 5 ck X → 0 ≤ most → most ≤ 1000 →
 Calls Tryz.prog 324 #[.agg X, .int .i64 most] w fun r w' => ∃ m : Int, r = .returned (.int .i64 m) ∧ 1 ≤ m ∧ m ≤ most + 1 ∧ (m ≤ most → m = nodesE ck) ∧ Below w.heap.size w w'
set_option maxRecDepth 8000 in
set_option maxHeartbeats 4000000 in
theorem cn_expr (ck : Nat → Tr) (hw : KnOK 5 ck) (hE : ∀ n c, ck 3 = .row n (tbl 5).length c → ∀ k, k < n → CnOK (c k)) : CnOK ck := by
 intro w X most hX hm0 hm1
 obtain ⟨n3, c3, hc3, hk3, A3, cap3, C3, e3, _, hA3⟩ := rd_row (e := 5) (hX.rd 3 (by decide)) (hw 3 (by decide))
 have g3 : X[3]? = some (.slice A3 n3 cap3) := at_eq (show X.size = 4 from hX.size) (by decide) e3
 have HE := hide (fun k hk => hE n3 c3 hc3 k hk)
 have HND := hide (nodesE_row hc3)
 have HA := hide hA3
 have HK := hide hk3
 have hn : n3 ≤ 140737488351232 := by have := hk3.room; simp only [tby] at this; omega
 clear e3 hA3 hk3 hc3 hE hX hw
 go_enter Tryz.func324, Tryz.ntmps324
 go_wp2_with fail
 go_loopw [5, 6] (fun v5 v6 wr => CnI n3 (fun k => nodesE (c3 k)) most (w.alloc (.cells X 226)) v5 v6 wr) (fun _ v _ => n3 - (intOf v).toNat)
 case atStart => exact ⟨0, 1, by omega, rfl, rfl, by omega, by omega, fun _ => rfl, Below.refl _ _⟩
 case round =>
  obtain ⟨k, s, hkn, rfl, rfl, hs1, hs2, hs3, hb⟩ := hrel
  have H0 := hide hb
  have HS3 := hide hs3
  clear hs3
  have q1B : Below w.heap.size w wr := qB hb
  have q1z := hb.size
  try simp at q1z
  have q1t : w.heap.size ≤ wr.heap.size := (by omega)
  obtain ⟨q1s0, q1n0_0, q1n0_1, q1n0_2⟩ := kB wr.heap.size w.heap.size
  have q1c0_3 := cel hb w.heap.size 3
  simp [go_sem, *] at q1c0_3
  have q1f0 := fun o => fro hb w.heap.size o
  simp [go_sem, *] at q1f0
  have q1o := belO q1B
  clear hb
  by_cases hlt : k < n3
  ·have hm : (k : Int) < n3 := by omega
   have hk0 : (0 : Int) ≤ k := by omega
   have HLT := hide hlt
   by_cases hle : s ≤ most
   ·have QB := hide q1B
    obtain ⟨b, off, rfl, hbl, hc⟩ := (HA.out.below q1B).cells (by decide) hlt
    have HC := hide (show ∀ j v, (elA 5 C3 k)[j]? = some v → wr.cell? ⟨b, off + k * 4 + j, none⟩ = some v from hc)
    have HX := hide ((HA.out.below q1B).el HK.out hlt)
    have HS := hide (ex_size (elA_size 5 C3 k))
    clear hc hlt
    go_wp2_with (with_reducible refine wpList_load_midA rfl 226 (.tmp 23) rfl b (off + k * 4) rfl (elA 5 C3 k) _ HC.out Tryz.underlying226 rfl HS.out ?_)
    refine (HE.out k HLT.out _ _ (most - s) HX.out (by omega) (by omega)).mono ?_
    rintro r w5 ⟨m, rfl, hq1, hq2, hq3, hb⟩
    have HQ3 := hide (show s + m ≤ most → s + m = 1 + sumN (fun k => nodesE (c3 k)) (k + 1) from fun h => by
     have h1 := HS3.out hle
     have h2 := hq3 (by omega)
     show s + m = 1 + ((sumN (fun k => nodesE (c3 k)) k + nodesE (c3 k) : Nat) : Int)
     omega)
    clear hq3
    go_wp2_with fail
    go_roundw
    case rel => exact ⟨k + 1, s + m, HLT.out, by go_num, by go_num, by omega, by omega, HQ3.out, H0.out.trans (hb.mono H0.out.size)⟩
    case measure => have := HLT.out; simp [intOf]; omega
   ·have HF := hide (show s ≤ most → s = nodesE ck from fun h => absurd h hle)
    go_wp2_with fail
    go_ret
    exact ⟨s, rfl, by omega, by omega, HF.out, q1B⟩
  ·obtain rfl : k = n3 := by omega
   have HF := hide (show s ≤ most → s = nodesE ck from fun h => by rw [HS3.out h, HND.out]; omega)
   clear hlt hkn
   go_wp2_with fail
   go_ret
   exact ⟨s, rfl, by omega, by omega, HF.out, q1B⟩
set_option maxRecDepth 8000 in
set_option maxHeartbeats 2000000 in
theorem wgr10_any {ck : Nat → Tr} (kn : KnOK 5 ck) (w : World) (X : Array Value) (most : Int) (hX : ElT (Old w) w 5 ck X) (hm0 : 0 ≤ most) (hm1 : most ≤ 1000) :
  Calls Tryz.prog 302 #[.agg X, .int .i64 most] w fun r w' => ∃ b : Bool, r = .returned (.bool b) ∧ (b = false → (nodesE ck : Int) ≤ most) ∧ Below w.heap.size w w' := by
 obtain ⟨x0, x1, x2, x3, rfl⟩ := arr4 (show X.size = 4 from hX.size)
 have HX := hide hX
 have HC := hide (treeE cn_expr kn)
 clear hX kn
 go_enter Tryz.func302, Tryz.ntmps302
 go_wp2_with fail
 refine (HC.out _ _ most (HX.out.below belT) hm0 hm1).mono ?_
 rintro r w5 ⟨m, rfl, hq1, hq2, hq3, hb⟩
 have HQ := hide hq3
 clear hq3
 have q1B : Below w.heap.size w w5 := qB hb
 have q1z := hb.size
 try simp at q1z
 have q1t : w.heap.size ≤ w5.heap.size := (by omega)
 have q1o := belO q1B
 clear hb
 go_wp2_with fail
 go_ret
 exact ⟨_, rfl, fun h => by
  have h1 : m ≤ most := by simpa using h
  have := HQ.out h1
  omega, by refine q1B.trans ?_; (repeat (first | (with_reducible first | exact Below.refl _ _ | assumption | refine Below.drew ?_) | ((with_reducible first | refine Below.alloc ?_ ?_ _ | refine Below.setCell ?_ ?_ _); rotate_left; (first | omega | (simp <;> omega)))))⟩
def DpI (n : Nat) (W : World) (v3 v4 : Value) (wr : World) : Prop := ∃ (k : Nat) (s : Int), k ≤ n ∧ v4 = .int .i64 k ∧ v3 = .int .i64 s ∧ Below W.heap.size W wr
def DpOK (ck : Nat → Tr) : Prop := ∀ (w : World) (X : Array Value), ElT (Old w) w 5 ck X → Calls Tryz.prog 303 #[.agg X] w (SomE w)
set_option maxRecDepth 8000 in
set_option maxHeartbeats 4000000 in
theorem dp_expr (ck : Nat → Tr) (hw : KnOK 5 ck) (hE : ∀ n c, ck 3 = .row n (tbl 5).length c → ∀ k, k < n → DpOK (c k)) : DpOK ck := by
 intro w X hX
 obtain ⟨n3, c3, hc3, hk3, A3, cap3, C3, e3, _, hA3⟩ := rd_row (e := 5) (hX.rd 3 (by decide)) (hw 3 (by decide))
 have g3 : X[3]? = some (.slice A3 n3 cap3) := at_eq (show X.size = 4 from hX.size) (by decide) e3
 have HE := hide (fun k hk => hE n3 c3 hc3 k hk)
 have HA := hide hA3
 have HK := hide hk3
 have hn : n3 ≤ 140737488351232 := by have := hk3.room; simp only [tby] at this; omega
 clear e3 hA3 hk3 hc3 hE hX hw
 go_enter Tryz.func303, Tryz.ntmps303
 go_wp2_with fail
 go_loopw [3, 4] (fun v3 v4 wr => DpI n3 (w.alloc (.cells X 226)) v3 v4 wr) (fun _ v _ => n3 - (intOf v).toNat)
 case atStart => exact ⟨0, 0, by omega, rfl, rfl, Below.refl _ _⟩
 case round =>
  obtain ⟨k, s, hkn, rfl, rfl, hb⟩ := hrel
  have H0 := hide hb
  have q1B : Below w.heap.size w wr := qB hb
  have q1z := hb.size
  try simp at q1z
  have q1t : w.heap.size ≤ wr.heap.size := (by omega)
  obtain ⟨q1s0, q1n0_0, q1n0_1, q1n0_2⟩ := kB wr.heap.size w.heap.size
  have q1c0_3 := cel hb w.heap.size 3
  simp [go_sem, *] at q1c0_3
  have q1f0 := fun o => fro hb w.heap.size o
  simp [go_sem, *] at q1f0
  have q1o := belO q1B
  clear hb
  by_cases hlt : k < n3
  ·have hm : (k : Int) < n3 := by omega
   have hk0 : (0 : Int) ≤ k := by omega
   have HLT := hide hlt
   obtain ⟨b, off, rfl, hbl, hc⟩ := (HA.out.below q1B).cells (by decide) hlt
   have HC := hide (show ∀ j v, (elA 5 C3 k)[j]? = some v → wr.cell? ⟨b, off + k * 4 + j, none⟩ = some v from hc)
   have HX := hide ((HA.out.below q1B).el HK.out hlt)
   have HS := hide (ex_size (elA_size 5 C3 k))
   clear hc hlt
   go_wp2_with (with_reducible refine wpList_load_midA rfl 226 (.tmp 16) rfl b (off + k * 4) rfl (elA 5 C3 k) _ HC.out Tryz.underlying226 rfl HS.out ?_)
   refine (HE.out k HLT.out _ _ HX.out).mono ?_
   rintro r w5 ⟨⟨m, rfl⟩, hb⟩
   go_wp2_with fail
   all_goals (go_roundw; (case rel => exact ⟨k + 1, _, HLT.out, by go_num, rfl, H0.out.trans (hb.mono H0.out.size)⟩); (case measure => have := HLT.out; simp [intOf]; omega))
  ·obtain rfl : k = n3 := by omega
   clear hlt hkn
   go_wp2_with fail
   go_ret
   exact ⟨⟨_, rfl⟩, q1B⟩
theorem wdepth_any {ck : Nat → Tr} (kn : KnOK 5 ck) (w : World) (X : Array Value) (hX : ElT (Old w) w 5 ck X) : Calls Tryz.prog 303 #[.agg X] w (SomE w) := treeE dp_expr kn w X hX
def opnE (op : Int) : Int := if op < 1 ∨ 19 < op then -1 else if op ≤ 4 then 0 else if op = 9 ∨ op = 16 then 1 else if op = 19 then 3 else 2
def mosE (op : Int) : Int := if op = 1 then 9223372036854775807 else if op = 2 then 1000000000000 else if op = 3 then 1000000 else 0
theorem wopn_any (op : Int) (w : World) : Calls Tryz.prog 325 #[.int .i64 op] w fun r w' => r = .returned (.int .i64 (opnE op)) ∧ w = w' := by
 by_cases h1 : op < 1
 ·have HF := hide (show opnE op = -1 from by unfold opnE; rw [if_pos (by omega)])
  go_enter Tryz.func325, Tryz.ntmps325
  go_wp2_with fail
  go_ret
  exact ⟨by rw [HF.out]; rfl, rfl⟩
 by_cases h2 : 19 < op
 ·have HF := hide (show opnE op = -1 from by unfold opnE; rw [if_pos (by omega)])
  go_enter Tryz.func325, Tryz.ntmps325
  go_wp2_with fail
  go_ret
  exact ⟨by rw [HF.out]; rfl, rfl⟩
 by_cases h3 : op ≤ 4
 ·have HF := hide (show opnE op = 0 from by unfold opnE; rw [if_neg (by omega)]; rw [if_pos (by omega)])
  go_enter Tryz.func325, Tryz.ntmps325
  go_wp2_with fail
  go_ret
  exact ⟨by rw [HF.out]; rfl, rfl⟩
 by_cases h9 : op = 9
 ·subst h9
  have HF := hide (show opnE 9 = 1 from by decide)
  go_enter Tryz.func325, Tryz.ntmps325
  go_wp2_with fail
  go_ret
  exact ⟨by rw [HF.out]; rfl, rfl⟩
 have d9 : (op == 9) = false := by simp; omega
 by_cases h16 : op = 16
 ·subst h16
  have HF := hide (show opnE 16 = 1 from by decide)
  go_enter Tryz.func325, Tryz.ntmps325
  go_wp2_with fail
  go_ret
  exact ⟨by rw [HF.out]; rfl, rfl⟩
 have d16 : (op == 16) = false := by simp; omega
 by_cases h19 : op = 19
 ·subst h19
  have HF := hide (show opnE 19 = 3 from by decide)
  go_enter Tryz.func325, Tryz.ntmps325
  go_wp2_with fail
  go_ret
  exact ⟨by rw [HF.out]; rfl, rfl⟩
 have d19 : (op == 19) = false := by simp; omega
 have HF := hide (show opnE op = 2 from by unfold opnE; rw [if_neg (by omega)]; rw [if_neg (by omega)]; rw [if_neg (by omega)]; rw [if_neg (by omega)])
 go_enter Tryz.func325, Tryz.ntmps325
 go_wp2_with fail
 go_ret
 exact ⟨by rw [HF.out]; rfl, rfl⟩
theorem wmos_any (op : Int) (w : World) : Calls Tryz.prog 326 #[.int .i64 op] w fun r w' => r = .returned (.int .i64 (mosE op)) ∧ w = w' := by
 by_cases h1 : op = 1
 ·subst h1
  have HF := hide (show mosE 1 = 9223372036854775807 from by decide)
  go_enter Tryz.func326, Tryz.ntmps326
  go_wp2_with fail
  go_ret
  exact ⟨by rw [HF.out]; rfl, rfl⟩
 have d1 : (op == 1) = false := by simp; omega
 by_cases h2 : op = 2
 ·subst h2
  have HF := hide (show mosE 2 = 1000000000000 from by decide)
  go_enter Tryz.func326, Tryz.ntmps326
  go_wp2_with fail
  go_ret
  exact ⟨by rw [HF.out]; rfl, rfl⟩
 have d2 : (op == 2) = false := by simp; omega
 by_cases h3 : op = 3
 ·subst h3
  have HF := hide (show mosE 3 = 1000000 from by decide)
  go_enter Tryz.func326, Tryz.ntmps326
  go_wp2_with fail
  go_ret
  exact ⟨by rw [HF.out]; rfl, rfl⟩
 have d3 : (op == 3) = false := by simp; omega
 have HF := hide (show mosE op = 0 from by unfold mosE; rw [if_neg (by omega)]; rw [if_neg (by omega)]; rw [if_neg (by omega)])
 go_enter Tryz.func326, Tryz.ntmps326
 go_wp2_with fail
 go_ret
 exact ⟨by rw [HF.out]; rfl, rfl⟩

end Go.Proofs.YtpghciiifnjimaaGreatDoor
namespace Go.Proofs.YtpghciiifnjimaaGreatDoor
set_option maxRecDepth 4000
set_option linter.unusedSimpArgs false
set_option linter.unusedVariables false
open Go.RowKit
/-- A row of some texts. -/
def SRow (w : World) (A : Option Addr) (n : Nat) : Prop := ((A = none ∧ n = 0) ∨ ∃ b off, A = some ⟨b, off, none⟩) ∧ ∃ S : Nat → ByteArray, RowS w A n 1 (fun k _ => .string (S k))
theorem SRow.below {w w' : World} {A : Option Addr} {n : Nat} (h : SRow w A n) (hb : Below w.heap.size w w') : SRow w' A n := by
 obtain ⟨hA, S, h⟩ := h
 exact ⟨hA, S, h.below hb⟩
theorem SRow.at {w : World} {A : Option Addr} {n k : Nat} (h : SRow w A n) (hk : k < n) : ∃ b off s, A = some ⟨b, off, none⟩ ∧ b < w.heap.size ∧ w.cell? ⟨b, off + k, none⟩ = some (.string s) := by
 obtain ⟨_, S, h⟩ := h
 obtain ⟨b, off, e, hb, hc⟩ := h (by omega)
 exact ⟨b, off, S k, e, hb, by have := hc k 0 hk (by decide); simpa using this⟩
/-- The first k texts, and those behind them. -/
theorem SRow.cut {w : World} {A : Option Addr} {n k : Nat} (h : SRow w A n) (hk : k ≤ n) : ∃ S : Nat → ByteArray, RowS w A k 1 (fun j _ => .string (S j)) ∧ ∀ b off, A = some ⟨b, off, none⟩ → ∀ m, m = n - k → RowS w (some ⟨b, off + k, none⟩) m 1 (fun j _ => .string (S (k + j))) := by
 obtain ⟨_, S, h⟩ := h
 refine ⟨S, fun h0 => ?_, fun b off e m hm h0 => ?_⟩
 ·obtain ⟨b, off, e, hb, hc⟩ := h (by omega)
  exact ⟨b, off, e, hb, fun i j hi hj => hc i j (by omega) hj⟩
 ·obtain ⟨b2, off2, e2, hb, hc⟩ := h (by omega)
  rw [e] at e2
  injection e2 with e2
  injection e2 with e3 e4
  subst e3 e4
  refine ⟨b, off + k, rfl, hb, fun i j hi hj => ?_⟩
  have := hc (k + i) j (by omega) hj
  have e5 : off + ((k + i) * 1 + j) = off + k + (i * 1 + j) := by omega
  rwa [e5] at this
def strs (l : List ByteArray) : List Value := l.map .string
theorem strs_app (l m : List ByteArray) : strs (l ++ m) = strs l ++ strs m := by simp [strs]
theorem own_srow {w : World} {base n : Nat} {e : TypeId} {A : Option Addr} {c : Nat} {l : List ByteArray} (h : w.ownsRow base e 1 (.slice A n c) n (strs l)) : n ≤ c ∧ SRow w A n := by
 have hl : (strs l).length = n := by have := h.1; omega
 rcases h.2 with ⟨e2, h0⟩ | ⟨g, cap, cur, hv, hg, hh, h3, h4, h5, h6⟩
 ·injection e2 with e3 e4 e5
  exact ⟨by omega, .inl ⟨e3, e4⟩, ⟨fun _ => ⟨#[]⟩, fun hn => by omega⟩⟩
 ·injection hv with e1 e4 e5
  subst e1
  refine ⟨by omega, .inr ⟨_, _, rfl⟩, ⟨fun k => l.getD k ⟨#[]⟩, fun _ => ⟨g, 0, rfl, heap_lt hh, fun k j hk hj => ?_⟩⟩⟩
  obtain rfl : j = 0 := by omega
  have hk2 : k < l.length := by simpa [strs] using (by omega : k < (strs l).length)
  have f1 : (strs l)[k]? = some (.string (l.getD k ⟨#[]⟩)) := by simp [strs, hk2, List.getD]
  rw [← h6, List.getElem?_take] at f1
  split at f1
  ·have e0 : 0 + (k * 1 + 0) = k := by omega
   rw [e0]
   exact (cell_of_cells hh _).trans (by simpa using f1)
  ·cases f1
theorem str_info : (Tryz.prog.info? 9).map (fun i => (i.zero, i.size, i.bytes)) = some (some (.string ⟨#[]⟩), 1, 16) := by kernel_rfl
def InsR (n : Nat) (w : World) (e : Ending) (w' : World) : Prop := ∃ A n' c, e = .returned (.slice A n' c) ∧ n' ≤ n + 1 ∧ n' ≤ c ∧ SRow w' A n' ∧ Below w.heap.size w w'
theorem strs_len (l : List ByteArray) : (strs l).length = l.length * 1 := by simp [strs]
theorem strs_ones (l : List ByteArray) : ∀ u ∈ strs l, u.oneCell' = true := fun u hu => by
 simp only [strs, List.mem_map] at hu
 obtain ⟨_, _, rfl⟩ := hu
 rfl
theorem strs_rng (S : Nat → ByteArray) (m : Nat) : ∀ k j, k < m → j < 1 → (strs ((List.range m).map S))[k * 1 + j]? = some (.string (S k)) := fun k j hk hj => by
 obtain rfl : j = 0 := by omega
 simp [strs, hk]
set_option maxRecDepth 8000 in
set_option maxHeartbeats 4000000 in
theorem wins_any (A : Option Addr) (n cap : Nat) (x : ByteArray) (hn : n ≤ 1000) (hcap : n ≤ cap) (w : World) (hA : SRow w A n) : Calls Tryz.prog 327 #[.slice A n cap, .string x] w (InsR n w) := by
 have HA := hide hA
 clear hA
 obtain ⟨i0, hi0, hz00, hz1, hz2⟩ := info_parts str_info
 go_enter Tryz.func327, Tryz.ntmps327
 go_wp2_with fail
 go_loopw [5] (fun v wr => KW 0 n w v wr) (fun v _ => n - (intOf v).toNat)
 case atStart => exact ⟨0, by omega, by omega, rfl, rfl⟩
 case round =>
  obtain ⟨k, hk0n, hk, rfl, rfl⟩ := hrel
  have HK := hide hk
  by_cases hlt : k < n
  ·have hm : (k : Int) < n := by omega
   have hk0 : (0 : Int) ≤ k := by omega
   have hkc : (k : Int) ≤ cap := by omega
   obtain ⟨b, off, s, rfl, hbl, hc⟩ := HA.out.at hlt
   rcases Bool.eq_false_or_eq_true (Op.bytesLess s.toList x.toList) with q1 | q1
   ·go_wp2_with fail
    go_roundw
    case rel => exact ⟨k + 1, by omega, by omega, by go_num, rfl⟩
    case measure => simp [intOf]; omega
   ·rcases Bool.eq_false_or_eq_true (s.toList == x.toList) with q2 | q2
    ·go_wp2_with fail
     go_ret
     exact ⟨_, _, _, rfl, by omega, by omega, HA.out, by (repeat (first | (with_reducible first | exact Below.refl _ _ | assumption | refine Below.drew ?_) | ((with_reducible first | refine Below.alloc ?_ ?_ _ | refine Below.setCell ?_ ?_ _); rotate_left; (first | omega | (simp <;> omega)))))⟩
    ·obtain ⟨S, hr1, hr3⟩ := HA.out.cut hk
     have HR1 := hide hr1
     have HR3 := hide (hr3 b off rfl)
     clear hr1 hr3
     have HO0 := hide (show w.ownsRow w.heap.size 9 1 (.slice none 0 0) 0 (strs []) from ⟨rfl, .inl ⟨rfl, rfl⟩⟩)
     go_wp2_with (at_builtin; first
      | (refine wpList_append_rowS _ rfl (.tmp 34) (.tmp 37) 173 rfl w.heap.size 9 i0 (.string ⟨#[]⟩) 1 16 Tryz.underlying173 hi0 hz00 hz1 hz2 rfl (by decide) _ _ _ rfl HO0.out _ k _ rfl _ HR1.out (strs ((List.range k).map S)) (by rw [strs_len]; simp) (strs_rng S k) (strs_ones _) (by simp only [maxLen]; omega) (by omega) (by omega) ?_; intro A1 c1 w1 ho1 hg1 hv1; have hs1 := hg1.size; have B1 := hide (below_grown (B := w.heap.size) hg1 (Nat.le_refl _) (fun k hk => by cases hk)); rw [Nat.zero_add] at ho1; have HO1 := hide (show w1.ownsRow w.heap.size 9 1 (.slice A1 k c1) k (strs ((List.range k).map S)) from ho1); clear ho1 hg1 hv1)
      | (refine wpList_append_own2 _ rfl (.tmp 39) (.tmp 41) 173 rfl w.heap.size 9 i0 (.string ⟨#[]⟩) 1 16 Tryz.underlying173 hi0 hz00 hz1 hz2 rfl (by decide) _ _ _ rfl (HO1.out.alloc _) ⟨w1.heap.size, 0, none⟩ 1 1 (strs [x]) rfl rfl (news1 (by simp [go_sem])) (strs_ones _) (by simp only [maxLen]; omega) (by omega) (by simp; omega) ?_; intro A2 c2 w2 ho2 hg2 hv2; have hs2 := hg2.size; have B2 := hide (B1.out.trans (Below.trans (BelA w1 _ hs1) (below_grown (B := w.heap.size) hg2 (by simp; omega) (own_ge HO1.out)))); simp at hs2; have HO2 := hide ho2; clear ho2 hg2 hv2)
      | (refine wpList_append_rowS _ rfl (.tmp 43) (.tmp 46) 173 rfl w.heap.size 9 i0 (.string ⟨#[]⟩) 1 16 Tryz.underlying173 hi0 hz00 hz1 hz2 rfl (by decide) _ _ _ rfl HO2.out _ _ _ rfl _ ((HR3.out _ (by omega)).below (B2.out.mono (Nat.le_refl _))) (strs ((List.range (n - k)).map (fun j => S (k + j)))) (by rw [strs_len]; simp) (strs_rng (fun j => S (k + j)) (n - k)) (strs_ones _) (by simp only [maxLen]; omega) (by omega) (by omega) ?_; intro A3 c3 w3 ho3 hg3 hv3; have hs3 := hg3.size; have B3 := hide (B2.out.trans (below_grown (B := w.heap.size) hg3 (by omega) (own_ge HO2.out))); have HO3 := hide ho3; clear ho3 hg3 hv3))
          
     all_goals
      go_ret
      have hw3 : w3.ownsRow w.heap.size 9 1 (.slice A3 (k + 1 + (n - k)) c3) (k + 1 + (n - k)) (strs (((List.range k).map S ++ [x]) ++ (List.range (n - k)).map (fun j => S (k + j)))) := by rw [strs_app, strs_app]; exact HO3.out
      obtain ⟨e1, e2⟩ := own_srow hw3
      exact ⟨_, _, _, rfl, by omega, e1, e2, B3.out⟩
  ·obtain ⟨S, hr1, hr3⟩ := HA.out.cut hk
   rcases HA.out.1 with ⟨rfl, h0⟩ | ⟨b, off, rfl⟩
   ·have HR1 := hide hr1
    have HR3 := hide (show ∀ m, m = n - k → RowS w none m 1 (fun j _ => .string (S (k + j))) from fun m hm h => by omega)
    have HN0 := hide h0
    clear hr1 hr3 h0
    have hge : (n : Int) ≤ k := by omega
    have hkc : (k : Int) ≤ cap := by omega
    have hk0 : (0 : Int) ≤ k := by omega
    have HO0 := hide (show w.ownsRow w.heap.size 9 1 (.slice none 0 0) 0 (strs []) from ⟨rfl, .inl ⟨rfl, rfl⟩⟩)
    go_wp2_with (at_builtin; first
     | (refine wpList_append_rowS _ rfl (.tmp 34) (.tmp 37) 173 rfl w.heap.size 9 i0 (.string ⟨#[]⟩) 1 16 Tryz.underlying173 hi0 hz00 hz1 hz2 rfl (by decide) _ _ _ rfl HO0.out _ k _ rfl _ HR1.out (strs ((List.range k).map S)) (by rw [strs_len]; simp) (strs_rng S k) (strs_ones _) (by simp only [maxLen]; omega) (by omega) (by omega) ?_; intro A1 c1 w1 ho1 hg1 hv1; have hs1 := hg1.size; have B1 := hide (below_grown (B := w.heap.size) hg1 (Nat.le_refl _) (fun k hk => by cases hk)); rw [Nat.zero_add] at ho1; have HO1 := hide (show w1.ownsRow w.heap.size 9 1 (.slice A1 k c1) k (strs ((List.range k).map S)) from ho1); clear ho1 hg1 hv1)
     | (refine wpList_append_own2 _ rfl (.tmp 39) (.tmp 41) 173 rfl w.heap.size 9 i0 (.string ⟨#[]⟩) 1 16 Tryz.underlying173 hi0 hz00 hz1 hz2 rfl (by decide) _ _ _ rfl (HO1.out.alloc _) ⟨w1.heap.size, 0, none⟩ 1 1 (strs [x]) rfl rfl (news1 (by simp [go_sem])) (strs_ones _) (by simp only [maxLen]; omega) (by omega) (by simp; omega) ?_; intro A2 c2 w2 ho2 hg2 hv2; have hs2 := hg2.size; have B2 := hide (B1.out.trans (Below.trans (BelA w1 _ hs1) (below_grown (B := w.heap.size) hg2 (by simp; omega) (own_ge HO1.out)))); simp at hs2; have HO2 := hide ho2; clear ho2 hg2 hv2)
     | (refine wpList_append_rowS _ rfl (.tmp 43) (.tmp 46) 173 rfl w.heap.size 9 i0 (.string ⟨#[]⟩) 1 16 Tryz.underlying173 hi0 hz00 hz1 hz2 rfl (by decide) _ _ _ rfl HO2.out _ _ _ rfl _ ((HR3.out _ (by omega)).below (B2.out.mono (Nat.le_refl _))) (strs ((List.range (n - k)).map (fun j => S (k + j)))) (by rw [strs_len]; simp) (strs_rng (fun j => S (k + j)) (n - k)) (strs_ones _) (by simp only [maxLen]; omega) (by omega) (by omega) ?_; intro A3 c3 w3 ho3 hg3 hv3; have hs3 := hg3.size; have B3 := hide (B2.out.trans (below_grown (B := w.heap.size) hg3 (by omega) (own_ge HO2.out))); have HO3 := hide ho3; clear ho3 hg3 hv3))
        
    all_goals
     go_ret
     have hw3 : w3.ownsRow w.heap.size 9 1 (.slice A3 (k + 1 + (n - k)) c3) (k + 1 + (n - k)) (strs (((List.range k).map S ++ [x]) ++ (List.range (n - k)).map (fun j => S (k + j)))) := by rw [strs_app, strs_app]; exact HO3.out
     obtain ⟨e1, e2⟩ := own_srow hw3
     exact ⟨_, _, _, rfl, by omega, e1, e2, B3.out⟩
   ·have HR1 := hide hr1
    have HR3 := hide (show ∀ m, m = n - k → RowS w (if cap = k then some ⟨b, off, none⟩ else some ⟨b, off + k, none⟩) m 1 (fun j _ => .string (S (k + j))) from fun m hm h => by omega)
    clear hr1 hr3
    have hd : decide ((k : Int) < n) = false := decide_eq_false (by omega)
    have hd2 : decide (k < n) = false := decide_eq_false hlt
    have HLT := hide hlt
    have hkc : (k : Int) ≤ cap := by omega
    have hk0 : (0 : Int) ≤ k := by omega
    clear hlt
    have HO0 := hide (show w.ownsRow w.heap.size 9 1 (.slice none 0 0) 0 (strs []) from ⟨rfl, .inl ⟨rfl, rfl⟩⟩)
    go_wp2_with (at_builtin; first
     | (refine wpList_append_rowS _ rfl (.tmp 34) (.tmp 37) 173 rfl w.heap.size 9 i0 (.string ⟨#[]⟩) 1 16 Tryz.underlying173 hi0 hz00 hz1 hz2 rfl (by decide) _ _ _ rfl HO0.out _ k _ rfl _ HR1.out (strs ((List.range k).map S)) (by rw [strs_len]; simp) (strs_rng S k) (strs_ones _) (by simp only [maxLen]; omega) (by omega) (by omega) ?_; intro A1 c1 w1 ho1 hg1 hv1; have hs1 := hg1.size; have B1 := hide (below_grown (B := w.heap.size) hg1 (Nat.le_refl _) (fun k hk => by cases hk)); rw [Nat.zero_add] at ho1; have HO1 := hide (show w1.ownsRow w.heap.size 9 1 (.slice A1 k c1) k (strs ((List.range k).map S)) from ho1); clear ho1 hg1 hv1)
     | (refine wpList_append_own2 _ rfl (.tmp 39) (.tmp 41) 173 rfl w.heap.size 9 i0 (.string ⟨#[]⟩) 1 16 Tryz.underlying173 hi0 hz00 hz1 hz2 rfl (by decide) _ _ _ rfl (HO1.out.alloc _) ⟨w1.heap.size, 0, none⟩ 1 1 (strs [x]) rfl rfl (news1 (by simp [go_sem])) (strs_ones _) (by simp only [maxLen]; omega) (by omega) (by simp; omega) ?_; intro A2 c2 w2 ho2 hg2 hv2; have hs2 := hg2.size; have B2 := hide (B1.out.trans (Below.trans (BelA w1 _ hs1) (below_grown (B := w.heap.size) hg2 (by simp; omega) (own_ge HO1.out)))); simp at hs2; have HO2 := hide ho2; clear ho2 hg2 hv2)
     | (refine wpList_append_rowS _ rfl (.tmp 43) (.tmp 46) 173 rfl w.heap.size 9 i0 (.string ⟨#[]⟩) 1 16 Tryz.underlying173 hi0 hz00 hz1 hz2 rfl (by decide) _ _ _ rfl HO2.out _ _ _ rfl _ ((HR3.out _ (by omega)).below (B2.out.mono (Nat.le_refl _))) (strs ((List.range (n - k)).map (fun j => S (k + j)))) (by rw [strs_len]; simp) (strs_rng (fun j => S (k + j)) (n - k)) (strs_ones _) (by simp only [maxLen]; omega) (by omega) (by omega) ?_; intro A3 c3 w3 ho3 hg3 hv3; have hs3 := hg3.size; have B3 := hide (B2.out.trans (below_grown (B := w.heap.size) hg3 (by omega) (own_ge HO2.out))); have HO3 := hide ho3; clear ho3 hg3 hv3))
        
    all_goals
     go_ret
     have hw3 : w3.ownsRow w.heap.size 9 1 (.slice A3 (k + 1 + (n - k)) c3) (k + 1 + (n - k)) (strs (((List.range k).map S ++ [x]) ++ (List.range (n - k)).map (fun j => S (k + j)))) := by rw [strs_app, strs_app]; exact HO3.out
     obtain ⟨e1, e2⟩ := own_srow hw3
     exact ⟨_, _, _, rfl, by omega, e1, e2, B3.out⟩
end Go.Proofs.YtpghciiifnjimaaGreatDoor
