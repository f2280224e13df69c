/- Texts laid together: Eza Ezb. -/
import Derived.Test.YtdjlaiilngechaaGreatDoorXEzt
import Derived.Test.YtdjlaiilngechaaGreatDoorXAcF
import Derived.Test.YtdjlaiilngechaaGreatDoorXK0
namespace Go.Proofs.YtdjlaiilngechaaGreatDoor
set_option maxRecDepth 4000
set_option linter.unusedSimpArgs false
set_option linter.unusedVariables false
open Go.RowKit
theorem RowT.sub {S : Nat → Prop} {w : World} {e e' o : Nat} {A : Option Addr} {n : Nat} {c : Nat → Nat → Tr} {C : Nat → Nat → Value} (h : RowT S w e A n c C) (hk : RowK e n c) {k : Nat} (hkn : k < n)
  (hs : ∀ j, j < (tbl e').length → o + j < (tbl e).length ∧ (tbl e).getD (o + j) .i = (tbl e').getD j .i) : ElT S w e' (fun j => c k (o + j)) (elA e' (fun k j => C k (o + j)) k) ∧ KnOK e' (fun j => c k (o + j)) := by
 have kn : KnOK e' (fun j => c k (o + j)) := fun j hj => by have t := hk.wt k (o + j) hkn (hs j hj).1; rw [(hs j hj).2] at t; exact t
 refine ⟨⟨elA_size _ _ _, ?_, fun j hj => ?_⟩, kn⟩
 ·rw [Array.all_eq_true]
  intro j hj
  rw [elA_size] at hj
  have := elA_at e' (fun k j => C k (o + j)) k j hj
  rw [Array.getElem?_eq_getElem (by rw [elA_size]; exact hj)] at this
  rw [Option.some.inj this]
  exact rd_one (h.rd k (o + j) hkn (hs j hj).1) (kn j hj)
 ·rw [elA_getD _ _ _ _ hj]
  exact h.rd k (o + j) hkn (hs j hj).1
theorem arr4 {α : Type} {cs : Array α} (h : cs.size = 4) : ∃ x0 x1 x2 x3, cs = #[x0, x1, x2, x3] := by
 obtain ⟨l⟩ := cs
 match l, h with
 | [x0, x1, x2, x3], _ => exact ⟨x0, x1, x2, x3, rfl⟩
theorem kn_of {e n : Nat} {c : Nat → Nat → Tr} (h : RowK e n c) {k : Nat} (hk : k < n) : KnOK e (c k) := fun j hj => h.wt k j hk hj
theorem ex_size {X : Array Value} (h : X.size = 4) : (Tryz.prog.info? 113).map (·.size) = some X.size := by rw [h]; kernel_rfl
def CtI (n : Nat) (most : Int) (W : World) (v5 v6 : Value) (wr : World) : Prop := ∃ (k : Nat) (s : Int), k ≤ n ∧ v6 = .int .i64 k ∧ v5 = .int .i64 s ∧ 1 ≤ s ∧ s ≤ most + 1 ∧ Below W.heap.size W wr
def CtOK (ck : Nat → Tr) : Prop := ∀ (w : World) (X : Array Value) (most : Int), ElT (Old w) w 5 ck X → 0 ≤ most → most ≤ 1000 →
 Calls Tryz.prog 83 #[.agg X, .int .i64 most] w fun r w' => ∃ m : Int, r = .returned (.int .i64 m) ∧ 1 ≤ m ∧ m ≤ most + 1 ∧ Below w.heap.size w w'
set_option maxRecDepth 8000 in
set_option maxHeartbeats 4000000 in
theorem ct_expr (ck : Nat → Tr) (hw : KnOK 5 ck) (hE : ∀ n c, ck 3 = .row n (tbl 5).length c → ∀ k, k < n → CtOK (c k)) : CtOK ck := by
 intro w X most hX hm0 hm1
 obtain ⟨n3, c3, hc3, hk3, A3, cap3, C3, e3, _, hA3⟩ := rd_row (e := 5) (hX.rd 3 (by decide)) (hw 3 (by decide))
 have g3 : X[3]? = some (.slice A3 n3 cap3) := at_eq (show X.size = 4 from hX.size) (by decide) e3
 have HE := hide (fun k hk => hE n3 c3 hc3 k hk)
 have HA := hide hA3
 have HK := hide hk3
 have hn : n3 ≤ 140737488351232 := by have := hk3.room; simp only [tby] at this; omega
 clear e3 hA3 hk3 hc3 hE hX hw
 go_enter Tryz.func83, Tryz.ntmps83
 go_wp2_with fail
 go_loopw [5, 6] (fun v5 v6 wr => CtI n3 most (w.alloc (.cells X 113)) v5 v6 wr) (fun _ v _ => n3 - (intOf v).toNat)
 case atStart => exact ⟨0, 1, by omega, rfl, rfl, by omega, by omega, Below.refl _ _⟩
 case round =>
  obtain ⟨k, s, hkn, rfl, rfl, hs1, hs2, hb⟩ := hrel
  have H0 := hide hb
  have q1B : Below w.heap.size w wr := qB hb
  have q1z := hb.size
  try simp at q1z
  have q1t : w.heap.size ≤ wr.heap.size := (by omega)
  obtain ⟨q1s0, q1n0_0, q1n0_1, q1n0_2⟩ := kB wr.heap.size w.heap.size
  have q1c0_3 := cel hb w.heap.size 3
  simp [go_sem, *] at q1c0_3
  have q1f0 := fun o => fro hb w.heap.size o
  simp [go_sem, *] at q1f0
  have q1o := belO q1B
  clear hb
  by_cases hlt : k < n3
  ·have hm : (k : Int) < n3 := by omega
   have hk0 : (0 : Int) ≤ k := by omega
   have HLT := hide hlt
   by_cases hle : s ≤ most
   ·have QB := hide q1B
    obtain ⟨b, off, rfl, hbl, hc⟩ := (HA.out.below q1B).cells (by decide) hlt
    have HC := hide (show ∀ j v, (elA 5 C3 k)[j]? = some v → wr.cell? ⟨b, off + k * 4 + j, none⟩ = some v from hc)
    have HX := hide ((HA.out.below q1B).el HK.out hlt)
    have HS := hide (ex_size (elA_size 5 C3 k))
    clear hc hlt
    go_wp2_with (with_reducible refine wpList_load_midA rfl 113 (.tmp 23) rfl b (off + k * 4) rfl (elA 5 C3 k) _ HC.out Tryz.underlying113 rfl HS.out ?_)
    refine (HE.out k HLT.out _ _ (most - s) HX.out (by omega) (by omega)).mono ?_
    rintro r w5 ⟨m, rfl, hq1, hq2, hb⟩
    go_wp2_with fail
    go_roundw
    case rel => exact ⟨k + 1, s + m, HLT.out, by go_num, by go_num, by omega, by omega, H0.out.trans (hb.mono H0.out.size)⟩
    case measure => have := HLT.out; simp [intOf]; omega
   ·go_wp2_with fail
    go_ret
    exact ⟨s, rfl, by omega, by omega, q1B⟩
  ·obtain rfl : k = n3 := by omega
   clear hlt hkn
   go_wp2_with fail
   go_ret
   exact ⟨s, rfl, by omega, by omega, q1B⟩
theorem ctK : ∀ (T : Tr) (n : Nat) (c : Nat → Nat → Tr), T = .row n (tbl 5).length c → T.wt (.sl 5) → ∀ k, k < n → CtOK (c k) := fun T => by
 induction T with
 | lf v => intro n c h; cases h
 | row n sz c ih =>
  intro n' c' h hwt k hk
  injection h with h1 h2 h3
  subst h1 h2 h3
  have kn : KnOK 5 (c k) := fun j hj => hwt.2.2 k j hk hj
  exact ct_expr (c k) kn (fun n2 c2 h2 k2 hk2 => ih k 3 n2 c2 h2 (kn 3 (by decide)) k2 hk2)
theorem ctS {ck : Nat → Tr} (kn : KnOK 5 ck) : CtOK ck := ct_expr ck kn fun n c h k hk => ctK _ n c h (kn 3 (by decide)) k hk
set_option maxRecDepth 8000 in
set_option maxHeartbeats 2000000 in
theorem rgr_any {ck : Nat → Tr} (kn : KnOK 5 ck) (w : World) (X : Array Value) (most : Int) (hX : ElT (Old w) w 5 ck X) (hm0 : 0 ≤ most) (hm1 : most ≤ 1000) :
  Calls Tryz.prog 46 #[.agg X, .int .i64 most] w fun r w' => ∃ b : Bool, r = .returned (.bool b) ∧ Below w.heap.size w w' := by
 obtain ⟨x0, x1, x2, x3, rfl⟩ := arr4 (show X.size = 4 from hX.size)
 have HX := hide hX
 have HC := hide (ctS kn)
 clear hX kn
 go_enter Tryz.func46, Tryz.ntmps46
 go_wp2_with fail
 refine (HC.out _ _ most (HX.out.below belT) hm0 hm1).mono ?_
 rintro r w5 ⟨m, rfl, hq1, hq2, hb⟩
 have q1B : Below w.heap.size w w5 := qB hb
 have q1z := hb.size
 try simp at q1z
 have q1t : w.heap.size ≤ w5.heap.size := (by omega)
 have q1o := belO q1B
 clear hb
 go_wp2_with fail
 go_ret
 exact ⟨_, rfl, by refine q1B.trans ?_; (repeat (first | (with_reducible first | exact Below.refl _ _ | assumption | refine Below.drew ?_) | ((with_reducible first | refine Below.alloc ?_ ?_ _ | refine Below.setCell ?_ ?_ _); rotate_left; (first | omega | (simp <;> omega)))))⟩
end Go.Proofs.YtdjlaiilngechaaGreatDoor
namespace Go.Proofs.YtdjlaiilngechaaGreatDoor
set_option maxRecDepth 4000
set_option linter.unusedSimpArgs false
set_option linter.unusedVariables false
open Go.RowKit
/-- What a bound's call answers: false only where p holds. -/
def GrR (p : Prop) (w : World) (e : Ending) (w' : World) : Prop := ∃ b : Bool, e = .returned (.bool b) ∧ (b = false → p) ∧ Below w.heap.size w w'
def GrI (n : Nat) (W : World) (v : Value) (wr : World) : Prop := ∃ k : Nat, k ≤ n ∧ v = .int .i64 k ∧ Below W.heap.size W wr
set_option maxRecDepth 8000 in
set_option maxHeartbeats 4000000 in
theorem hgr_any (A : Option Addr) (n cap : Nat) (c : Nat → Nat → Tr) (C : Nat → Nat → Value) (hk : RowK 12 n c) (w : World) (hA : RowT (Old w) w 12 A n c C) :
  Calls Tryz.prog 25 #[.slice A n cap] w (GrR True w) := by
 have HK := hide hk
 have HA := hide hA
 have hn : n ≤ 140737488351232 := by have := hk.room; simp only [tby] at this; omega
 clear hk hA
 by_cases h0 : (100 : Int) < n
 ·go_enter Tryz.func25, Tryz.ntmps25
  go_wp2_with fail
  go_ret
  exact ⟨true, rfl, nofun, by (repeat (first | (with_reducible first | exact Below.refl _ _ | assumption | refine Below.drew ?_) | ((with_reducible first | refine Below.alloc ?_ ?_ _ | refine Below.setCell ?_ ?_ _); rotate_left; (first | omega | (simp <;> omega)))))⟩
 go_enter Tryz.func25, Tryz.ntmps25
 go_wp2_with fail
 go_loopw [3] (fun v wr => GrI n w v wr) (fun v _ => n - (intOf v).toNat)
 case atStart => exact ⟨0, by omega, rfl, by (repeat (first | (with_reducible first | exact Below.refl _ _ | assumption | refine Below.drew ?_) | ((with_reducible first | refine Below.alloc ?_ ?_ _ | refine Below.setCell ?_ ?_ _); rotate_left; (first | omega | (simp <;> omega)))))⟩
 case round =>
  obtain ⟨k, hkn, rfl, hb⟩ := hrel
  have H0 := hide hb
  by_cases hlt : k < n
  ·have hm : (k : Int) < n := by omega
   have hk0 : (0 : Int) ≤ k := by omega
   have HLT := hide hlt
   obtain ⟨b, off, rfl, hbl, hc⟩ := (HA.out.below hb).cells (by decide) hlt
   obtain ⟨s5, _, e5, _⟩ := rd_str (HA.out.rd k 5 hlt (by decide)) (HK.out.wt k 5 hlt (by decide))
   have c5 : wr.cell? ⟨b, off + k * 6 + 5, none⟩ = some (.string s5) := by rw [← e5]; exact hc 5 _ (elA_at 12 C k 5 (by decide))
   clear hc e5 hlt hkn hb
   by_cases h1 : (200 : Int) < s5.size
   ·go_wp2_with fail
    go_ret
    exact ⟨true, rfl, nofun, H0.out⟩
   ·go_wp2_with fail
    go_roundw
    case rel => exact ⟨k + 1, HLT.out, by go_num, H0.out⟩
    case measure => have := HLT.out; simp [intOf]; omega
  ·obtain rfl : k = n := by omega
   clear hlt hkn
   go_wp2_with fail
   go_ret
   exact ⟨false, rfl, fun _ => trivial, hb⟩
set_option maxRecDepth 8000 in
set_option maxHeartbeats 4000000 in
theorem egr_any {ck : Nat → Tr} (kn : KnOK 11 ck) (w : World) (X : Array Value) (hX : ElT (Old w) w 11 ck X) :
  Calls Tryz.prog 27 #[.agg X] w (GrR ((ck 8).n ≤ 30) w) := by
 obtain ⟨n, c, hc8, hk8, A, cap, C, e8, _, hA8⟩ := rd_row (e := 10) (hX.rd 8 (by decide)) (kn 8 (by decide))
 obtain ⟨s6, _, e6, _⟩ := rd_str (hX.rd 6 (by decide)) (kn 6 (by decide))
 obtain ⟨s7, _, e7, _⟩ := rd_str (hX.rd 7 (by decide)) (kn 7 (by decide))
 have hXs : X.size = 10 := hX.size
 have g8 : X[8]? = some (.slice A n cap) := at_eq hXs (by decide) e8
 have g6 : X[6]? = some (.string s6) := at_eq hXs (by decide) e6
 have g7 : X[7]? = some (.string s7) := at_eq hXs (by decide) e7
 have HK := hide hk8
 have HA := hide hA8
 have hn : n ≤ 140737488351232 := by have := hk8.room; simp only [tby] at this; omega
 have HN := hide (show (ck 8).n = n from by rw [hc8]; rfl)
 clear e6 e7 e8 hk8 hA8 hX hXs hc8
 by_cases h0 : (30 : Int) < n
 ·go_enter Tryz.func27, Tryz.ntmps27
  go_wp2_with fail
  go_ret
  exact ⟨true, rfl, nofun, by (repeat (first | (with_reducible first | exact Below.refl _ _ | assumption | refine Below.drew ?_) | ((with_reducible first | refine Below.alloc ?_ ?_ _ | refine Below.setCell ?_ ?_ _); rotate_left; (first | omega | (simp <;> omega)))))⟩
 by_cases h1 : (1000 : Int) < s6.size
 ·go_enter Tryz.func27, Tryz.ntmps27
  go_wp2_with fail
  go_ret
  exact ⟨true, rfl, nofun, by (repeat (first | (with_reducible first | exact Below.refl _ _ | assumption | refine Below.drew ?_) | ((with_reducible first | refine Below.alloc ?_ ?_ _ | refine Below.setCell ?_ ?_ _); rotate_left; (first | omega | (simp <;> omega)))))⟩
 by_cases h2 : (1000 : Int) < s7.size
 ·go_enter Tryz.func27, Tryz.ntmps27
  go_wp2_with fail
  go_ret
  exact ⟨true, rfl, nofun, by (repeat (first | (with_reducible first | exact Below.refl _ _ | assumption | refine Below.drew ?_) | ((with_reducible first | refine Below.alloc ?_ ?_ _ | refine Below.setCell ?_ ?_ _); rotate_left; (first | omega | (simp <;> omega)))))⟩
 go_enter Tryz.func27, Tryz.ntmps27
 go_wp2_with fail
 go_loopw [3] (fun v wr => GrI n (w.alloc (.cells X 82)) v wr) (fun v _ => n - (intOf v).toNat)
 case atStart => exact ⟨0, by omega, rfl, by (repeat (first | (with_reducible first | exact Below.refl _ _ | assumption | refine Below.drew ?_) | ((with_reducible first | refine Below.alloc ?_ ?_ _ | refine Below.setCell ?_ ?_ _); rotate_left; (first | omega | (simp <;> omega)))))⟩
 case round =>
  obtain ⟨k, hkn, rfl, hb⟩ := hrel
  have H0 := hide hb
  have q1B : Below w.heap.size w wr := qB hb
  have q1z := hb.size
  try simp at q1z
  have q1t : w.heap.size ≤ wr.heap.size := (by omega)
  obtain ⟨q1s0, q1n0_0, q1n0_1, q1n0_2⟩ := kB wr.heap.size w.heap.size
  have q1c0_8 := cel hb w.heap.size 8
  simp [go_sem, *] at q1c0_8
  have q1f0 := fun o => fro hb w.heap.size o
  simp [go_sem, *] at q1f0
  have q1o := belO q1B
  clear hb
  by_cases hlt : k < n
  ·have hm : (k : Int) < n := by omega
   have hk0 : (0 : Int) ≤ k := by omega
   have HLT := hide hlt
   obtain ⟨b, off, rfl, hbl, hc⟩ := (HA.out.below q1B).cells (by decide) hlt
   obtain ⟨s5, _, e5, _⟩ := rd_str (HA.out.rd k 2 hlt (by decide)) (HK.out.wt k 2 hlt (by decide))
   have c5 : wr.cell? ⟨b, off + k * 3 + 2, none⟩ = some (.string s5) := by rw [← e5]; exact hc 2 _ (elA_at 10 C k 2 (by decide))
   clear hc e5 hlt hkn
   by_cases h3 : (100 : Int) < s5.size
   ·go_wp2_with fail
    go_ret
    exact ⟨true, rfl, nofun, q1B⟩
   ·go_wp2_with fail
    go_roundw
    case rel => exact ⟨k + 1, HLT.out, by go_num, H0.out⟩
    case measure => have := HLT.out; simp [intOf]; omega
  ·obtain rfl : k = n := by omega
   clear hlt hkn
   go_wp2_with fail
   go_ret
   exact ⟨false, rfl, fun _ => by rw [HN.out]; omega, q1B⟩
end Go.Proofs.YtdjlaiilngechaaGreatDoor
