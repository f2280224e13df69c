/- Texts laid together: TpL Str MnM Shelf. -/
import Derived.Test.YtpghciiifnjimaaGreatDoorXTpI
import Derived.Test.YtpghciiifnjimaaGreatDoorXNum
import Derived.WalkKit
import Derived.Lib.ItoaNum
import Derived.Lib.ItoaLen
import Derived.Lib.ItoaMem
import Derived.Lib.Strings
import Derived.Shelf.Strings.Builder1
import Derived.Shelf.Strings.Builder2
import Derived.Shelf.Strings.OnBuilder
import Derived.Shelf.Strings.BuilderF
import Derived.Shelf.Strings.BuilderK
import Derived.Shelf.Strings.Builder2Cap
import Derived.Shelf.Strconv.Itoa0
import Derived.Shelf.Strconv.Itoa1
import Derived.Shelf.LaysM
import Derived.Shelf.Strconv.Itoa2
import Derived.Shelf.Strconv.Itoa3
import Derived.Shelf.Strings.Search1
import Derived.Shelf.Strings.Search2
import Derived.Shelf.Strings.Search3
import Derived.Shelf.Strings.Cut
import Derived.Shelf.Strings.Count
import Derived.Shelf.Strings.Shaped
import Derived.Shelf.Strconv.AppendUint10
import Derived.Shelf.Strconv.AppendInt10
import Derived.Shelf.Strconv.AppendIntPublic10
import Derived.Shelf.Unicode.Latin
import Derived.Shelf.Bits.Mul64
import Derived.Shelf.Unicode.Is16White
import Derived.Shelf.Unicode.IsSpaceAny
import Derived.Shelf.Unicode.Is16Any
import Derived.Shelf.Unicode.Is32Any
import Derived.Shelf.Unicode.ExclAny
import Derived.Shelf.Strings.BuilderCap
import Derived.Test.YtpghciiifnjimaaGreatDoorProg
import Derived.Test.YtpghciiifnjimaaGreatDoorXK0
namespace Go.Proofs.YtpghciiifnjimaaGreatDoor
set_option maxRecDepth 4000
set_option linter.unusedSimpArgs false
set_option linter.unusedVariables false
open Go.RowKit
set_option maxRecDepth 8000 in
set_option maxHeartbeats 4000000 in
theorem wres11_any (op : Int) (A : Option Addr) (n cap : Nat) (w : World) (hA : IRow w A n) : Calls Tryz.prog 308 #[.int .i64 op, .slice A n cap] w (TuT w) := by
 have HA := hide hA
 clear hA
 by_cases h3 : (3 : Int) < n
 ·go_enter Tryz.func308, Tryz.ntmps308
  go_wp2_with fail
  all_goals ((first | go_ret | go_ret2) <;> exact ⟨⟨_, _, rfl⟩, by (repeat (first | (with_reducible first | exact Below.refl _ _ | assumption | refine Below.drew ?_) | ((with_reducible first | refine Below.alloc ?_ ?_ _ | refine Below.setCell ?_ ?_ _); rotate_left; (first | omega | (simp <;> omega)))))⟩)
 go_enter Tryz.func308, Tryz.ntmps308
 go_wp2_with fail
 go_loopw [6] (fun v wr => KW 0 n w v wr) (fun v _ => n - (intOf v).toNat)
 case atStart => exact ⟨0, by omega, by omega, rfl, rfl⟩
 case round =>
  obtain ⟨k, hk0n, hk, rfl, rfl⟩ := hrel
  by_cases hlt : k < n
  ·have hm : (k : Int) < n := by omega
   have hk0 : (0 : Int) ≤ k := by omega
   obtain ⟨b, off, rfl, hbl, hc⟩ := HA.out.at (by omega)
   obtain ⟨z, cz⟩ := hc k hlt
   clear hc
   go_wp2_with (go_at_call 307; refine (wgood11_any _ _).mono ?_; rintro r w1 ⟨⟨b, rfl⟩, rfl⟩)
   all_goals first
    | (go_roundw; (case rel => exact ⟨k + 1, by omega, by omega, by go_num, rfl⟩); (case measure => simp [intOf]; omega))
    | ((first | go_ret | go_ret2) <;> exact ⟨⟨_, _, rfl⟩, by (repeat (first | (with_reducible first | exact Below.refl _ _ | assumption | refine Below.drew ?_) | ((with_reducible first | refine Below.alloc ?_ ?_ _ | refine Below.setCell ?_ ?_ _); rotate_left; (first | omega | (simp <;> omega)))))⟩)
  ·obtain rfl : k = n := by omega
   go_wp2_with fail
   refine (wresult_any op A k cap _ HA.out).mono ?_
   rintro r w1 ⟨⟨z, b, rfl⟩, hb⟩
   go_wp2_with fail
   all_goals ((first | go_ret | go_ret2) <;> exact ⟨⟨_, _, rfl⟩, hb⟩)
/-- A row of some variables. -/
def VRow (w : World) (A : Option Addr) (n : Nat) : Prop := 0 < n → ∃ b off, A = some ⟨b, off, none⟩ ∧ b < w.heap.size ∧ ∀ k, k < n → ∃ (s : ByteArray) (z : Int), w.cell? ⟨b, off + k * 2, none⟩ = some (.string s) ∧ w.cell? ⟨b, off + k * 2 + 1, none⟩ = some (.int .i64 z)
theorem VRow.below {w w' : World} {A : Option Addr} {n : Nat} (h : VRow w A n) (hb : Below w.heap.size w w') : VRow w' A n := fun h0 => by
 obtain ⟨b, off, e, hlt, hc⟩ := h h0
 refine ⟨b, off, e, Nat.lt_of_lt_of_le hlt hb.size, fun k hk => ?_⟩
 obtain ⟨s, z, h1, h2⟩ := hc k hk
 exact ⟨s, z, (hb.cell (p := ⟨b, _, none⟩) hlt).trans h1, (hb.cell (p := ⟨b, _, none⟩) hlt).trans h2⟩
def TuE (w : World) (e : Ending) (w' : World) : Prop := (∃ z f : Int, e = .returned (.tuple #[.int .i64 z, .int .i64 f])) ∧ Below w.heap.size w w'
def nums (l : List Int) : List Value := l.map (.int .i64)
theorem own_irow {w : World} {base n : Nat} {e : TypeId} {A : Option Addr} {c : Nat} {l : List Int} (h : w.ownsRow base e 1 (.slice A n c) n (nums l)) : n ≤ c ∧ IRow w A n := by
 have hl : (nums l).length = n := by have := h.1; omega
 rcases h.2 with ⟨e2, h0⟩ | ⟨g, cap, cur, hv, hg, hh, h3, h4, h5, h6⟩
 ·injection e2 with e3 e4 e5
  exact ⟨by omega, .inl ⟨e3, e4⟩, ⟨fun _ => 0, fun hn => by omega⟩⟩
 ·injection hv with e1 e4 e5
  subst e1
  refine ⟨by omega, .inr ⟨_, _, rfl⟩, ⟨fun k => l.getD k 0, fun _ => ⟨g, 0, rfl, heap_lt hh, fun k j hk hj => ?_⟩⟩⟩
  obtain rfl : j = 0 := by omega
  have hk2 : k < l.length := by simpa [nums] using (by omega : k < (nums l).length)
  have f1 : (nums l)[k]? = some (.int .i64 (l.getD k 0)) := by simp [nums, hk2, List.getD]
  rw [← h6, List.getElem?_take] at f1
  split at f1
  ·have e0 : 0 + (k * 1 + 0) = k := by omega
   rw [e0]
   exact (cell_of_cells hh _).trans (by simpa using f1)
  ·cases f1
theorem nums_ones (l : List Int) : ∀ u ∈ nums l, u.oneCell' = true := fun u hu => by
 simp only [nums, List.mem_map] at hu
 obtain ⟨_, _, rfl⟩ := hu
 rfl
theorem int_info : (Tryz.prog.info? 3).map (fun i => (i.zero, i.size, i.bytes)) = some (some (.int .i64 0), 1, 8) := by kernel_rfl
theorem own_newP {w : World} {e : TypeId} {size g : Nat} (h : g = w.heap.size) : (w.alloc (.cells #[] e)).ownsRow g e size (.slice (some ⟨g, 0, none⟩) 0 0) 0 [] := by
 subst h
 exact own_new w e size
def OfJ (n : Nat) (w0 : Nat) (W : World) (v7 v8 : Value) (wr : World) : Prop := ∃ (k c : Nat) (A : Option Addr) (l : List Int), k ≤ n ∧ v8 = .int .i64 k ∧ v7 = .slice A k c ∧ wr.ownsRow w0 3 1 (.slice A k c) k (nums l) ∧ Below w0 W wr
def OfOK (ck : Nat → Tr) : Prop := ∀ (w : World) (X : Array Value) (V : Option Addr) (nv pv : Nat), ElT (Old w) w 5 ck X → nv ≤ 1000 → VRow w V nv → Calls Tryz.prog 276 #[.agg X, .slice V nv pv] w (TuE w)
set_option maxRecDepth 8000 in
set_option maxHeartbeats 16000000 in
theorem of_expr (ck : Nat → Tr) (hw : KnOK 5 ck) (hE : ∀ n c, ck 3 = .row n (tbl 5).length c → ∀ k, k < n → OfOK (c k)) : OfOK ck := by
 intro w X V nv pv hX hnv hV
 obtain ⟨n3, c3, hc3, hk3, A3, cap3, C3, e3, _, hA3⟩ := rd_row (e := 5) (hX.rd 3 (by decide)) (hw 3 (by decide))
 obtain ⟨z0, _, e0, _⟩ := rd_int (hX.rd 0 (by decide)) (hw 0 (by decide))
 obtain ⟨s2, _, e2, _⟩ := rd_str (hX.rd 2 (by decide)) (hw 2 (by decide))
 have hXs : X.size = 4 := hX.size
 have g0 : X[0]? = some (.int .i64 z0) := at_eq hXs (by decide) e0
 have g2 : X[2]? = some (.string s2) := at_eq hXs (by decide) e2
 have g3 : X[3]? = some (.slice A3 n3 cap3) := at_eq hXs (by decide) e3
 have HE := hide (fun k hk => hE n3 c3 hc3 k hk)
 have HA := hide hA3
 have HK := hide hk3
 have HV := hide hV
 have hn : n3 * 56 ≤ 140737488351232 := by have := hk3.room; simpa only [tby] using this
 have hn2 : n3 ≤ 140737488351232 := by omega
 obtain ⟨i0, hi0, hz00, hz1, hz2⟩ := info_parts int_info
 clear e0 e2 e3 hA3 hk3 hc3 hE hX hw hXs hV
 by_cases h4 : z0 = 4
 ·subst h4
  go_enter Tryz.func276, Tryz.ntmps276
  go_wp2_with fail
  go_loopw [6] (fun v wr => KB nv (w.alloc (.cells X 226)) v wr) (fun v _ => nv - (intOf v).toNat)
  case atStart => exact ⟨0, by omega, rfl, Below.refl _ _⟩
  case round =>
   obtain ⟨k, hk, rfl, hb⟩ := hrel
   have H0 := hide hb
   have q1B : Below w.heap.size w wr := qB hb
   have q1z := hb.size
   try simp at q1z
   have q1t : w.heap.size ≤ wr.heap.size := (by omega)
   obtain ⟨q1s0, q1n0_0, q1n0_1, q1n0_2⟩ := kB wr.heap.size w.heap.size
   have q1c0_0 := cel hb w.heap.size 0
   simp [go_sem, *] at q1c0_0
   have q1c0_2 := cel hb w.heap.size 2
   simp [go_sem, *] at q1c0_2
   have q1c0_3 := cel hb w.heap.size 3
   simp [go_sem, *] at q1c0_3
   have q1f0 := fun o => fro hb w.heap.size o
   simp [go_sem, *] at q1f0
   have q1o := belO q1B
   clear hb
   have QB := hide q1B
   have zH : w.heap.size + 1 ≤ wr.heap.size := by simpa using H0.out.size
   by_cases hlt : k < nv
   ·have hm : (k : Int) < nv := by omega
    have hk0 : (0 : Int) ≤ k := by omega
    have HLT := hide hlt
    obtain ⟨b, off, rfl, hbl, hc⟩ := (HV.out.below q1B) (by omega)
    obtain ⟨s, z, cs, cz⟩ := hc k hlt
    clear hc hlt hk
    rcases Bool.eq_false_or_eq_true (s.toList == s2.toList) with q | q
    ·go_wp2_with fail
     refine ord_start (SB (wr.heap.size) [] _) 16 (preB 0 16) (by kernel_rfl) (by kernel_rfl) (by kernel_rfl) SB.refl.drew (fun hHeld => ?_)
     refine oS (i := 0) (preB 1 15) rfl hHeld ?_
     (try simp only [Act.put, putS])
     refine oS (i := 1) (preB 2 14) rfl hHeld ?_
     (try simp only [Act.put, putS])
     refine oS (i := 2) (preB 3 13) rfl hHeld ?_
     (try simp only [Act.put, putS])
     refine oS (i := 3) (preB 4 12) rfl hHeld ?_
     (try simp only [Act.put, putS])
     refine oS (i := 4) (preB 5 11) rfl hHeld ?_
     (try simp only [Act.put, putS])
     refine oS (i := 5) (preB 6 10) rfl hHeld ?_
     (try simp only [Act.put, putS])
     refine oS (i := 6) (preB 7 9) rfl hHeld ?_
     (try simp only [Act.put, putS])
     refine oS (i := 7) (preB 8 8) rfl hHeld ?_
     (try simp only [Act.put, putS])
     refine oS (i := 8) (preB 9 7) rfl hHeld ?_
     (try simp only [Act.put, putS])
     refine oS (i := 9) (preB 10 6) rfl hHeld ?_
     (try simp only [Act.put, putS])
     refine oS (i := 10) (preB 11 5) rfl hHeld ?_
     (try simp only [Act.put, putS])
     refine oS (i := 11) (preB 12 4) rfl hHeld ?_
     (try simp only [Act.put, putS])
     refine oS (i := 12) (preB 13 3) rfl hHeld ?_
     (try simp only [Act.put, putS])
     refine oS (i := 13) (preB 14 2) rfl hHeld ?_
     (try simp only [Act.put, putS])
     refine wpAnyH_ready (rs := [14]) (by kernel_rfl) (by simp) ?_
     refine ord_run (i := 14) (preB 15 1) rfl (by kernel_rfl) (by rfl) (fun K hK => ?_) AllReadyH.nil
     go_simp
     go_wp2_with (go_at_call 307; refine (wgood11_any _ _).mono ?_; rintro r w1 ⟨⟨bb, rfl⟩, rfl⟩)
     refine hK.out _ _ ?_ (fun hHeld => ?_)
     ·exact sbT
     clear hK K
     (try simp only [Act.put, putS])
     refine oS (i := 15) (preB 16 0) rfl hHeld ?_
     (try simp only [Act.put, putS])
     refine wpAnyH_done (by kernel_rfl) ?_ _
     go_wp2_with fail
     all_goals try ((first | go_ret | go_ret2) <;> exact ⟨⟨_, _, rfl⟩, Below.trans QB.out belT⟩)
     refine ord_start (SB (wr.heap.size) [] _) 8 (preB 0 8) (by kernel_rfl) (by kernel_rfl) (by kernel_rfl) SB.refl.drew (fun hHeld => ?_)
     refine oS (i := 0) (preB 1 7) rfl hHeld ?_
     (try simp only [Act.put, putS])
     refine oS (i := 1) (preB 2 6) rfl hHeld ?_
     (try simp only [Act.put, putS])
     refine oS (i := 2) (preB 3 5) rfl hHeld ?_
     (try simp only [Act.put, putS])
     refine oS (i := 3) (preB 4 4) rfl hHeld ?_
     (try simp only [Act.put, putS])
     refine oS (i := 4) (preB 5 3) rfl hHeld ?_
     (try simp only [Act.put, putS])
     refine oS (i := 5) (preB 6 2) rfl hHeld ?_
     (try simp only [Act.put, putS])
     refine oS (i := 6) (preB 7 1) rfl hHeld ?_
     (try simp only [Act.put, putS])
     refine oS (i := 7) (preB 8 0) rfl hHeld ?_
     (try simp only [Act.put, putS])
     refine wpAnyH_done (by kernel_rfl) ?_ _
     go_wp2_with fail
     all_goals first
      | (go_roundw; (case rel => exact ⟨k + 1, HLT.out, by go_num, H0.out.trans belT⟩); (case measure => have := HLT.out; simp [intOf]; omega))
      | ((first | go_ret | go_ret2) <;> exact ⟨⟨_, _, rfl⟩, Below.trans QB.out belT⟩)
    ·go_wp2_with fail
     refine ord_start (SB (wr.heap.size) [] _) 16 (preB 0 16) (by kernel_rfl) (by kernel_rfl) (by kernel_rfl) SB.refl.drew (fun hHeld => ?_)
     refine oS (i := 0) (preB 1 15) rfl hHeld ?_
     (try simp only [Act.put, putS])
     refine oS (i := 1) (preB 2 14) rfl hHeld ?_
     (try simp only [Act.put, putS])
     refine oS (i := 2) (preB 3 13) rfl hHeld ?_
     (try simp only [Act.put, putS])
     refine oS (i := 3) (preB 4 12) rfl hHeld ?_
     (try simp only [Act.put, putS])
     refine oS (i := 4) (preB 5 11) rfl hHeld ?_
     (try simp only [Act.put, putS])
     refine oS (i := 5) (preB 6 10) rfl hHeld ?_
     (try simp only [Act.put, putS])
     refine oS (i := 6) (preB 7 9) rfl hHeld ?_
     (try simp only [Act.put, putS])
     refine oS (i := 7) (preB 8 8) rfl hHeld ?_
     (try simp only [Act.put, putS])
     refine oS (i := 8) (preB 9 7) rfl hHeld ?_
     (try simp only [Act.put, putS])
     refine ord_skip (i := 9) (preB 10 6) rfl (by kernel_rfl) (by kernel_rfl) (by kernel_rfl) (by kernel_rfl) (fun _ _ _ h => h) hHeld (by rfl) ?_
     (try simp only [Act.put, putS])
     refine ord_skip (i := 10) (preB 11 5) rfl (by kernel_rfl) (by kernel_rfl) (by kernel_rfl) (by kernel_rfl) (fun _ _ _ h => h) hHeld (by rfl) ?_
     (try simp only [Act.put, putS])
     refine ord_skip (i := 11) (preB 12 4) rfl (by kernel_rfl) (by kernel_rfl) (by kernel_rfl) (by kernel_rfl) (fun _ _ _ h => h) hHeld (by rfl) ?_
     (try simp only [Act.put, putS])
     refine ord_skip (i := 12) (preB 13 3) rfl (by kernel_rfl) (by kernel_rfl) (by kernel_rfl) (by kernel_rfl) (fun _ _ _ h => h) hHeld (by rfl) ?_
     (try simp only [Act.put, putS])
     refine ord_skip (i := 13) (preB 14 2) rfl (by kernel_rfl) (by kernel_rfl) (by kernel_rfl) (by kernel_rfl) (fun _ _ _ h => h) hHeld (by rfl) ?_
     (try simp only [Act.put, putS])
     refine ord_skip (i := 14) (preB 15 1) rfl (by kernel_rfl) (by kernel_rfl) (by kernel_rfl) (by kernel_rfl) (fun _ _ _ h => h) hHeld (by rfl) ?_
     (try simp only [Act.put, putS])
     refine oS (i := 15) (preB 16 0) rfl hHeld ?_
     (try simp only [Act.put, putS])
     refine wpAnyH_done (by kernel_rfl) ?_ _
     go_wp2_with fail
     all_goals try ((first | go_ret | go_ret2) <;> exact ⟨⟨_, _, rfl⟩, Below.trans QB.out belT⟩)
     refine ord_start (SB (wr.heap.size) [] _) 8 (preB 0 8) (by kernel_rfl) (by kernel_rfl) (by kernel_rfl) SB.refl.drew (fun hHeld => ?_)
     refine oS (i := 0) (preB 1 7) rfl hHeld ?_
     (try simp only [Act.put, putS])
     refine oS (i := 1) (preB 2 6) rfl hHeld ?_
     (try simp only [Act.put, putS])
     refine oS (i := 2) (preB 3 5) rfl hHeld ?_
     (try simp only [Act.put, putS])
     refine oS (i := 3) (preB 4 4) rfl hHeld ?_
     (try simp only [Act.put, putS])
     refine oS (i := 4) (preB 5 3) rfl hHeld ?_
     (try simp only [Act.put, putS])
     refine oS (i := 5) (preB 6 2) rfl hHeld ?_
     (try simp only [Act.put, putS])
     refine oS (i := 6) (preB 7 1) rfl hHeld ?_
     (try simp only [Act.put, putS])
     refine oS (i := 7) (preB 8 0) rfl hHeld ?_
     (try simp only [Act.put, putS])
     refine wpAnyH_done (by kernel_rfl) ?_ _
     go_wp2_with fail
     all_goals first
      | (go_roundw; (case rel => exact ⟨k + 1, HLT.out, by go_num, H0.out.trans belT⟩); (case measure => have := HLT.out; simp [intOf]; omega))
      | ((first | go_ret | go_ret2) <;> exact ⟨⟨_, _, rfl⟩, Below.trans QB.out belT⟩)
   ·obtain rfl : k = nv := by omega
    go_wp2_with fail
    all_goals ((first | go_ret | go_ret2) <;> exact ⟨⟨_, _, rfl⟩, QB.out⟩)
 ·have d4 : (z0 == 4) = false := by simpa using h4
  by_cases h1 : z0 = 1
  ·subst h1
   go_enter Tryz.func276, Tryz.ntmps276
   go_wp2_with fail
   all_goals ((first | go_ret | go_ret2) <;> exact ⟨⟨_, _, rfl⟩, by (repeat (first | (with_reducible first | exact Below.refl _ _ | assumption | refine Below.drew ?_) | ((with_reducible first | refine Below.alloc ?_ ?_ _ | refine Below.setCell ?_ ?_ _); rotate_left; (first | omega | (simp <;> omega)))))⟩)
  have d1 : (z0 == 1) = false := by simpa using h1
  by_cases h2 : z0 = 2
  ·subst h2
   go_enter Tryz.func276, Tryz.ntmps276
   go_wp2_with fail
   all_goals ((first | go_ret | go_ret2) <;> exact ⟨⟨_, _, rfl⟩, by (repeat (first | (with_reducible first | exact Below.refl _ _ | assumption | refine Below.drew ?_) | ((with_reducible first | refine Below.alloc ?_ ?_ _ | refine Below.setCell ?_ ?_ _); rotate_left; (first | omega | (simp <;> omega)))))⟩)
  have d2 : (z0 == 2) = false := by simpa using h2
  by_cases h3 : z0 = 3
  ·subst h3
   go_enter Tryz.func276, Tryz.ntmps276
   go_wp2_with fail
   all_goals ((first | go_ret | go_ret2) <;> exact ⟨⟨_, _, rfl⟩, by (repeat (first | (with_reducible first | exact Below.refl _ _ | assumption | refine Below.drew ?_) | ((with_reducible first | refine Below.alloc ?_ ?_ _ | refine Below.setCell ?_ ?_ _); rotate_left; (first | omega | (simp <;> omega)))))⟩)
  have d3 : (z0 == 3) = false := by simpa using h3
  clear h1 h2 h3 h4
  go_enter Tryz.func276, Tryz.ntmps276
  go_wp2_with fail
  go_loopw [7, 8] (fun v7 v8 wr => OfJ n3 (w.heap.size + 1) ((w.alloc (.cells X 226)).alloc (.cells #[] 3)) v7 v8 wr) (fun _ v _ => n3 - (intOf v).toNat)
  case atStart => exact ⟨0, 0, some ⟨w.heap.size + 1, 0, none⟩, [], by omega, rfl, rfl, own_newP (by simp), Below.refl _ _⟩
  case round =>
   obtain ⟨k, c, A, l, hkn, rfl, rfl, ho, hb⟩ := hrel
   have H0 := hide hb
   have HO := hide ho
   have q1B : Below w.heap.size w wr := qB hb
   have q1z := hb.size
   try simp at q1z
   have q1t : w.heap.size ≤ wr.heap.size := (by omega)
   obtain ⟨q1s0, q1n0_0, q1n0_1, q1n0_2⟩ := kB wr.heap.size w.heap.size
   have q1c0_0 := cel hb w.heap.size 0
   simp [go_sem, *] at q1c0_0
   have q1c0_2 := cel hb w.heap.size 2
   simp [go_sem, *] at q1c0_2
   have q1c0_3 := cel hb w.heap.size 3
   simp [go_sem, *] at q1c0_3
   have q1f0 := fun o => fro hb w.heap.size o
   simp [go_sem, *] at q1f0
   have q1o := belO q1B
   clear hb
   have QB := hide q1B
   have zH : w.heap.size + 2 ≤ wr.heap.size := by simpa using H0.out.size
   clear ho
   by_cases hlt : k < n3
   ·have hm : (k : Int) < n3 := by omega
    have hk0 : (0 : Int) ≤ k := by omega
    have HLT := hide hlt
    obtain ⟨b, off, rfl, hbl, hc⟩ := (HA.out.below q1B).cells (by decide) hlt
    have HC := hide (show ∀ j v, (elA 5 C3 k)[j]? = some v → wr.cell? ⟨b, off + k * 4 + j, none⟩ = some v from hc)
    have HX := hide ((HA.out.below q1B).el HK.out hlt)
    have HS := hide (ex_size (elA_size 5 C3 k))
    clear hc hlt
    go_wp2_with (with_reducible refine wpList_load_midA rfl 226 (.tmp 70) rfl b (off + k * 4) rfl (elA 5 C3 k) _ HC.out Tryz.underlying226 rfl HS.out ?_)
    refine (HE.out k HLT.out _ _ V nv pv HX.out hnv (HV.out.below QB.out)).mono ?_
    rintro r w5 ⟨⟨z5, f5, rfl⟩, hb⟩
    have B5 := hide (hb.mono (Nat.le_refl _))
    have z5s := hb.size
    have HO5 := hide (show ((w5.alloc (.cells #[.int .i64 z5] 3))).ownsRow (w.heap.size + 1) 3 1 (.slice A k c) k (nums l) from (owns_below HO.out hb).alloc _)
    clear hb
    by_cases hf : f5 = 0
    ·have df : (f5 != 0) = false := by simp [hf]
     clear hf
     go_wp2_with (at_builtin; go_loud (refine wpList_append_own2 _ rfl (.tmp 79) (.tmp 81) 97 rfl (w.heap.size + 1) 3 i0 (.int .i64 0) 1 8 Tryz.underlying97 hi0 hz00 hz1 hz2 rfl (by decide) _ _ _ rfl HO5.out ⟨w5.heap.size, 0, none⟩ 1 1 (nums [z5]) rfl rfl (news1 (by simp [go_sem])) (nums_ones _) (by have := HLT.out; simp only [maxLen]; omega) (by have := HLT.out; omega) (by first | omega | (simp <;> omega)) ?_; intro A2 c2 w2 ho2 hg2 hv2; have B2 := hide (below_grown (B := w.heap.size + 1) hg2 (by first | omega | (simp <;> omega)) (own_ge HO5.out)); have HO2 := hide (show w2.ownsRow (w.heap.size + 1) 3 1 (.slice A2 (k + 1) c2) (k + 1) (nums (l ++ [z5])) from by rw [show nums (l ++ [z5]) = nums l ++ nums [z5] from by simp [nums]]; exact ho2); clear ho2 hg2 hv2))
     go_roundw
     case rel => exact ⟨k + 1, c2, A2, l ++ [z5], HLT.out, by go_num, rfl, HO2.out, H0.out.trans (Below.trans (B5.out.mono (by omega)) ((BelA w5 _ (by omega)).trans B2.out))⟩
     case measure => have := HLT.out; simp [intOf]; omega
    ·have df : (f5 != 0) = true := by simpa using hf
     clear hf
     go_wp2_with fail
     all_goals ((first | go_ret | go_ret2) <;> exact ⟨⟨_, _, rfl⟩, QB.out.trans (B5.out.mono (by omega))⟩)
   ·obtain rfl : k = n3 := by omega
    clear hlt hkn
    go_wp2_with fail
    refine (wres11_any z0 A k c _ (own_irow HO.out).2).mono ?_
    rintro r w6 ⟨⟨z, b, rfl⟩, hb⟩
    go_wp2_with fail
    all_goals ((first | go_ret | go_ret2) <;> exact ⟨⟨_, _, rfl⟩, QB.out.trans (hb.mono (by omega))⟩)
end Go.Proofs.YtpghciiifnjimaaGreatDoor
namespace Go.Proofs.YtpghciiifnjimaaGreatDoor
set_option maxRecDepth 4000
set_option linter.unusedSimpArgs false
set_option linter.unusedVariables false
open Go.RowKit
theorem bcat (a b : List UInt8) : (⟨a.toArray⟩ : ByteArray) ++ (⟨b.toArray⟩ : ByteArray) = ⟨(a ++ b).toArray⟩ := by
 apply ByteArray.ext
 rw [ByteArray.data_append]
 simp
theorem bsize (a : List UInt8) : (⟨a.toArray⟩ : ByteArray).size = a.length := by simp [ByteArray.size]
theorem dig_piece {i : Nat} (h : i < 10) : ((⟨#[48, 49, 50, 51, 52, 53, 54, 55, 56, 57]⟩ : ByteArray).extract i (i + 1)) = ⟨[UInt8.ofNat (48 + i)].toArray⟩ := by
 have : ∀ j : Fin 10, ((⟨#[48, 49, 50, 51, 52, 53, 54, 55, 56, 57]⟩ : ByteArray).extract j.val (j.val + 1)) = ⟨[UInt8.ofNat (48 + j.val)].toArray⟩ := by decide +kernel
 exact this ⟨i, h⟩
theorem dig_cons {i : Nat} (h : i < 10) (l : List UInt8) : ((⟨#[48, 49, 50, 51, 52, 53, 54, 55, 56, 57]⟩ : ByteArray).extract i (i + 1)) ++ (⟨l.toArray⟩ : ByteArray) = ⟨(UInt8.ofNat (48 + i) :: l).toArray⟩ := by
 rw [dig_piece h, bcat]; rfl
/-- A digit as a byte. -/
def dgt (n : Nat) : UInt8 := UInt8.ofNat (48 + n % 10)
/-- The last k digits of a number. -/
def dgs (n : Nat) : Nat → List UInt8
 | 0 => []
 | k + 1 => dgt (n / 10 ^ k) :: dgs n k
theorem dgs_len (n : Nat) : ∀ k, (dgs n k).length = k
 | 0 => rfl
 | k + 1 => by simp [dgs, dgs_len n k]
def d2 (n : Nat) : List UInt8 := [dgt (n / 10), dgt n]
def d4 (n : Nat) : List UInt8 := [dgt (n / 1000), dgt (n / 100), dgt (n / 10), dgt n]
theorem dec_step {u : Nat} (h : ¬ u < 10) : Lib.decDigits u = Lib.decDigits (u / 10) ++ [dgt u] := by rw [Lib.decDigits, dif_neg h]; rfl
theorem dec_one {u : Nat} (h : u < 10) : Lib.decDigits u = [dgt u] := by rw [Lib.decDigits_one h]; unfold dgt; rw [Nat.mod_eq_of_lt h]
theorem itoa_2 {n : Nat} (h1 : 10 ≤ n) (h2 : n < 100) : Lib.itoa n = d2 n := by
 rw [Lib.itoa_nonneg, dec_step (by omega), dec_one (by omega)]; rfl
theorem itoa_1 {n : Nat} (h : n < 10) : 48 :: Lib.itoa n = d2 n := by
 rw [Lib.itoa_nonneg, dec_one h]
 have e : n / 10 = 0 := by omega
 simp [d2, e]; rfl
theorem itoa_4 {n : Nat} (h1 : 1000 ≤ n) (h2 : n < 10000) : Lib.itoa n = d4 n := by
 rw [Lib.itoa_nonneg, dec_step (by omega), dec_step (by omega), dec_step (by omega), dec_one (by omega)]
 simp [d4, Nat.div_div_eq_div_mul]
end Go.Proofs.YtpghciiifnjimaaGreatDoor
namespace Go.Proofs.YtpghciiifnjimaaGreatDoor
set_option maxRecDepth 4000
set_option linter.unusedSimpArgs false
set_option linter.unusedVariables false
open Go.RowKit
theorem dgs_snoc (a : Nat) : ∀ k, dgs a (k + 1) = dgs (a / 10) k ++ [dgt a]
 | 0 => by simp [dgs]
 | k + 1 => by
  have ih := dgs_snoc a k
  show dgt (a / 10 ^ (k + 1)) :: dgs a (k + 1) = (dgt (a / 10 / 10 ^ k) :: dgs (a / 10) k) ++ [dgt a]
  rw [ih, List.cons_append, Nat.div_div_eq_div_mul, Nat.pow_succ, Nat.mul_comm 10]
theorem dec_dgs (a : Nat) : Lib.decDigits a = dgs a (Lib.nDigits a) := by
 induction a using Nat.strongRecOn with
 | _ a ih =>
  by_cases h : a < 10
  ·rw [dec_one h, Lib.nDigits_small h]; simp [dgs]
  ·rw [dec_step h, Lib.nDigits_big h, ih (a / 10) (by omega), dgs_snoc]
theorem dgs_add (a d : Nat) : ∀ j, dgs a (j + d) = dgs (a / 10 ^ d) j ++ dgs a d
 | 0 => by simp [dgs]
 | j + 1 => by
  rw [Nat.add_right_comm]
  show dgt (a / 10 ^ (j + d)) :: dgs a (j + d) = (dgt (a / 10 ^ d / 10 ^ j) :: dgs (a / 10 ^ d) j) ++ dgs a d
  rw [dgs_add a d j, List.cons_append, Nat.div_div_eq_div_mul, ← Nat.pow_add, Nat.add_comm d j]
theorem dgt_zero : dgt 0 = 48 := rfl
/-- A zero in front. -/
theorem dgs_pad {a k : Nat} (h : Lib.nDigits a ≤ k) : 48 :: dgs a k = dgs a (k + 1) := by
 have h1 : a < 10 ^ k := Nat.lt_of_lt_of_le (Lib.lt_pow_nDigits a) (Nat.pow_le_pow_right (by decide) h)
 show 48 :: dgs a k = dgt (a / 10 ^ k) :: dgs a k
 rw [Nat.div_eq_of_lt h1, dgt_zero]
theorem nd_div (a d : Nat) : Lib.nDigits (a / 10 ^ d) = if d < Lib.nDigits a then Lib.nDigits a - d else 1 := by
 induction d generalizing a with
 | zero => have := Lib.nDigits_pos a; simp; omega
 | succ d ih =>
  rw [Nat.pow_succ, Nat.mul_comm, ← Nat.div_div_eq_div_mul, ih (a / 10)]
  by_cases h : a < 10
  ·have e : a / 10 = 0 := by omega
   rw [Lib.nDigits_small h, e, Lib.nDigits_small (by decide : 0 < 10)]
   split <;> split <;> omega
  ·rw [Lib.nDigits_big h]
   have := Lib.nDigits_pos (a / 10)
   split <;> split <;> omega
/-- The digits of an amount without its sign, with d decimal places. -/
def wholeL (a d : Nat) : List UInt8 := Lib.decDigits (a / 10 ^ d)
def mnB (n d : Int) : Bool := decide (-1000000000000 ≤ n ∧ n ≤ 1000000000000 ∧ 0 ≤ d ∧ d ≤ 4)
def mnL (n : Int) (d : Nat) : List UInt8 := (if n < 0 then [45] else []) ++ wholeL n.natAbs d ++ (if d = 0 then [] else 46 :: dgs n.natAbs d)
/-- The text of an amount; nothing if it is none. -/
def amtL (n d : Int) : List UInt8 := if mnB n d then mnL n d.toNat else []
def amtE (n d : Int) : Int := if mnB n d then 0 else 1
theorem mnB_iff {n d : Int} : mnB n d = true ↔ -1000000000000 ≤ n ∧ n ≤ 1000000000000 ∧ 0 ≤ d ∧ d ≤ 4 := by unfold mnB; simp
theorem amt_no {n d : Int} (h : mnB n d = false) : amtL n d = [] ∧ amtE n d = 1 := by unfold amtL amtE; rw [h]; exact ⟨rfl, rfl⟩
theorem amt_yes {n d : Int} (h : mnB n d = true) : amtL n d = mnL n d.toNat ∧ amtE n d = 0 := by unfold amtL amtE; rw [h]; exact ⟨rfl, rfl⟩
/-- The padded digits, parted at the point. -/
theorem pad_part {a d k : Nat} (hk : Lib.nDigits a ≤ k) (hd : d < k) (hm : k = Lib.nDigits a ∨ k = d + 1) : dgs a k = wholeL a d ++ dgs a d := by
 have hw : wholeL a d = dgs (a / 10 ^ d) (k - d) := by
  unfold wholeL
  rw [dec_dgs, nd_div]
  congr 1
  rcases hm with rfl | rfl
  ·rw [if_pos hd]
  ·split <;> omega
 rw [hw, ← dgs_add]
 congr 1
 omega
end Go.Proofs.YtpghciiifnjimaaGreatDoor
namespace Go.Proofs.YtpghciiifnjimaaGreatDoor
open Go.Shelf
def Tryz.lays169_ren : Go.Shelf.Ren := ⟨fun | 169 => 108 | n => n, fun | 70 => 169 | 9 => 9 | 0 => 0 | 72 => 172 | 37 => 170 | 127 => 237 | 3 => 3 | 5 => 5 | n => n, fun | n => n⟩
theorem Tryz.lays169 : Go.Proofs.Lays.n169 Tryz.prog Tryz.lays169_ren := {
 mixed := by kernel_rfl
 f169 := Tryz.func108.trans (congrArg some (by kernel_rfl))
 t0 := Tryz.underlying0
 a0 := Tryz.isAgg0
 z0 := Tryz.sizeOf0
 v0 := Tryz.zeroValue0
 t3 := Tryz.underlying3
 a3 := Tryz.isAgg3
 z3 := Tryz.sizeOf3
 v3 := Tryz.zeroValue3
 t9 := Tryz.underlying9
 a9 := Tryz.isAgg9
 z9 := Tryz.sizeOf9
 v9 := Tryz.zeroValue9
 t37 := Tryz.underlying170
 a37 := Tryz.isAgg170
 z37 := Tryz.sizeOf170
 v37 := Tryz.zeroValue170
 t70 := Tryz.underlying169
 a70 := Tryz.isAgg169
 z70 := Tryz.sizeOf169
 v70 := Tryz.zeroValue169
 t72 := Tryz.underlying172
 a72 := Tryz.isAgg172
 z72 := Tryz.sizeOf172
 v72 := Tryz.zeroValue172
 t127 := Tryz.underlying237
 a127 := Tryz.isAgg237
 z127 := Tryz.sizeOf237
 v127 := Tryz.zeroValue237 }
theorem Tryz.Builder_Extra_169 : Builder.Extra Tryz.prog Tryz.lays169_ren := {
 sizeBuilder := by kernel_rfl
 liesBuilder := by kernel_rfl
 t5 := Tryz.underlying5
 a5 := Tryz.isAgg5
 z5 := Tryz.sizeOf5
 v5 := Tryz.zeroValue5
 infoByte := by kernel_rfl
 cellsByte := by kernel_rfl
 sizeByte := by kernel_rfl
 neB5 := by decide }
def Tryz.lays156_ren : Go.Shelf.Ren := ⟨fun | 156 => 103 | 165 => 159 | 166 => 102 | 169 => 108 | 240 => 158 | 241 => 208 | 276 => 207 | 277 => 249 | n => n, fun | 31 => 173 | 9 => 9 | 3 => 3 | 4 => 4 | 0 => 0 | 20 => 20 | 72 => 172 | 76 => 176 | 70 => 169 | 37 => 170 | 75 => 175 | 127 => 237 | 164 => 288 | 5 => 5 | 80 => 181 | n => n, fun | n => n⟩
theorem Tryz.lays156 : Go.Proofs.Lays.n156 Tryz.prog Tryz.lays156_ren := {
 mixed := by kernel_rfl
 f156 := Tryz.func103.trans (congrArg some (by kernel_rfl))
 f165 := Tryz.func159.trans (congrArg some (by kernel_rfl))
 f166 := Tryz.func102.trans (congrArg some (by kernel_rfl))
 f169 := Tryz.func108.trans (congrArg some (by kernel_rfl))
 f240 := Tryz.func158.trans (congrArg some (by kernel_rfl))
 f241 := Tryz.func208.trans (congrArg some (by kernel_rfl))
 f276 := Tryz.func207.trans (congrArg some (by kernel_rfl))
 f277 := Tryz.func249.trans (congrArg some (by kernel_rfl))
 t0 := Tryz.underlying0
 a0 := Tryz.isAgg0
 z0 := Tryz.sizeOf0
 v0 := Tryz.zeroValue0
 t3 := Tryz.underlying3
 a3 := Tryz.isAgg3
 z3 := Tryz.sizeOf3
 v3 := Tryz.zeroValue3
 t4 := Tryz.underlying4
 a4 := Tryz.isAgg4
 z4 := Tryz.sizeOf4
 v4 := Tryz.zeroValue4
 t9 := Tryz.underlying9
 a9 := Tryz.isAgg9
 z9 := Tryz.sizeOf9
 v9 := Tryz.zeroValue9
 t20 := Tryz.underlying20
 a20 := Tryz.isAgg20
 z20 := Tryz.sizeOf20
 v20 := Tryz.zeroValue20
 t31 := Tryz.underlying173
 a31 := Tryz.isAgg173
 z31 := Tryz.sizeOf173
 v31 := Tryz.zeroValue173
 t37 := Tryz.underlying170
 a37 := Tryz.isAgg170
 z37 := Tryz.sizeOf170
 v37 := Tryz.zeroValue170
 t70 := Tryz.underlying169
 a70 := Tryz.isAgg169
 z70 := Tryz.sizeOf169
 v70 := Tryz.zeroValue169
 t72 := Tryz.underlying172
 a72 := Tryz.isAgg172
 z72 := Tryz.sizeOf172
 v72 := Tryz.zeroValue172
 t75 := Tryz.underlying175
 a75 := Tryz.isAgg175
 z75 := Tryz.sizeOf175
 v75 := Tryz.zeroValue175
 t76 := Tryz.underlying176
 a76 := Tryz.isAgg176
 z76 := Tryz.sizeOf176
 v76 := Tryz.zeroValue176
 t127 := Tryz.underlying237
 a127 := Tryz.isAgg237
 z127 := Tryz.sizeOf237
 v127 := Tryz.zeroValue237
 t164 := Tryz.underlying288
 a164 := Tryz.isAgg288
 z164 := Tryz.sizeOf288
 v164 := Tryz.zeroValue288 }
theorem Tryz.Builder_Extra_156 : Builder.Extra Tryz.prog Tryz.lays156_ren := {
 sizeBuilder := by kernel_rfl
 liesBuilder := by kernel_rfl
 t5 := Tryz.underlying5
 a5 := Tryz.isAgg5
 z5 := Tryz.sizeOf5
 v5 := Tryz.zeroValue5
 infoByte := by kernel_rfl
 cellsByte := by kernel_rfl
 sizeByte := by kernel_rfl
 neB5 := by decide }
open Go.RowKit in
/-- strings.Join: "Join concatenates the elements of its first argument to create a single string. The separator string sep is placed between elements in the resulting string.": HOWEVER MANY ELEMENTS. Below the heap's end the world is as it was. (LAID: no walk: one application.) -/
theorem Tryz.strings_Join (bk o c : Nat) (xs : List ByteArray) (sep : ByteArray) (w : World) (hcells : ∀ (j : Nat) x, xs[j]? = some x → w.cell? ⟨bk, o + j, none⟩ = some (.string x)) (hbk : bk < w.heap.size) (hN : xs.length ≤ 140737488355328) (hcap : xs.length ≤ c) (hlen : (Lib.join (xs.map (·.data.toList)) sep.data.toList).length ≤ 140737488355328) :
  Calls Tryz.prog 103 #[.slice (some ⟨bk, o, none⟩) xs.length c, .string sep] w fun e w' => e = .returned (.string ⟨(Lib.join (xs.map (·.data.toList)) sep.data.toList).toArray⟩) ∧ Below w.heap.size w w' := Any.strings_Join Tryz.lays156 Tryz.Builder_Extra_156 bk o c xs sep w hcells hbk hN hcap hlen
open Go.RowKit in
/-- (*strings.Builder).String: "String returns the accumulated string.": WHATEVER THE BUILDER HOLDS; THE FORM '_k': OVER 'Lib.IsBuilderF' (a builder that 'String()' may have read), AND WITH THE FRAME THAT REACHES ABOVE THE BUILDER: 'Lib.OthersKept': every block that is not b and is no row of uint8's stands as it stood: the iterator of a range among them. (LAID: no walk: one application.) -/
theorem Tryz.Builder_String_any_k (B b : Nat) (l : List UInt8) (w : World) (h : Lib.IsBuilderF 172 5 B b (Lib.byteCells l) w) (hBw : B ≤ w.heap.size) :
  Calls Tryz.prog 108 #[.pointer (some ⟨b, 0, none⟩)] w fun e w' => e = .returned (.string ⟨l.toArray⟩) ∧ (Lib.IsBuilderF 172 5 B b (Lib.byteCells l) w' ∧ Below B w w' ∧ Lib.OthersKept 5 (some b) w w') := Any.Builder_String_any_k Tryz.lays169 Tryz.Builder_Extra_169 B b l w h hBw
def Tryz.laysM171_ren : Go.Shelf.Ren := ⟨fun | 171 => 106 | 243 => 162 | 246 => 209 | 283 => 250 | 284 => 251 | 285 => 252 | 286 => 253 | 129 => 280 | 317 => 279 | 318 => 281 | 319 => 282 | 320 => 283 | 337 => 309 | 338 => 310 | n => n, fun | 3 => 3 | 9 => 9 | 2 => 2 | 4 => 4 | 171 => 325 | 0 => 0 | 53 => 51 | 37 => 170 | 5 => 5 | 173 => 328 | 212 => 351 | 51 => 352 | 20 => 20 | 213 => 353 | 46 => 249 | 232 => 381 | 233 => 382 | n => n, fun | 17 => 2 | 18 => 5 | 19 => 6 | n => n⟩
theorem Tryz.laysM171 : Go.Proofs.LaysM.n171 Tryz.prog Tryz.laysM171_ren := {
 mixed := by kernel_rfl
 f129 := Tryz.func280.trans (congrArg some (by kernel_rfl))
 f171 := Tryz.func106.trans (congrArg some (by kernel_rfl))
 f243 := Tryz.func162.trans (congrArg some (by kernel_rfl))
 f246 := Tryz.func209.trans (congrArg some (by kernel_rfl))
 f283 := Tryz.func250.trans (congrArg some (by kernel_rfl))
 f284 := Tryz.func251.trans (congrArg some (by kernel_rfl))
 f285 := Tryz.func252.trans (congrArg some (by kernel_rfl))
 f286 := Tryz.func253.trans (congrArg some (by kernel_rfl))
 f317 := Tryz.func279.trans (congrArg some (by kernel_rfl))
 f318 := Tryz.func281.trans (congrArg some (by kernel_rfl))
 f319 := Tryz.func282.trans (congrArg some (by kernel_rfl))
 f320 := Tryz.func283.trans (congrArg some (by kernel_rfl))
 f337 := Tryz.func309.trans (congrArg some (by kernel_rfl))
 f338 := Tryz.func310.trans (congrArg some (by kernel_rfl))
 t0 := Tryz.underlying0
 a0 := Tryz.isAgg0
 z0 := Tryz.sizeOf0
 v0 := Tryz.zeroValue0
 t2 := Tryz.underlying2
 a2 := Tryz.isAgg2
 z2 := Tryz.sizeOf2
 v2 := Tryz.zeroValue2
 t3 := Tryz.underlying3
 a3 := Tryz.isAgg3
 z3 := Tryz.sizeOf3
 v3 := Tryz.zeroValue3
 t4 := Tryz.underlying4
 a4 := Tryz.isAgg4
 z4 := Tryz.sizeOf4
 v4 := Tryz.zeroValue4
 t5 := Tryz.underlying5
 a5 := Tryz.isAgg5
 z5 := Tryz.sizeOf5
 v5 := Tryz.zeroValue5
 t9 := Tryz.underlying9
 a9 := Tryz.isAgg9
 z9 := Tryz.sizeOf9
 v9 := Tryz.zeroValue9
 t20 := Tryz.underlying20
 a20 := Tryz.isAgg20
 z20 := Tryz.sizeOf20
 v20 := Tryz.zeroValue20
 t37 := Tryz.underlying170
 a37 := Tryz.isAgg170
 z37 := Tryz.sizeOf170
 v37 := Tryz.zeroValue170
 t46 := Tryz.underlying249
 a46 := Tryz.isAgg249
 z46 := Tryz.sizeOf249
 v46 := Tryz.zeroValue249
 t51 := Tryz.underlying352
 a51 := Tryz.isAgg352
 z51 := Tryz.sizeOf352
 v51 := Tryz.zeroValue352
 t53 := Tryz.underlying51
 a53 := Tryz.isAgg51
 z53 := Tryz.sizeOf51
 v53 := Tryz.zeroValue51
 t171 := Tryz.underlying325
 a171 := Tryz.isAgg325
 z171 := Tryz.sizeOf325
 v171 := Tryz.zeroValue325
 t173 := Tryz.underlying328
 a173 := Tryz.isAgg328
 z173 := Tryz.sizeOf328
 v173 := Tryz.zeroValue328
 t212 := Tryz.underlying351
 a212 := Tryz.isAgg351
 z212 := Tryz.sizeOf351
 v212 := Tryz.zeroValue351
 t213 := Tryz.underlying353
 a213 := Tryz.isAgg353
 z213 := Tryz.sizeOf353
 t232 := Tryz.underlying381
 a232 := Tryz.isAgg381
 z232 := Tryz.sizeOf381
 v232 := Tryz.zeroValue381
 t233 := Tryz.underlying382
 a233 := Tryz.isAgg382
 z233 := Tryz.sizeOf382
 v233 := Tryz.zeroValue382
 g17 := by kernel_rfl
 g18 := by kernel_rfl
 g19 := by kernel_rfl
 i0 := by kernel_rfl
 i2 := by kernel_rfl
 i3 := by kernel_rfl
 i4 := by kernel_rfl
 i5 := by kernel_rfl
 i9 := by kernel_rfl
 i20 := by kernel_rfl
 i37 := by kernel_rfl
 i46 := by kernel_rfl
 i51 := by kernel_rfl
 i53 := by kernel_rfl
 i171 := by kernel_rfl
 i173 := by kernel_rfl
 i212 := by kernel_rfl
 i232 := by kernel_rfl
 i233 := by kernel_rfl
 m17 := by kernel_rfl
 m18 := by kernel_rfl
 m19 := by kernel_rfl }
open Go.RowKit Go.Sort Go.Lib in
/-- strconv.Itoa: "Itoa is equivalent to FormatInt(int64(i), 10).": i's DECIMAL NUMERAL ('Lib.itoa': a '-' where i is negative, then the digits), FOR EVERY int. The world behind the call: the world before it, new blocks behind the heap (the library's 'var a [24]byte'), draws. (LAID: no walk: one application.) -/
theorem Tryz.strconv_Itoa (n : Int) (h0 : -9223372036854775808 ≤ n) (h1 : n ≤ 9223372036854775807) (w : World) (htab : Lib.TabIs Tryz.prog w "internal/strconv.uint64pow10" .u64 Lib.pow10Tab) :
  Calls Tryz.prog 106 #[.int .i64 n] w fun e w' => e = .returned (.string ⟨(Lib.itoa n).toArray⟩) ∧ ∃ k os, w' = grow (w.drewN k) os := Any.strconv_Itoa Tryz.laysM171 n h0 h1 w htab
def Tryz.laysM176_ren : Go.Shelf.Ren := ⟨fun | 176 => 240 | 249 => 274 | 288 => 301 | 283 => 250 | 284 => 251 | 285 => 252 | 286 => 253 | 129 => 280 | 317 => 279 | 318 => 281 | 319 => 282 | 320 => 283 | 337 => 309 | 338 => 310 | n => n, fun | 37 => 170 | 2 => 2 | 3 => 3 | 53 => 51 | 4 => 4 | 9 => 9 | 171 => 325 | 0 => 0 | 173 => 328 | 212 => 351 | 51 => 352 | 5 => 5 | 20 => 20 | 213 => 353 | 46 => 249 | 232 => 381 | 233 => 382 | n => n, fun | 17 => 2 | 18 => 5 | 19 => 6 | n => n⟩
theorem Tryz.laysM176 : Go.Proofs.LaysM.n176 Tryz.prog Tryz.laysM176_ren := {
 mixed := by kernel_rfl
 f129 := Tryz.func280.trans (congrArg some (by kernel_rfl))
 f176 := Tryz.func240.trans (congrArg some (by kernel_rfl))
 f249 := Tryz.func274.trans (congrArg some (by kernel_rfl))
 f283 := Tryz.func250.trans (congrArg some (by kernel_rfl))
 f284 := Tryz.func251.trans (congrArg some (by kernel_rfl))
 f285 := Tryz.func252.trans (congrArg some (by kernel_rfl))
 f286 := Tryz.func253.trans (congrArg some (by kernel_rfl))
 f288 := Tryz.func301.trans (congrArg some (by kernel_rfl))
 f317 := Tryz.func279.trans (congrArg some (by kernel_rfl))
 f318 := Tryz.func281.trans (congrArg some (by kernel_rfl))
 f319 := Tryz.func282.trans (congrArg some (by kernel_rfl))
 f320 := Tryz.func283.trans (congrArg some (by kernel_rfl))
 f337 := Tryz.func309.trans (congrArg some (by kernel_rfl))
 f338 := Tryz.func310.trans (congrArg some (by kernel_rfl))
 t0 := Tryz.underlying0
 a0 := Tryz.isAgg0
 z0 := Tryz.sizeOf0
 v0 := Tryz.zeroValue0
 t2 := Tryz.underlying2
 a2 := Tryz.isAgg2
 z2 := Tryz.sizeOf2
 v2 := Tryz.zeroValue2
 t3 := Tryz.underlying3
 a3 := Tryz.isAgg3
 z3 := Tryz.sizeOf3
 v3 := Tryz.zeroValue3
 t4 := Tryz.underlying4
 a4 := Tryz.isAgg4
 z4 := Tryz.sizeOf4
 v4 := Tryz.zeroValue4
 t5 := Tryz.underlying5
 a5 := Tryz.isAgg5
 z5 := Tryz.sizeOf5
 v5 := Tryz.zeroValue5
 t9 := Tryz.underlying9
 a9 := Tryz.isAgg9
 z9 := Tryz.sizeOf9
 v9 := Tryz.zeroValue9
 t20 := Tryz.underlying20
 a20 := Tryz.isAgg20
 z20 := Tryz.sizeOf20
 v20 := Tryz.zeroValue20
 t37 := Tryz.underlying170
 a37 := Tryz.isAgg170
 z37 := Tryz.sizeOf170
 v37 := Tryz.zeroValue170
 t46 := Tryz.underlying249
 a46 := Tryz.isAgg249
 z46 := Tryz.sizeOf249
 v46 := Tryz.zeroValue249
 t51 := Tryz.underlying352
 a51 := Tryz.isAgg352
 z51 := Tryz.sizeOf352
 v51 := Tryz.zeroValue352
 t53 := Tryz.underlying51
 a53 := Tryz.isAgg51
 z53 := Tryz.sizeOf51
 v53 := Tryz.zeroValue51
 t171 := Tryz.underlying325
 a171 := Tryz.isAgg325
 z171 := Tryz.sizeOf325
 v171 := Tryz.zeroValue325
 t173 := Tryz.underlying328
 a173 := Tryz.isAgg328
 z173 := Tryz.sizeOf328
 v173 := Tryz.zeroValue328
 t212 := Tryz.underlying351
 a212 := Tryz.isAgg351
 z212 := Tryz.sizeOf351
 v212 := Tryz.zeroValue351
 t213 := Tryz.underlying353
 a213 := Tryz.isAgg353
 z213 := Tryz.sizeOf353
 t232 := Tryz.underlying381
 a232 := Tryz.isAgg381
 z232 := Tryz.sizeOf381
 v232 := Tryz.zeroValue381
 t233 := Tryz.underlying382
 a233 := Tryz.isAgg382
 z233 := Tryz.sizeOf382
 v233 := Tryz.zeroValue382
 g17 := by kernel_rfl
 g18 := by kernel_rfl
 g19 := by kernel_rfl
 i0 := by kernel_rfl
 i2 := by kernel_rfl
 i3 := by kernel_rfl
 i4 := by kernel_rfl
 i5 := by kernel_rfl
 i9 := by kernel_rfl
 i20 := by kernel_rfl
 i37 := by kernel_rfl
 i46 := by kernel_rfl
 i51 := by kernel_rfl
 i53 := by kernel_rfl
 i171 := by kernel_rfl
 i173 := by kernel_rfl
 i212 := by kernel_rfl
 i232 := by kernel_rfl
 i233 := by kernel_rfl
 m17 := by kernel_rfl
 m18 := by kernel_rfl
 m19 := by kernel_rfl }
open Go.RowKit Go.Sort Go.Lib in
/-- strconv.AppendInt: "AppendInt appends the string form of the integer i, as generated by FormatInt, to dst and returns the extended buffer.": AT BASE 10: WHAT COMES BACK OWNS dst's CELLS AND, BEHIND THEM, i's DECIMAL NUMERAL ('Lib.itoa i': at most 20 bytes), for every int64. Below the call's own blocks nothing has turned. (LAID: no walk: one application.) -/
theorem Tryz.strconv_AppendInt_10 (B n : Nat) (i : Int) (h0 : -9223372036854775808 ≤ i) (h1 : i ≤ 9223372036854775807) (sv : Value) (xs : List Value) (w : World) (hown : w.ownsRow B 5 1 sv n xs) (hBw : B ≤ w.heap.size) (hlim : n + 21 ≤ 140737488355328) (htab : Lib.TabBelow Tryz.prog B w "internal/strconv.uint64pow10" .u64 Lib.pow10Tab) :
  Calls Tryz.prog 240 #[sv, .int .i64 i, .int .i64 10] w fun e w' => ∃ v', e = .returned v' ∧ w'.ownsRow B 5 1 v' (n + (Lib.itoa i).length) (xs ++ Lib.byteCells (Lib.itoa i)) ∧ Below B w w' ∧ Lib.OthersKept 5 none w w' := Any.strconv_AppendInt_10 Tryz.laysM176 B n i h0 h1 sv xs w hown hBw hlim htab
end Go.Proofs.YtpghciiifnjimaaGreatDoor
