/- Texts laid together: Ezt Opq Opr. -/
import Derived.Test.YtpghciiifnjimaaGreatDoorXTrM
import Derived.Test.YtpghciiifnjimaaGreatDoorXRowM
import Derived.Test.YtpghciiifnjimaaGreatDoorXStA
import Derived.Test.YtpghciiifnjimaaGreatDoorXNum
import Derived.Great.BuildSlice
import Derived.Great.Walk
import Derived.Laws.CopyOwn
import Derived.Laws.Rows
import Derived.Deep.MidRow
namespace Go.Proofs.YtpghciiifnjimaaGreatDoor
set_option maxRecDepth 4000
set_option linter.unusedSimpArgs false
set_option linter.unusedVariables false
open Go.RowKit
/-- A record in memory's terms: its cells read as trees. -/
structure ElT (S : Nat → Prop) (w : World) (e : Nat) (ck : Nat → Tr) (X : Array Value) : Prop where
 size : X.size = (tbl e).length
 ones : X.all (·.oneCell') = true
 rd : ∀ j, j < (tbl e).length → (ck j).rd S w (X.getD j undef)
theorem ElT.mono {S S' : Nat → Prop} {w w' : World} {e : Nat} {ck : Nat → Tr} {X : Array Value} (hs : ∀ b, S b → S' b) (hw : ∀ b, S b → w'.heap[b]? = w.heap[b]?) (h : ElT S w e ck X) : ElT S' w' e ck X :=
 ⟨h.size, h.ones, fun j hj => (h.rd j hj).mono hs hw⟩
theorem ElT.below {w w' : World} {e : Nat} {ck : Nat → Tr} {X : Array Value} (h : ElT (Old w) w e ck X) (hb : Below w.heap.size w w') : ElT (Old w') w' e ck X :=
 h.mono (fun _ hb' => Nat.lt_of_lt_of_le hb' hb.size) (fun b hb' => hb.block b hb')
/-- A row's element, as a record. -/
def elA (e : Nat) (C : Nat → Nat → Value) (k : Nat) : Array Value := ((List.range (tbl e).length).map (C k)).toArray
theorem elA_size (e : Nat) (C : Nat → Nat → Value) (k : Nat) : (elA e C k).size = (tbl e).length := by simp [elA]
theorem elA_at (e : Nat) (C : Nat → Nat → Value) (k j : Nat) (hj : j < (tbl e).length) : (elA e C k)[j]? = some (C k j) := by simp [elA, hj]
theorem elA_getD (e : Nat) (C : Nat → Nat → Value) (k j : Nat) (hj : j < (tbl e).length) : (elA e C k).getD j undef = C k j := by
 have h := elA_at e C k j hj
 have hs : j < (elA e C k).size := by rw [elA_size]; exact hj
 rw [Array.getElem?_eq_getElem hs] at h
 rw [Array.getD, dif_pos hs]
 exact Option.some.inj h
theorem RowT.el {S : Nat → Prop} {w : World} {e : Nat} {A : Option Addr} {n : Nat} {c : Nat → Nat → Tr} {C : Nat → Nat → Value} (h : RowT S w e A n c C) (hk : RowK e n c) {k : Nat} (hkn : k < n) : ElT S w e (c k) (elA e C k) := by
 refine ⟨elA_size e C k, ?_, fun j hj => by rw [elA_getD _ _ _ _ hj]; exact h.rd k j hkn hj⟩
 rw [Array.all_eq_true]
 intro j hj
 rw [elA_size] at hj
 have := elA_at e C k j hj
 rw [Array.getElem?_eq_getElem (by rw [elA_size]; exact hj)] at this
 rw [Option.some.inj this]
 exact rd_one (h.rd k j hkn hj) (hk.wt k j hkn hj)
theorem RowT.cells {S : Nat → Prop} {w : World} {e : Nat} {A : Option Addr} {n : Nat} {c : Nat → Nat → Tr} {C : Nat → Nat → Value} (h : RowT S w e A n c C) (h0 : 0 < (tbl e).length) {k : Nat} (hkn : k < n) :
  ∃ b off, A = some ⟨b, off, none⟩ ∧ b < w.heap.size ∧ ∀ j v, (elA e C k)[j]? = some v → w.cell? ⟨b, off + k * (tbl e).length + j, none⟩ = some v := by
 obtain ⟨b, off, ha, _, hc⟩ := h.row (by omega)
 refine ⟨b, off, ha, World.block_lt_of_cell? _ _ (hc k 0 hkn h0), fun j v hv => ?_⟩
 have hj : j < (tbl e).length := by rw [← elA_size e C k]; exact (Array.getElem?_eq_some_iff.1 hv).1
 rw [elA_at _ _ _ _ hj] at hv
 rw [Nat.add_assoc, hc k j hkn hj]
 exact hv
theorem getD_at {X : Array Value} {j : Nat} (h : j < X.size) : X[j]? = some (X.getD j undef) := by
 rw [Array.getElem?_eq_getElem h, Array.getD, dif_pos h]; rfl
theorem at_eq {X : Array Value} {j n : Nat} {v : Value} (hs : X.size = n) (h : j < n) (e : X.getD j undef = v) : X[j]? = some v := by rw [getD_at (by omega), e]
def KnOK (e : Nat) (ck : Nat → Tr) : Prop := ∀ j, j < (tbl e).length → (ck j).wt ((tbl e).getD j .i)
def tids : List TypeId := [3, 145, 99, 148, 165, 226, 228, 231, 88, 44, 107, 53, 159, 163, 84]
theorem tab_bk : tblB Tryz.prog tids = true := by kernel_rfl
theorem flat_bk : flatT Tryz.prog tids 4 33 = some (tbl 15) := by kernel_rfl
theorem toList_getD (C : Array Value) (j : Nat) : C.toList.getD j undef = C.getD j undef := by
 rw [List.getD_eq_getElem?_getD, Array.getElem?_toList]
 rcases Nat.lt_or_ge j C.size with h | h
 ·rw [Array.getElem?_eq_getElem h, Array.getD, dif_pos h]; rfl
 ·rw [Array.getElem?_eq_none h, Array.getD, dif_neg (by omega)]; rfl
section
variable {H : Type} {enc : TypeId × Value → H} {w : World} {base : Nat} {spare : Nat → Bool} {held : Bool}
theorem el_arg {e : Nat} {t : TypeId} (hfl : flatT Tryz.prog tids 4 t = some (tbl e)) (hs : structB Tryz.prog t = true) {r : Reach} {b0 : Nat} {v : Value} {d : DataW H} {p : List MemPlace} (hv : Value.okWide Tryz.prog w r b0 t v) (h : DataW.Trod enc Tryz.prog w base spare held t v d p) (hm : ∀ m, m ∈ d.weights Tryz.prog t → m ≤ 140737488351232) :
  ∃ C ck, v = .agg C ∧ KnOK e ck ∧ ElT (Old w) w e ck C := by
 obtain ⟨C, rfl, _, _⟩ := agg_open hs hv h
 obtain ⟨fuel, hf⟩ := h
 have hr : Reads w C.toList (tbl e) := tree_open tab_bk fuel 4 t (tbl e) C.toList (d, p) hfl hf hm
 have hr2 : ∀ j, j < (tbl e).length → ∃ T : Tr, T.rd (Old w) w (C.getD j undef) ∧ T.wt ((tbl e).getD j .i) := fun j hj => by
  have := hr.2 j hj
  rwa [toList_getD] at this
 refine ⟨C, fun j => if h : j < (tbl e).length then Classical.choose (hr2 j h) else .lf undef, rfl, fun j hj => ?_, ⟨by rw [← Array.length_toList]; exact hr.1, agg_one hs hv, fun j hj => ?_⟩⟩
 ·simp only [dif_pos hj]
  exact (Classical.choose_spec (hr2 j hj)).2
 ·simp only [dif_pos hj]
  exact (Classical.choose_spec (hr2 j hj)).1
theorem bk_arg {r : Reach} {b0 : Nat} {v : Value} {d : DataW H} {p : List MemPlace} (hv : Value.okWide Tryz.prog w r b0 33 v) (h : DataW.Trod enc Tryz.prog w base spare held 33 v d p) (hm : ∀ m, m ∈ d.weights Tryz.prog 33 → m ≤ 140737488351232) :
  ∃ C ck, v = .agg C ∧ KnOK 15 ck ∧ ElT (Old w) w 15 ck C := el_arg flat_bk (by kernel_rfl) hv h hm
/-- The weights of one argument. -/
theorem wt_arg {P : Program} {ts : List TypeId} {ds : List (DataW H)} (h : (DataW.weightsEach P ts ds).all (· ≤ reachBytes) = true) {i : Nat} {t : TypeId} {d : DataW H} (ht : ts[i]? = some t) (hd : ds[i]? = some d) : ∀ m, m ∈ d.weights P t → m ≤ 140737488351232 := fun m hm => by
 have := List.all_eq_true.1 h m (mem_each ht hd hm)
 exact (of_decide_eq_true this : m ≤ reachBytes)
end
def lgK (T : Tr) (i : Nat) : LLeg := legOf (fun j => lfv (T.c i j))
theorem acc_of {S : Nat → Prop} {w : World} {A : Option Addr} {n : Nat} {c : Nat → Nat → Tr} {C : Nat → Nat → Value} (hr : RowT S w 9 A n c C) (hk : RowK 9 n c) : RowAcc w A n (fun k => accOf (fun j => lfv (c k j))) :=
 (hr.row.toS (by decide)).congr fun k j hkn hj => by
  have hj2 : j < 7 := hj
  have I := fun (i : Nat) (hi : i < 7) (h : (tbl 9).getD i .i = .i) => rd_int (hr.rd k i hkn hi) (by have t := hk.wt k i hkn hi; rw [h] at t; exact t)
  have T := fun (i : Nat) (hi : i < 7) (h : (tbl 9).getD i .i = .s) => rd_str (hr.rd k i hkn hi) (by have t := hk.wt k i hkn hi; rw [h] at t; exact t)
  match j, hj2 with
  | 0, _ => obtain ⟨z, q, e, _⟩ := I 0 (by decide) rfl; show C k 0 = .int .i64 (intOf (lfv (c k 0))); rw [q, e]; rfl
  | 1, _ => obtain ⟨z, q, e, _⟩ := I 1 (by decide) rfl; show C k 1 = .int .i64 (intOf (lfv (c k 1))); rw [q, e]; rfl
  | 2, _ => obtain ⟨z, q, e, _⟩ := I 2 (by decide) rfl; show C k 2 = .int .i64 (intOf (lfv (c k 2))); rw [q, e]; rfl
  | 3, _ => obtain ⟨z, q, e, _⟩ := I 3 (by decide) rfl; show C k 3 = .int .i64 (intOf (lfv (c k 3))); rw [q, e]; rfl
  | 4, _ => obtain ⟨z, q, e, _⟩ := T 4 (by decide) rfl; show C k 4 = .string (strOf (lfv (c k 4))); rw [q, e]; rfl
  | 5, _ => obtain ⟨z, q, e, _⟩ := T 5 (by decide) rfl; show C k 5 = .string (strOf (lfv (c k 5))); rw [q, e]; rfl
  | 6, _ => obtain ⟨z, q, e, _⟩ := T 6 (by decide) rfl; show C k 6 = .string (strOf (lfv (c k 6))); rw [q, e]; rfl
theorem leg_of {S : Nat → Prop} {w : World} {A : Option Addr} {n : Nat} {c : Nat → Nat → Tr} {C : Nat → Nat → Value} (hr : RowT S w 10 A n c C) (hk : RowK 10 n c) : RowLeg w A n (fun k => legOf (fun j => lfv (c k j))) :=
 (hr.row.toS (by decide)).congr fun k j hkn hj => by
  have hj2 : j < 3 := hj
  match j, hj2 with
  | 0, _ => obtain ⟨z, q, e, _⟩ := rd_int (hr.rd k 0 hkn (by decide)) (hk.wt k 0 hkn (by decide)); show C k 0 = .int .i64 (intOf (lfv (c k 0))); rw [q, e]; rfl
  | 1, _ => obtain ⟨z, q, e, _⟩ := rd_int (hr.rd k 1 hkn (by decide)) (hk.wt k 1 hkn (by decide)); show C k 1 = .int .i64 (intOf (lfv (c k 1))); rw [q, e]; rfl
  | 2, _ => obtain ⟨z, q, e, _⟩ := rd_str (hr.rd k 2 hkn (by decide)) (hk.wt k 2 hkn (by decide)); show C k 2 = .string (strOf (lfv (c k 2))); rw [q, e]; rfl
def u64Of : Value → Int
 | .int _ z => z
 | _ => 0
/-- Entries. -/
def entO (c : Nat → Nat → Tr) (C : Nat → Nat → Value) (k : Nat) : LEnt :=
 ⟨intOf (C k 0), intOf (C k 1), intOf (C k 2), intOf (C k 3), intOf (C k 4), intOf (C k 5), strOf (C k 6), strOf (C k 7), addrOf (C k 8), (c k 8).n, capOf (C k 8), u64Of (C k 9), lgK (c k 8)⟩
theorem ent_of {S : Nat → Prop} {w : World} {A : Option Addr} {n : Nat} {c : Nat → Nat → Tr} {C : Nat → Nat → Value} (hr : RowT S w 11 A n c C) (hk : RowK 11 n c) : RowEnt w A n (entO c C) := by
 refine ⟨(hr.row.toS (by decide)).congr fun k j hkn hj => ?_, fun k hkn => ?_⟩
 ·have hj2 : j < 10 := hj
  match j, hj2 with
  | 0, _ => obtain ⟨z, q, e, _⟩ := rd_int (hr.rd k 0 hkn (by decide)) (hk.wt k 0 hkn (by decide)); show C k 0 = .int .i64 (intOf (C k 0)); rw [e]; rfl
  | 1, _ => obtain ⟨z, q, e, _⟩ := rd_int (hr.rd k 1 hkn (by decide)) (hk.wt k 1 hkn (by decide)); show C k 1 = .int .i64 (intOf (C k 1)); rw [e]; rfl
  | 2, _ => obtain ⟨z, q, e, _⟩ := rd_int (hr.rd k 2 hkn (by decide)) (hk.wt k 2 hkn (by decide)); show C k 2 = .int .i64 (intOf (C k 2)); rw [e]; rfl
  | 3, _ => obtain ⟨z, q, e, _⟩ := rd_int (hr.rd k 3 hkn (by decide)) (hk.wt k 3 hkn (by decide)); show C k 3 = .int .i64 (intOf (C k 3)); rw [e]; rfl
  | 4, _ => obtain ⟨z, q, e, _⟩ := rd_int (hr.rd k 4 hkn (by decide)) (hk.wt k 4 hkn (by decide)); show C k 4 = .int .i64 (intOf (C k 4)); rw [e]; rfl
  | 5, _ => obtain ⟨z, q, e, _⟩ := rd_int (hr.rd k 5 hkn (by decide)) (hk.wt k 5 hkn (by decide)); show C k 5 = .int .i64 (intOf (C k 5)); rw [e]; rfl
  | 6, _ => obtain ⟨z, q, e, _⟩ := rd_str (hr.rd k 6 hkn (by decide)) (hk.wt k 6 hkn (by decide)); show C k 6 = .string (strOf (C k 6)); rw [e]; rfl
  | 7, _ => obtain ⟨z, q, e, _⟩ := rd_str (hr.rd k 7 hkn (by decide)) (hk.wt k 7 hkn (by decide)); show C k 7 = .string (strOf (C k 7)); rw [e]; rfl
  | 8, _ => obtain ⟨m, c2, q, _, A2, cap, C2, e, _⟩ := rd_row (e := 10) (hr.rd k 8 hkn (by decide)) (hk.wt k 8 hkn (by decide)); show C k 8 = .slice (addrOf (C k 8)) (c k 8).n (capOf (C k 8)); rw [q, e]; rfl
  | 9, _ => obtain ⟨z, q, e, _⟩ := rd_u64 (hr.rd k 9 hkn (by decide)) (hk.wt k 9 hkn (by decide)); show C k 9 = .int .u64 (u64Of (C k 9)); rw [e]; rfl
 ·obtain ⟨m, c2, q, hk2, A2, cap, C2, e, _, hr2⟩ := rd_row (e := 10) (hr.rd k 8 hkn (by decide)) (hk.wt k 8 hkn (by decide))
  show RowLeg w (addrOf (C k 8)) (c k 8).n (lgK (c k 8))
  rw [q, e]
  exact leg_of hr2 hk2
/-- The interest in cells o .. o + 4 of a version. -/
def intK (c : Nat → Tr) (C : Nat → Value) (o : Nat) : LInt :=
 ⟨addrOf (C o), (c o).n, capOf (C o), boolOf (C (o + 1)), intOf (C (o + 2)), intOf (C (o + 3)), boolOf (C (o + 4)), fun i => intOf (lfv ((c o).c i 0)), fun i => intOf (lfv ((c o).c i 1))⟩
def proK (c : Nat → Nat → Tr) (C : Nat → Nat → Value) (k : Nat) : LPro := ⟨elA 8 C k, strOf (C k 0), intOf (C k 3), intK (c k) (C k) 7, intK (c k) (C k) 12⟩
theorem tier_of {S : Nat → Prop} {w : World} {A : Option Addr} {n : Nat} {c : Nat → Nat → Tr} {C : Nat → Nat → Value} (hr : RowT S w 4 A n c C) (hk : RowK 4 n c) : Row2 w A n (fun i => intOf (lfv (c i 0))) (fun i => intOf (lfv (c i 1))) ∧ IB n (fun i => intOf (lfv (c i 0))) (fun i => intOf (lfv (c i 1))) := by
 constructor
 ·intro hn
  obtain ⟨b, off, e, hlt, hc⟩ := (hr.row.toS (by decide)) hn
  refine ⟨b, off, e, hlt, fun k hkn => ?_⟩
  obtain ⟨z0, q0, e0, _⟩ := rd_int (hr.rd k 0 hkn (by decide)) (hk.wt k 0 hkn (by decide))
  obtain ⟨z1, q1, e1, _⟩ := rd_int (hr.rd k 1 hkn (by decide)) (hk.wt k 1 hkn (by decide))
  have h0 := hc k 0 hkn (by decide)
  have h1 := hc k 1 hkn (by decide)
  rw [e0] at h0
  rw [e1] at h1
  simp only [q0, q1]
  exact ⟨h0, h1⟩
 ·intro k hkn
  obtain ⟨z0, q0, e0, i0⟩ := rd_int (hr.rd k 0 hkn (by decide)) (hk.wt k 0 hkn (by decide))
  obtain ⟨z1, q1, e1, i1⟩ := rd_int (hr.rd k 1 hkn (by decide)) (hk.wt k 1 hkn (by decide))
  simp only [q0, q1]
  exact ⟨i0, i1⟩
/-- Books of the sizes that the walks take. -/
structure Sml (ck : Nat → Tr) : Prop where
 an : (ck 18).n ≤ 1000000
 pn : (ck 17).n ≤ 1000000
 jn : (ck 19).n ≤ 1000000
 lg : ∀ k, k < (ck 19).n → ((ck 19).c k 8).n ≤ 1000000
 cr : ∀ k, k < (ck 17).n → ((ck 17).c k 7).n ≤ 1000000
 db : ∀ k, k < (ck 17).n → ((ck 17).c k 12).n ≤ 1000000
theorem pro_of {w : World} {A : Option Addr} {n : Nat} {c : Nat → Nat → Tr} {C : Nat → Nat → Value} (hr : RowT (Old w) w 8 A n c C) (hk : RowK 8 n c) {k : Nat} (hkn : k < n) (s1 : (c k 7).n ≤ 1000000) (s2 : (c k 12).n ≤ 1000000) :
  PrC (elA 8 C k) (proK c C k) ∧ (Row2 w (proK c C k).cr.tA (proK c C k).cr.tn (proK c C k).cr.f (proK c C k).cr.g ∧ InI (proK c C k).cr) ∧ (Row2 w (proK c C k).db.tA (proK c C k).db.tn (proK c C k).db.f (proK c C k).db.g ∧ InI (proK c C k).db) := by
 obtain ⟨z0, q0, e0, _⟩ := rd_str (hr.rd k 0 hkn (by decide)) (hk.wt k 0 hkn (by decide))
 obtain ⟨z3, q3, e3, _⟩ := rd_int (hr.rd k 3 hkn (by decide)) (hk.wt k 3 hkn (by decide))
 obtain ⟨n7, c7, q7, hk7, A7, p7, C7, e7, _, hr7⟩ := rd_row (e := 4) (hr.rd k 7 hkn (by decide)) (hk.wt k 7 hkn (by decide))
 obtain ⟨z8, q8, e8⟩ := rd_bool (hr.rd k 8 hkn (by decide)) (hk.wt k 8 hkn (by decide))
 obtain ⟨z9, q9, e9, i9⟩ := rd_int (hr.rd k 9 hkn (by decide)) (hk.wt k 9 hkn (by decide))
 obtain ⟨z10, q10, e10, _⟩ := rd_int (hr.rd k 10 hkn (by decide)) (hk.wt k 10 hkn (by decide))
 obtain ⟨z11, q11, e11⟩ := rd_bool (hr.rd k 11 hkn (by decide)) (hk.wt k 11 hkn (by decide))
 obtain ⟨n12, c12, q12, hk12, A12, p12, C12, e12, _, hr12⟩ := rd_row (e := 4) (hr.rd k 12 hkn (by decide)) (hk.wt k 12 hkn (by decide))
 obtain ⟨z13, q13, e13⟩ := rd_bool (hr.rd k 13 hkn (by decide)) (hk.wt k 13 hkn (by decide))
 obtain ⟨z14, q14, e14, i14⟩ := rd_int (hr.rd k 14 hkn (by decide)) (hk.wt k 14 hkn (by decide))
 obtain ⟨z15, q15, e15, _⟩ := rd_int (hr.rd k 15 hkn (by decide)) (hk.wt k 15 hkn (by decide))
 obtain ⟨z16, q16, e16⟩ := rd_bool (hr.rd k 16 hkn (by decide)) (hk.wt k 16 hkn (by decide))
 have at8 := fun (j : Nat) (hj : j < 19) => elA_at 8 C k j hj
 refine ⟨⟨elA_size 8 C k, (hr.el hk hkn).ones, ?_, ?_, ?_, ?_, ?_, ?_, ?_, ?_, ?_, ?_, ?_, ?_⟩, ?_, ?_⟩
 ·rw [at8 0 (by decide)]; show some (C k 0) = some (Value.string (strOf (C k 0))); rw [e0]; rfl
 ·rw [at8 3 (by decide)]; show some (C k 3) = some (Value.int .i64 (intOf (C k 3))); rw [e3]; rfl
 ·rw [at8 7 (by decide)]; show some (C k 7) = some (Value.slice (addrOf (C k 7)) (c k 7).n (capOf (C k 7))); rw [e7, q7]; rfl
 ·rw [at8 8 (by decide)]; show some (C k 8) = some (Value.bool (boolOf (C k 8))); rw [e8]; rfl
 ·rw [at8 9 (by decide)]; show some (C k 9) = some (Value.int .i64 (intOf (C k 9))); rw [e9]; rfl
 ·rw [at8 10 (by decide)]; show some (C k 10) = some (Value.int .i64 (intOf (C k 10))); rw [e10]; rfl
 ·rw [at8 11 (by decide)]; show some (C k 11) = some (Value.bool (boolOf (C k 11))); rw [e11]; rfl
 ·rw [at8 12 (by decide)]; show some (C k 12) = some (Value.slice (addrOf (C k 12)) (c k 12).n (capOf (C k 12))); rw [e12, q12]; rfl
 ·rw [at8 13 (by decide)]; show some (C k 13) = some (Value.bool (boolOf (C k 13))); rw [e13]; rfl
 ·rw [at8 14 (by decide)]; show some (C k 14) = some (Value.int .i64 (intOf (C k 14))); rw [e14]; rfl
 ·rw [at8 15 (by decide)]; show some (C k 15) = some (Value.int .i64 (intOf (C k 15))); rw [e15]; rfl
 ·rw [at8 16 (by decide)]; show some (C k 16) = some (Value.bool (boolOf (C k 16))); rw [e16]; rfl
 ·have t := tier_of hr7 hk7
  rw [q7] at s1
  refine ⟨?_, ⟨?_, ?_, ?_⟩⟩
  ·show Row2 w (addrOf (C k 7)) (c k 7).n (fun i => intOf (lfv ((c k 7).c i 0))) (fun i => intOf (lfv ((c k 7).c i 1)))
   rw [e7, q7]; exact t.1
  ·show (c k 7).n ≤ 1000000
   rw [q7]; exact s1
  ·show IB (c k 7).n (fun i => intOf (lfv ((c k 7).c i 0))) (fun i => intOf (lfv ((c k 7).c i 1)))
   rw [q7]; exact t.2
  ·show IIn (intOf (C k 9))
   rw [e9]; exact i9
 ·have t := tier_of hr12 hk12
  rw [q12] at s2
  refine ⟨?_, ⟨?_, ?_, ?_⟩⟩
  ·show Row2 w (addrOf (C k 12)) (c k 12).n (fun i => intOf (lfv ((c k 12).c i 0))) (fun i => intOf (lfv ((c k 12).c i 1)))
   rw [e12, q12]; exact t.1
  ·show (c k 12).n ≤ 1000000
   rw [q12]; exact s2
  ·show IB (c k 12).n (fun i => intOf (lfv ((c k 12).c i 0))) (fun i => intOf (lfv ((c k 12).c i 1)))
   rw [q12]; exact t.2
  ·show IIn (intOf (C k 14))
   rw [e14]; exact i14
theorem bk_of {ck : Nat → Tr} (hw : KnOK 15 ck) (hs : Sml ck) {w : World} {X : Array Value} (hX : ElT (Old w) w 15 ck X) : ∃ B : LBk, B.C = X ∧ BkOK B ∧ BkIn w B := by
 have hXs : X.size = 22 := hX.size
 obtain ⟨n17, c17, q17, hk17, A17, cap17, C17, e17, _, hr17⟩ := rd_row (e := 8) (hX.rd 17 (by decide)) (hw 17 (by decide))
 obtain ⟨n18, c18, q18, hk18, A18, cap18, C18, e18, _, hr18⟩ := rd_row (e := 9) (hX.rd 18 (by decide)) (hw 18 (by decide))
 obtain ⟨n19, c19, q19, hk19, A19, cap19, C19, e19, _, hr19⟩ := rd_row (e := 11) (hX.rd 19 (by decide)) (hw 19 (by decide))
 have g17 := at_eq hXs (by decide) e17
 have g18 := at_eq hXs (by decide) e18
 have g19 := at_eq hXs (by decide) e19
 have s17 := hs.pn
 have s18 := hs.an
 have s19 := hs.jn
 have sl := hs.lg
 have sc := hs.cr
 have sd := hs.db
 rw [q17] at s17 sc sd
 rw [q18] at s18
 rw [q19] at s19 sl
 have hp := fun k (hk : k < n17) => pro_of hr17 hk17 hk (sc k hk) (sd k hk)
 refine ⟨⟨X, A18, n18, cap18, fun k => accOf (fun j => lfv (c18 k j)), A19, n19, cap19, entO c19 C19, A17, n17, cap17, proK c17 C17⟩, rfl, ⟨⟨hXs, g18, g19⟩, g17, s18, s19, s17, hX.ones, fun k hk => (hp k hk).1, fun k hk => (hp k hk).2.1.2, fun k hk => (hp k hk).2.2.2⟩, ⟨acc_of hr18 hk18, ⟨ent_of hr19 hk19, fun k hk => sl k hk⟩, ⟨fun hn => ?_, fun k hk => (hp k hk).2.1.1, fun k hk => (hp k hk).2.2.1⟩⟩⟩
 obtain ⟨b, off, e, hlt, hc⟩ := hr17.cells (by decide) hn
 refine ⟨b, off, e, hlt, fun k j v hk hv => ?_⟩
 obtain ⟨b2, o2, e2, _, hc2⟩ := hr17.cells (by decide) hk
 rw [e] at e2
 injection e2 with e2
 injection e2 with e1 e2 _
 subst e1 e2
 exact hc2 j v hv
end Go.Proofs.YtpghciiifnjimaaGreatDoor
namespace Go.Proofs.YtpghciiifnjimaaGreatDoor
set_option maxRecDepth 4000
set_option linter.unusedSimpArgs false
set_option linter.unusedVariables false
open Go.RowKit
section
variable {P : Program}
theorem run_alloc_row (w : World) (t : TypeId) (i : TypeInfo) (hi : P.info? t = some i) (z : Array Value) (hz : i.zero = some (.agg z)) :
  (Instr.alloc t true (.tuple #[])).run P w = .ok (.pointer (some ⟨w.heap.size, 0, none⟩)) (w.alloc (.cells z t)) := by
 simp [Instr.alloc, zeroValue, typeInfo, hi, hz, newVar, newRow, Value.cells]
theorem wpList_alloc_row {ops : Array Oper} {rest : List Oper} {o : Oper} {a : Act} {w : World} {Q : Exit → Act → World → Prop} (hg : o.guard = none) (t : TypeId) (ho : o.op = .alloc t) (d : Option Tmp) (hd : o.dst = d)
  (i : TypeInfo) (hi : P.info? t = some i) (z : Array Value) (hz : i.zero = some (.agg z)) (N : Nat) (hN : N = w.heap.size)
  (h : wpList P ops Q rest (a.put d (.pointer (some ⟨N, 0, none⟩))) (w.alloc (.cells z t))) : wpList P ops Q (o :: rest) a w := by
 subst hd hN
 refine wpList_plain hg fun K hK => ?_
 unfold Oper.wp execOp
 simp only [ho, Sem.run_bind, run_alloc_row w t i hi z hz, Result.andThen_ok]
 exact hK _ _ h
theorem wpList_store_newrow2 {ops : Array Oper} {rest : List Oper} {o : Oper} {a : Act} {w : World} {Q : Exit → Act → World → Prop} (hgd : o.guard = none) (ty : TypeId) (x y : Operand) (ho : o.op = .store ty x y)
  (hd : o.dst = none) (g : Nat) (cells : Array Value) (hx : a.eval x = .pointer (some ⟨g, 0, none⟩)) (hy : a.eval y = .agg cells)
  (t : TypeId) (old : Array Value) (hg : w.heap[g]? = some (.cells old t (0, 0))) (hi : (P.info? ty).map (·.size) = some cells.size)
  (hold : old.size = cells.size) (h1 : cells.all (·.oneCell') = true)
  (h : ∀ w', Below g w w' → w'.heap.size = w.heap.size → w'.heap[g]? = some (.cells cells t (0, 0)) → (∀ k, k ≠ g → w'.heap[k]? = w.heap[k]?) → wpList P ops Q rest a w') : wpList P ops Q (o :: rest) a w :=
 Go.wpList_store_rowTo hgd ty x y ho hd g cells hx hy t old hg hi hold h1 (h _ (below_setRow (Below.refl _ _) (Nat.le_refl _) _) (by simp) (setRow_heap w g old cells t _ hg) (fun k hk => setRow_other w g k cells hk))
end
theorem info_agg {p : Option TypeInfo} {z : Array Value} (h : p.bind (·.zero) = some (.agg z)) : ∃ i, p = some i ∧ i.zero = some (.agg z) := by
 cases p with
 | none => cases h
 | some i => exact ⟨i, rfl, h⟩
theorem blk_new {w : World} {o : Obj} {k : Nat} (h : k = w.heap.size) : (w.alloc o).heap[k]? = some o := by subst h; exact Go.Deep.blk_alloc_new _ _
theorem blk_under {w : World} {o x : Obj} {k : Nat} (h : w.heap[k]? = some x) : (w.alloc o).heap[k]? = some x := by
 rw [Go.Deep.blk_alloc_lt _ _ _ (Array.getElem?_eq_some_iff.1 h).1]; exact h
theorem blk_setRow {w : World} {x : Obj} {g k : Nat} {cs : Array Value} (hn : k ≠ g) (h : w.heap[k]? = some x) : (w.setRow g cs).heap[k]? = some x := (setRow_other w g k cs hn).trans h
/-- A block known whole, one cell of which is written. -/
theorem blk_setCell {w : World} {g i : Nat} {C : Array Value} {t : TypeId} {fr : Nat × Nat} {v : Value} (h : w.heap[g]? = some (.cells C t fr)) : (w.setCell ⟨g, i, none⟩ v).heap[g]? = some (.cells (C.setIfInBounds i v) t fr) := by
 rw [setCell_eq_setRow w g i C t fr v h]
 exact setRow_heap w g C _ t fr h
theorem blk_setOther {w : World} {p : Addr} {v : Value} {k : Nat} {x : Obj} (hn : k ≠ p.block) (h : w.heap[k]? = some x) : (w.setCell p v).heap[k]? = some x := by
 rw [Go.Deep.blk_setCell_other _ _ _ _ hn]; exact h
theorem blk_below {w w' : World} {B k : Nat} {x : Obj} (hb : Below B w w') (hk : k < B) (h : w.heap[k]? = some x) : w'.heap[k]? = some x := (hb.block k hk).trans h
theorem free_of_cells {w : World} {g : Nat} {C : Array Value} {t : TypeId} (h : w.heap[g]? = some (.cells C t (0, 0))) (o : Nat) : w.frozen? ⟨g, o, none⟩ = false := by
 simp [World.frozen?, h]
theorem blk_drew {w : World} {x : Obj} {k : Nat} (h : w.heap[k]? = some x) : w.drew.heap[k]? = some x := h
/-- A block known whole is a row. -/
theorem rowS_of {w : World} {b : Nat} {cs : Array Value} {t : TypeId} {fz : Nat × Nat} {n size : Nat} {C : Nat → Nat → Value} (hb : w.heap[b]? = some (.cells cs t fz)) (h : ∀ k j, k < n → j < size → cs[k * size + j]? = some (C k j)) : RowS w (some ⟨b, 0, none⟩) n size C := fun _ =>
 ⟨b, 0, rfl, heap_lt hb, fun k j hk hj => by rw [cell_of_cells hb, Nat.zero_add]; exact h k j hk hj⟩
end Go.Proofs.YtpghciiifnjimaaGreatDoor
namespace Go.Proofs.YtpghciiifnjimaaGreatDoor
set_option maxRecDepth 4000
set_option linter.unusedSimpArgs false
set_option linter.unusedVariables false
open Go.RowKit
theorem results_row_tmp {P : Program} {fn : Func} {p q : Tmp} {ty : TypeId} (h : fn.results = #[.cell p ty, .tmp q]) (tmps : Array Value) (w : World) (g : Nat) (t : TypeId) (cs : Array Value) (fr : Nat × Nat) (d : TypeDesc)
  (hp : tmps.getD p undef = .pointer (some ⟨g, 0, none⟩)) (hg : w.heap[g]? = some (.cells cs t fr)) (v : Value) (hq : tmps.getD q undef = v)
  (hu : P.underlying ty = some d) (hd : (match d with | .struct _ | .array _ _ => true | _ => false) = true) (hi : (P.info? ty).map (·.size) = some cs.size) :
  (results fn tmps).run P w = .ok (.tuple #[.agg cs, v]) w := by
 have hp' : tmps[p]?.getD undef = .pointer (some ⟨g, 0, none⟩) := by simpa using hp
 have hq' : tmps[q]?.getD undef = v := by simpa using hq
 simp [results, h, hp', hq', asAddr, run_loadVar_row w g t ty cs fr d hg hu hd hi]
theorem wpList_load_midA {P : Program} {ops : Array Oper} {rest : List Oper} {op : Oper} {a : Act} {w : World} {Q : Exit → Act → World → Prop} (hgd : op.guard = none) (ty : TypeId) (x : Operand) (ho : op.op = .load ty x)
  (b o : Nat) (hx : a.eval x = .pointer (some ⟨b, o, none⟩)) (C : Array Value) (d : TypeDesc) (hc : ∀ j v, C[j]? = some v → w.cell? ⟨b, o + j, none⟩ = some v)
  (hu : P.underlying ty = some d) (hd : d.isRow = true) (hi : (P.info? ty).map (·.size) = some C.size)
  (h : wpList P ops Q rest (a.put op.dst (.agg C)) w) : wpList P ops Q (op :: rest) a w :=
 Go.wpList_load_mid hgd ty x ho b o hx C.toList d (fun j v hv => hc j v (by simpa using hv)) hu hd (by simpa using hi) (by simpa using h)
end Go.Proofs.YtpghciiifnjimaaGreatDoor
