/- Texts laid together: AgW AgX AgY AgZ. -/
import Derived.Test.YtdjhkhadjmndoaaDoorQAgU
import Derived.Test.YtdjhkhadjmndoaaDoorQAgH
import Derived.Test.YtdjhkhadjmndoaaDoorQAgD
namespace Go.Proofs.YtdjhkhadjmndoaaDoor
set_option maxRecDepth 4000
set_option linter.unusedSimpArgs false
set_option linter.unusedVariables false
open Go.RowKit
/-- The accounts, versions, entries and holds of a tree. -/
def acK (ck : Nat → Tr) (k : Nat) : LAcc := accOf (fun j => lfv ((ck 18).c k j))
def prK (ck : Nat → Tr) (k : Nat) : LPro := ⟨#[], strOf (lfv ((ck 17).c k 0)), intOf (lfv ((ck 17).c k 3))⟩
def lgK (T : Tr) (i : Nat) : LLeg := legOf (fun j => lfv (T.c i j))
def enK (ck : Nat → Tr) (k : Nat) : LEnt := ⟨0, 0, 0, 0, 0, 0, ⟨#[]⟩, ⟨#[]⟩, none, ((ck 19).c k 8).n, 0, 0, lgK ((ck 19).c k 8)⟩
def hlK (ck : Nat → Tr) (k : Nat) : LHl := ⟨intOf (lfv ((ck 20).c k 0)), intOf (lfv ((ck 20).c k 1)), intOf (lfv ((ck 20).c k 2)), intOf (lfv ((ck 20).c k 3)), intOf (lfv ((ck 20).c k 4)), strOf (lfv ((ck 20).c k 5))⟩
theorem acc_of {S : Nat → Prop} {w : World} {A : Option Addr} {n : Nat} {c : Nat → Nat → Tr} {C : Nat → Nat → Value} (hr : RowT S w 9 A n c C) (hk : RowK 9 n c) : RowAcc w A n (fun k => accOf (fun j => lfv (c k j))) :=
  (hr.row.toS (by decide)).congr fun k j hkn hj => by
    have hj2 : j < 7 := hj
    have I := fun (i : Nat) (hi : i < 7) (h : (tbl 9).getD i .i = .i) => rd_int (hr.rd k i hkn hi) (by have t := hk.wt k i hkn hi; rw [h] at t; exact t)
    have T := fun (i : Nat) (hi : i < 7) (h : (tbl 9).getD i .i = .s) => rd_str (hr.rd k i hkn hi) (by have t := hk.wt k i hkn hi; rw [h] at t; exact t)
    match j, hj2 with
    | 0, _ => obtain ⟨z, q, e, _⟩ := I 0 (by decide) rfl; show C k 0 = .int .i64 (intOf (lfv (c k 0))); rw [q, e]; rfl
    | 1, _ => obtain ⟨z, q, e, _⟩ := I 1 (by decide) rfl; show C k 1 = .int .i64 (intOf (lfv (c k 1))); rw [q, e]; rfl
    | 2, _ => obtain ⟨z, q, e, _⟩ := I 2 (by decide) rfl; show C k 2 = .int .i64 (intOf (lfv (c k 2))); rw [q, e]; rfl
    | 3, _ => obtain ⟨z, q, e, _⟩ := I 3 (by decide) rfl; show C k 3 = .int .i64 (intOf (lfv (c k 3))); rw [q, e]; rfl
    | 4, _ => obtain ⟨z, q, e, _⟩ := T 4 (by decide) rfl; show C k 4 = .string (strOf (lfv (c k 4))); rw [q, e]; rfl
    | 5, _ => obtain ⟨z, q, e, _⟩ := T 5 (by decide) rfl; show C k 5 = .string (strOf (lfv (c k 5))); rw [q, e]; rfl
    | 6, _ => obtain ⟨z, q, e, _⟩ := T 6 (by decide) rfl; show C k 6 = .string (strOf (lfv (c k 6))); rw [q, e]; rfl
theorem leg_of {S : Nat → Prop} {w : World} {A : Option Addr} {n : Nat} {c : Nat → Nat → Tr} {C : Nat → Nat → Value} (hr : RowT S w 10 A n c C) (hk : RowK 10 n c) : RowLeg w A n (fun k => legOf (fun j => lfv (c k j))) :=
  (hr.row.toS (by decide)).congr fun k j hkn hj => by
    have hj2 : j < 3 := hj
    match j, hj2 with
    | 0, _ => obtain ⟨z, q, e, _⟩ := rd_int (hr.rd k 0 hkn (by decide)) (hk.wt k 0 hkn (by decide)); show C k 0 = .int .i64 (intOf (lfv (c k 0))); rw [q, e]; rfl
    | 1, _ => obtain ⟨z, q, e, _⟩ := rd_int (hr.rd k 1 hkn (by decide)) (hk.wt k 1 hkn (by decide)); show C k 1 = .int .i64 (intOf (lfv (c k 1))); rw [q, e]; rfl
    | 2, _ => obtain ⟨z, q, e, _⟩ := rd_str (hr.rd k 2 hkn (by decide)) (hk.wt k 2 hkn (by decide)); show C k 2 = .string (strOf (lfv (c k 2))); rw [q, e]; rfl
theorem hld_of {S : Nat → Prop} {w : World} {A : Option Addr} {n : Nat} {c : Nat → Nat → Tr} {C : Nat → Nat → Value} (hr : RowT S w 12 A n c C) (hk : RowK 12 n c) : RowHld w A n (fun k => ⟨intOf (lfv (c k 0)), intOf (lfv (c k 1)), intOf (lfv (c k 2)), intOf (lfv (c k 3)), intOf (lfv (c k 4)), strOf (lfv (c k 5))⟩) :=
  (hr.row.toS (by decide)).congr fun k j hkn hj => by
    have hj2 : j < 6 := hj
    match j, hj2 with
    | 0, _ => obtain ⟨z, q, e, _⟩ := rd_int (hr.rd k 0 hkn (by decide)) (hk.wt k 0 hkn (by decide)); show C k 0 = .int .i64 (intOf (lfv (c k 0))); rw [q, e]; rfl
    | 1, _ => obtain ⟨z, q, e, _⟩ := rd_int (hr.rd k 1 hkn (by decide)) (hk.wt k 1 hkn (by decide)); show C k 1 = .int .i64 (intOf (lfv (c k 1))); rw [q, e]; rfl
    | 2, _ => obtain ⟨z, q, e, _⟩ := rd_int (hr.rd k 2 hkn (by decide)) (hk.wt k 2 hkn (by decide)); show C k 2 = .int .i64 (intOf (lfv (c k 2))); rw [q, e]; rfl
    | 3, _ => obtain ⟨z, q, e, _⟩ := rd_int (hr.rd k 3 hkn (by decide)) (hk.wt k 3 hkn (by decide)); show C k 3 = .int .i64 (intOf (lfv (c k 3))); rw [q, e]; rfl
    | 4, _ => obtain ⟨z, q, e, _⟩ := rd_int (hr.rd k 4 hkn (by decide)) (hk.wt k 4 hkn (by decide)); show C k 4 = .int .i64 (intOf (lfv (c k 4))); rw [q, e]; rfl
    | 5, _ => obtain ⟨z, q, e, _⟩ := rd_str (hr.rd k 5 hkn (by decide)) (hk.wt k 5 hkn (by decide)); show C k 5 = .string (strOf (lfv (c k 5))); rw [q, e]; rfl
def u64Of : Value → Int
  | .int _ z => z
  | _ => 0
/-- Entries. -/
def entO (c : Nat → Nat → Tr) (C : Nat → Nat → Value) (k : Nat) : LEnt :=
  ⟨intOf (C k 0), intOf (C k 1), intOf (C k 2), intOf (C k 3), intOf (C k 4), intOf (C k 5), strOf (C k 6), strOf (C k 7), addrOf (C k 8), (c k 8).n, capOf (C k 8), u64Of (C k 9), lgK (c k 8)⟩
theorem ent_of {S : Nat → Prop} {w : World} {A : Option Addr} {n : Nat} {c : Nat → Nat → Tr} {C : Nat → Nat → Value} (hr : RowT S w 11 A n c C) (hk : RowK 11 n c) : RowEnt w A n (entO c C) := by
  refine ⟨(hr.row.toS (by decide)).congr fun k j hkn hj => ?_, fun k hkn => ?_⟩
  · have hj2 : j < 10 := hj
    match j, hj2 with
    | 0, _ => obtain ⟨z, q, e, _⟩ := rd_int (hr.rd k 0 hkn (by decide)) (hk.wt k 0 hkn (by decide)); show C k 0 = .int .i64 (intOf (C k 0)); rw [e]; rfl
    | 1, _ => obtain ⟨z, q, e, _⟩ := rd_int (hr.rd k 1 hkn (by decide)) (hk.wt k 1 hkn (by decide)); show C k 1 = .int .i64 (intOf (C k 1)); rw [e]; rfl
    | 2, _ => obtain ⟨z, q, e, _⟩ := rd_int (hr.rd k 2 hkn (by decide)) (hk.wt k 2 hkn (by decide)); show C k 2 = .int .i64 (intOf (C k 2)); rw [e]; rfl
    | 3, _ => obtain ⟨z, q, e, _⟩ := rd_int (hr.rd k 3 hkn (by decide)) (hk.wt k 3 hkn (by decide)); show C k 3 = .int .i64 (intOf (C k 3)); rw [e]; rfl
    | 4, _ => obtain ⟨z, q, e, _⟩ := rd_int (hr.rd k 4 hkn (by decide)) (hk.wt k 4 hkn (by decide)); show C k 4 = .int .i64 (intOf (C k 4)); rw [e]; rfl
    | 5, _ => obtain ⟨z, q, e, _⟩ := rd_int (hr.rd k 5 hkn (by decide)) (hk.wt k 5 hkn (by decide)); show C k 5 = .int .i64 (intOf (C k 5)); rw [e]; rfl
    | 6, _ => obtain ⟨z, q, e, _⟩ := rd_str (hr.rd k 6 hkn (by decide)) (hk.wt k 6 hkn (by decide)); show C k 6 = .string (strOf (C k 6)); rw [e]; rfl
    | 7, _ => obtain ⟨z, q, e, _⟩ := rd_str (hr.rd k 7 hkn (by decide)) (hk.wt k 7 hkn (by decide)); show C k 7 = .string (strOf (C k 7)); rw [e]; rfl
    | 8, _ => obtain ⟨m, c2, q, _, A2, cap, C2, e, _⟩ := rd_row (e := 10) (hr.rd k 8 hkn (by decide)) (hk.wt k 8 hkn (by decide)); show C k 8 = .slice (addrOf (C k 8)) (c k 8).n (capOf (C k 8)); rw [q, e]; rfl
    | 9, _ => obtain ⟨z, q, e, _⟩ := rd_u64 (hr.rd k 9 hkn (by decide)) (hk.wt k 9 hkn (by decide)); show C k 9 = .int .u64 (u64Of (C k 9)); rw [e]; rfl
  · obtain ⟨m, c2, q, hk2, A2, cap, C2, e, _, hr2⟩ := rd_row (e := 10) (hr.rd k 8 hkn (by decide)) (hk.wt k 8 hkn (by decide))
    show RowLeg w (addrOf (C k 8)) (c k 8).n (lgK (c k 8))
    rw [q, e]
    exact leg_of hr2 hk2
/-- Books of the sizes that the walks take. -/
structure Sml (ck : Nat → Tr) : Prop where
  an : (ck 18).n ≤ 1000000
  pn : (ck 17).n ≤ 1000000
  jn : (ck 19).n ≤ 1000000
  hn : (ck 20).n ≤ 1000000
  lg : ∀ k, k < (ck 19).n → ((ck 19).c k 8).n ≤ 1000000
/-- Books that read as a tree, as the walks read them. -/
structure BkT (ck : Nat → Tr) (w : World) (B : LBk) : Prop where
  ok : BkOK B
  inn : BkIn w B
  an : B.an = (ck 18).n
  a : B.a = acK ck
  pn : B.pn = (ck 17).n
  P : ∀ k, (B.P k).nm = (prK ck k).nm ∧ (B.P k).fr = (prK ck k).fr
  PT : ∀ k, k < B.pn → ElT (Old w) w 8 ((ck 17).c k) (B.P k).C
  jn : B.jn = (ck 19).n
  jr : ∃ E, Jrn w B.jA B.jn E ∧ ∀ k, (E k).ln = (enK ck k).ln ∧ (E k).legs = (enK ck k).legs
  ho : ∃ hA hc, B.C[20]? = some (.slice hA (ck 20).n hc) ∧ RowHld w hA (ck 20).n (hlK ck)
theorem bk_of {ck : Nat → Tr} (hw : KnOK 15 ck) (hs : Sml ck) {w : World} {X : Array Value} (hX : ElT (Old w) w 15 ck X) : ∃ B : LBk, B.C = X ∧ BkT ck w B := by
  have hXs : X.size = 22 := hX.size
  obtain ⟨n17, c17, q17, hk17, A17, cap17, C17, e17, _, hr17⟩ := rd_row (e := 8) (hX.rd 17 (by decide)) (hw 17 (by decide))
  obtain ⟨n18, c18, q18, hk18, A18, cap18, C18, e18, _, hr18⟩ := rd_row (e := 9) (hX.rd 18 (by decide)) (hw 18 (by decide))
  obtain ⟨n19, c19, q19, hk19, A19, cap19, C19, e19, _, hr19⟩ := rd_row (e := 11) (hX.rd 19 (by decide)) (hw 19 (by decide))
  obtain ⟨n20, c20, q20, hk20, A20, cap20, C20, e20, _, hr20⟩ := rd_row (e := 12) (hX.rd 20 (by decide)) (hw 20 (by decide))
  have g17 := at_eq hXs (by decide) e17
  have g18 := at_eq hXs (by decide) e18
  have g19 := at_eq hXs (by decide) e19
  have g20 := at_eq hXs (by decide) e20
  have s17 := hs.pn
  have s18 := hs.an
  have s19 := hs.jn
  have sl := hs.lg
  rw [q17] at s17
  rw [q18] at s18
  rw [q19] at s19 sl
  refine ⟨⟨X, A18, n18, cap18, acK ck, A19, n19, cap19, A17, n17, cap17, fun k => ⟨elA 8 C17 k, (prK ck k).nm, (prK ck k).fr⟩⟩, rfl, ⟨⟨⟨hXs, g18, g19⟩, g17, s18, s17, hX.ones, fun k hk => ?_⟩, ⟨?_, ⟨fun hn => ?_⟩⟩, ?_, rfl, ?_, fun k => ⟨rfl, rfl⟩, fun k hk => ?_, ?_, ⟨entO c19 C19, ⟨ent_of hr19 hk19, sl⟩, fun k => ?_⟩, ⟨A20, cap20, ?_, ?_⟩⟩⟩
  · refine ⟨elA_size 8 C17 k, (hr17.el hk17 hk).ones, ?_, ?_⟩
    · obtain ⟨z, q, e, _⟩ := rd_str (hr17.rd k 0 hk (by decide)) (hk17.wt k 0 hk (by decide))
      show (elA 8 C17 k)[0]? = some (.string (strOf (lfv ((ck 17).c k 0))))
      rw [elA_at 8 C17 k 0 (by decide), e, q17]; show some _ = some (Value.string (strOf (lfv (c17 k 0)))); rw [q]; rfl
    · obtain ⟨z, q, e, _⟩ := rd_int (hr17.rd k 3 hk (by decide)) (hk17.wt k 3 hk (by decide))
      show (elA 8 C17 k)[3]? = some (.int .i64 (intOf (lfv ((ck 17).c k 3))))
      rw [elA_at 8 C17 k 3 (by decide), e, q17]; show some _ = some (Value.int .i64 (intOf (lfv (c17 k 3)))); rw [q]; rfl
  · show RowAcc w A18 n18 (fun k => accOf (fun j => lfv ((ck 18).c k j)))
    rw [q18]; exact acc_of hr18 hk18
  · obtain ⟨b, off, e, _⟩ := hr17.row hn
    have hb : b < w.heap.size := by obtain ⟨b2, o2, e2, h2, _⟩ := hr17.cells (by decide) hn; rw [e] at e2; injection e2 with e2; injection e2 with e2; subst e2; exact h2
    refine ⟨b, off, e, hb, fun k j v hk hv => ?_⟩
    obtain ⟨b2, o2, e2, _, hc⟩ := hr17.cells (by decide) hk
    rw [e] at e2; injection e2 with e2; injection e2 with e2 e3; subst e2 e3
    exact hc j v hv
  · rw [q18]; rfl
  · rw [q17]; rfl
  · show ElT (Old w) w 8 ((ck 17).c k) (elA 8 C17 k)
    rw [q17]; exact hr17.el hk17 hk
  · rw [q19]; rfl
  · show (c19 k 8).n = ((ck 19).c k 8).n ∧ lgK (c19 k 8) = lgK ((ck 19).c k 8)
    rw [q19]; exact ⟨rfl, rfl⟩
  · rw [q20]; exact g20
  · rw [show (ck 20).n = n20 by rw [q20]; rfl]
    have t := hld_of hr20 hk20
    unfold hlK
    rw [q20]; exact t
end Go.Proofs.YtdjhkhadjmndoaaDoor
namespace Go.Proofs.YtdjhkhadjmndoaaDoor
set_option maxRecDepth 4000
set_option linter.unusedSimpArgs false
set_option linter.unusedVariables false
open Go.RowKit
theorem bstP_congr {P Q : Nat → LPro} (h : ∀ k, (P k).nm = (Q k).nm ∧ (P k).fr = (Q k).fr) (nm : ByteArray) (day : Int) : ∀ n, bstP P nm day n = bstP Q nm day n
  | 0 => rfl
  | n + 1 => by
    have ih := bstP_congr h nm day n
    have hl : laterB P n (bstP P nm day n) = laterB Q n (bstP Q nm day n) := by
      rw [ih]
      cases bstP Q nm day n with
      | none => rfl
      | some k => show decide ((P k).fr < (P n).fr) = decide ((Q k).fr < (Q n).fr); rw [(h k).2, (h n).2]
    unfold bstP
    rw [hl, (h n).1, (h n).2, ih]
theorem ownE_congr {P Q : Nat → LPro} (h : ∀ k, (P k).nm = (Q k).nm ∧ (P k).fr = (Q k).fr) (pn : Nat) (x : LAcc) : ownE P pn x = ownE Q pn x := by unfold ownE; rw [bstP_congr h]
theorem alwE_congr {P Q : Nat → LPro} (h : ∀ k, (P k).nm = (Q k).nm ∧ (P k).fr = (Q k).fr) (pn : Nat) (a : Nat → LAcc) (an : Nat) (x : LAcc) : alwE P pn a an x = alwE Q pn a an x := by unfold alwE; rw [ownE_congr h]
theorem chkU_congr {P Q : Nat → LPro} (h : ∀ k, (P k).nm = (Q k).nm ∧ (P k).fr = (Q k).fr) (pn : Nat) (a : Nat → LAcc) : ∀ n, chkU P pn a n = chkU Q pn a n
  | 0 => rfl
  | n + 1 => by unfold chkU stpE; rw [chkU_congr h pn a n, ownE_congr h]
theorem mvs_sum {E F : Nat → LEnt} (h : ∀ k, (E k).ln = (F k).ln ∧ (E k).legs = (F k).legs) (id : Int) : ∀ n, sumE E id (fun _ => true) n = sumE F id (fun _ => true) n
  | 0 => rfl
  | n + 1 => by unfold sumE mvE; rw [mvs_sum h id n, (h n).1, (h n).2]
noncomputable def alwK (ck : Nat → Tr) (x : LAcc) : Int := alwE (prK ck) (ck 17).n (acK ck) (ck 18).n x
noncomputable def chkK (ck : Nat → Tr) : Int := chkE (prK ck) (ck 17).n (acK ck) (ck 18).n
def clsK (ck : Nat → Tr) (id day : Int) : Int := clsE (acK ck) (ck 18).n (enK ck) (ck 19).n (hlK ck) (ck 20).n id day
def idxK (ck : Nat → Tr) (id : Int) : Nat := idxN (acK ck) id (ck 18).n
def actK (ck : Nat → Tr) (id day : Int) : Bool := hasA (acK ck) id (ck 18).n && actL (getA (acK ck) id (ck 18).n) day
def prdK (ck : Nat → Tr) (id day : Int) : Option Nat := if hasA (acK ck) id (ck 18).n = true then bstP (prK ck) (getA (acK ck) id (ck 18).n).pr day (ck 17).n else none
/-- The names of the accounts are texts of a machine's size. -/
theorem ow_size {ck : Nat → Tr} (hw : KnOK 15 ck) (k : Nat) (hk : k < (ck 18).n) : (acK ck k).ow.size ≤ maxLen := by
  have t := hw 18 (by decide)
  cases h : ck 18 with
  | lf v => rw [h] at t; cases t
  | row n sz c =>
    rw [h] at t hk
    obtain ⟨rfl, _, hc⟩ := t
    have u := hc k 4 hk (by decide)
    show (strOf (lfv ((ck 18).c k 4))).size ≤ _
    rw [h]
    show (strOf (lfv (c k 4))).size ≤ _
    cases h4 : c k 4 with
    | lf v => rw [h4] at u; obtain ⟨s, rfl, hs⟩ := u; exact hs
    | row _ _ _ => rw [h4] at u; cases u
theorem openT {ck : Nat → Tr} (hw : KnOK 15 ck) (hs : Sml ck) {X : Array Value} (x : LAcc) (hnm : x.ow.size ≤ maxLen) (w : World) (ht : Tab w) (hX : ElT (Old w) w 15 ck X) :
    Calls Tryd.prog 23 #[.agg X, .agg #[.int .i64 x.id, .int .i64 x.op, .int .i64 x.cl, .int .i64 x.ex, .string x.ow, .string x.pr, .string x.nu]] w (OpRet ck x (alwK ck x) w) := by
  obtain ⟨B, rfl, hB⟩ := bk_of hw hs hX
  have h := open_any ck hw B hB.ok x hnm w ht hX hB.inn
  rw [alwE_congr hB.P, hB.a, hB.an, hB.pn] at h
  exact h
theorem closeT {ck : Nat → Tr} (hw : KnOK 15 ck) (hs : Sml ck) {X : Array Value} (id day : Int) (w : World) (hX : ElT (Old w) w 15 ck X) :
    Calls Tryd.prog 26 #[.agg X, .int .i64 id, .int .i64 day] w (ClRet ck (idxK ck id) day (clsK ck id day) w) := by
  obtain ⟨B, rfl, hB⟩ := bk_of hw hs hX
  obtain ⟨E, hj, hE⟩ := hB.jr
  obtain ⟨hA, hc, h20, hh⟩ := hB.ho
  have h := close_any ck hw B hB.ok E (by rw [hB.jn]; exact hs.jn) hA (ck 20).n hc h20 (hlK ck) hs.hn id day w hX hB.inn hj hh
  have e : clsE B.a B.an E B.jn (hlK ck) (ck 20).n id day = clsK ck id day := by
    unfold clsK clsE
    rw [hB.a, hB.an, hB.jn, mvs_sum hE]
  rw [e, hB.a, hB.an] at h
  exact h
theorem checkT {ck : Nat → Tr} (hw : KnOK 15 ck) (hs : Sml ck) {X : Array Value} (w : World) (ht : Tab w) (hX : ElT (Old w) w 15 ck X) :
    Calls Tryd.prog 21 #[.agg X] w fun e w' => e = .returned (.int .i64 (chkK ck)) ∧ Below w.heap.size w w' := by
  obtain ⟨B, rfl, hB⟩ := bk_of hw hs hX
  have h := check_any B hB.ok (fun k hk => by rw [hB.a]; exact ow_size hw k (by rw [← hB.an]; exact hk)) w ht hB.inn
  have e : chkE B.P B.pn B.a B.an = chkK ck := by unfold chkK chkE; rw [chkU_congr hB.P, hB.a, hB.an, hB.pn]
  rw [e] at h
  exact h
theorem activeT {ck : Nat → Tr} (hw : KnOK 15 ck) (hs : Sml ck) {X : Array Value} (id day : Int) (w : World) (hX : ElT (Old w) w 15 ck X) :
    Calls Tryd.prog 19 #[.agg X, .int .i64 id, .int .i64 day] w fun e w' => e = .returned (.bool (actK ck id day)) ∧ Below w.heap.size w w' := by
  obtain ⟨B, rfl, hB⟩ := bk_of hw hs hX
  have h := active_any B hB.ok id day w hB.inn
  have e : actB B id day = actK ck id day := by unfold actB actK; rw [hB.a, hB.an]
  rw [e] at h
  exact h
/-- What Product hands back: a version's cells, or the zero version. -/
def PrRet (ck : Nat → Tr) (o : Option Nat) (w : World) (r : Ending) (w' : World) : Prop :=
  ∃ D b, r = .returned (.tuple #[.agg D, .bool b]) ∧ D.size = 19 ∧ D.all (·.oneCell') = true ∧ (match o with | some k => ElT (Old w) w 8 ((ck 17).c k) D ∧ b = true ∧ k < (ck 17).n | none => D = pzZ ∧ b = false) ∧ Below w.heap.size w w'
theorem prd_eq {ck : Nat → Tr} {w : World} {B : LBk} (hB : BkT ck w B) (id day : Int) : prdB B id day = prdK ck id day := by unfold prdB prdK; rw [hB.a, hB.an, hB.pn, bstP_congr hB.P]
theorem prd_lt {ck : Nat → Tr} {id day : Int} {k : Nat} (h : prdK ck id day = some k) : k < (ck 17).n := by
  unfold prdK at h
  split at h
  · exact bstP_lt h
  · cases h
theorem pr_of {ck : Nat → Tr} {w : World} {B : LBk} (hB : BkT ck w B) {id day : Int} {r : Ending} {w' : World} (h : CatRet B.P (prdB B id day) w r w') : PrRet ck (prdK ck id day) w r w' := by
  obtain ⟨C, b, h1, h2, h3, h4, h5⟩ := h
  rw [prd_eq hB] at h4
  refine ⟨C, b, h1, h2, h3, ?_, h5⟩
  cases ho : prdK ck id day with
  | none => rw [ho] at h4; exact h4
  | some k =>
    rw [ho] at h4
    obtain ⟨rfl, hb⟩ := h4
    exact ⟨hB.PT k (by rw [hB.pn]; exact prd_lt ho), hb, prd_lt ho⟩
theorem productT {ck : Nat → Tr} (hw : KnOK 15 ck) (hs : Sml ck) {X : Array Value} (id day : Int) (w : World) (hX : ElT (Old w) w 15 ck X) :
    Calls Tryd.prog 16 #[.agg X, .int .i64 id, .int .i64 day] w (PrRet ck (prdK ck id day) w) := by
  obtain ⟨B, rfl, hB⟩ := bk_of hw hs hX
  exact (product_any B hB.ok id day w hB.inn).mono fun r w' h => pr_of hB h
end Go.Proofs.YtdjhkhadjmndoaaDoor
namespace Go.Proofs.YtdjhkhadjmndoaaDoor
set_option maxRecDepth 4000
set_option linter.unusedSimpArgs false
set_option linter.unusedVariables false
open Go.RowKit
/-- An account's fields are in range. -/
structure AccR (x : LAcc) : Prop where
  id : IIn x.id
  op : IIn x.op
  cl : IIn x.cl
  ex : IIn x.ex
  ow : x.ow.size ≤ maxLen
  pr : x.pr.size ≤ maxLen
  nu : x.nu.size ≤ maxLen
theorem acc_wt {x : LAcc} (h : AccR x) (j : Nat) (hj : j < 7) : (accT x j).wt ((tbl 9).getD j .i) := by
  match j, hj with
  | 0, _ => exact ⟨_, rfl, h.id⟩
  | 1, _ => exact ⟨_, rfl, h.op⟩
  | 2, _ => exact ⟨_, rfl, h.cl⟩
  | 3, _ => exact ⟨_, rfl, h.ex⟩
  | 4, _ => exact ⟨_, rfl, h.ow⟩
  | 5, _ => exact ⟨_, rfl, h.pr⟩
  | 6, _ => exact ⟨_, rfl, h.nu⟩
theorem row18 {ck : Nat → Tr} (hw : KnOK 15 ck) : ∃ n c, ck 18 = .row n 7 c ∧ RowK 9 n c := by
  have t := hw 18 (by decide)
  cases h : ck 18 with
  | lf v => rw [h] at t; cases t
  | row n sz c => rw [h] at t; obtain ⟨rfl, h1, h2⟩ := t; exact ⟨n, c, rfl, h1, h2⟩
theorem op_18 (ck : Nat → Tr) (x : LAcc) : opT ck x 18 = .row ((ck 18).n + 1) 7 (fun k => if k < (ck 18).n then (ck 18).c k else accT x) := if_pos rfl
theorem op_ne (ck : Nat → Tr) (x : LAcc) {j : Nat} (h : j ≠ 18) : opT ck x j = ck j := if_neg h
theorem cl_18 (ck : Nat → Tr) (k : Nat) (day : Int) : clT ck k day 18 = .row (ck 18).n 7 (fun i m => if i = k ∧ m = 2 then .lf (.int .i64 day) else (ck 18).c i m) := if_pos rfl
theorem cl_ne (ck : Nat → Tr) (k : Nat) (day : Int) {j : Nat} (h : j ≠ 18) : clT ck k day j = ck j := if_neg h
theorem op_wt {ck : Nat → Tr} (hw : KnOK 15 ck) (hs : (ck 18).n ≤ 1000000) {x : LAcc} (h : AccR x) : KnOK 15 (opT ck x) := fun j hj => by
  by_cases h18 : j = 18
  · subst h18
    obtain ⟨n, c, e, hk⟩ := row18 hw
    rw [op_18, e]
    rw [e] at hs
    have hs : n ≤ 1000000 := hs
    refine ⟨rfl, ?_, fun k i hkn hi => ?_⟩
    · show (n + 1) * 80 ≤ _; omega
    · show ((if k < n then c k else accT x) i).wt _
      by_cases hlt : k < n
      · rw [if_pos hlt]; exact hk.wt k i hlt hi
      · rw [if_neg hlt]; exact acc_wt h i hi
  · rw [op_ne ck x h18]; exact hw j hj
theorem cl_wt {ck : Nat → Tr} (hw : KnOK 15 ck) {k : Nat} {day : Int} (hd : IIn day) : KnOK 15 (clT ck k day) := fun j hj => by
  by_cases h18 : j = 18
  · subst h18
    obtain ⟨n, c, e, hk⟩ := row18 hw
    rw [cl_18, e]
    refine ⟨rfl, hk.room, fun i m hi hm => ?_⟩
    show (if i = k ∧ m = 2 then Tr.lf (.int .i64 day) else c i m).wt _
    by_cases he : i = k ∧ m = 2
    · rw [if_pos he, he.2]; exact ⟨day, rfl, hd⟩
    · rw [if_neg he]; exact hk.wt i m hi hm
  · rw [cl_ne ck k day h18]; exact hw j hj
theorem op_sml {ck : Nat → Tr} (hs : Sml ck) (h : (ck 18).n < 1000000) {x : LAcc} : Sml (opT ck x) :=
  ⟨by rw [op_18]; exact h, by rw [op_ne ck x (by decide)]; exact hs.pn, by rw [op_ne ck x (by decide)]; exact hs.jn, by rw [op_ne ck x (by decide)]; exact hs.hn, by rw [op_ne ck x (by decide)]; exact hs.lg⟩
theorem cl_sml {ck : Nat → Tr} (hs : Sml ck) {k : Nat} {day : Int} : Sml (clT ck k day) :=
  ⟨by rw [cl_18]; exact hs.an, by rw [cl_ne ck k day (by decide)]; exact hs.pn, by rw [cl_ne ck k day (by decide)]; exact hs.jn, by rw [cl_ne ck k day (by decide)]; exact hs.hn, by rw [cl_ne ck k day (by decide)]; exact hs.lg⟩
theorem zb_wt : KnOK 15 zbT := fun j hj => by
  have hj2 : j < 22 := hj
  match j, hj2 with
  | 0, _ | 1, _ | 2, _ | 17, _ | 18, _ | 19, _ | 20, _ | 21, _ => exact ⟨rfl, by show 0 * _ ≤ _; omega, fun k i hk _ => absurd hk (by omega)⟩
  | 3, _ | 4, _ | 5, _ | 6, _ | 7, _ | 8, _ | 9, _ | 10, _ | 11, _ | 12, _ | 13, _ | 14, _ | 15, _ | 16, _ => exact ⟨0, rfl, by unfold IIn; decide⟩
  | n + 22, h => exact absurd h (by omega)
/-! ### The example -/
def giro : ByteArray := ⟨#[103, 105, 114, 111]⟩
def ann : ByteArray := ⟨#[97, 110, 110]⟩
def giZ : Array Value := #[.string ⟨#[103, 105, 114, 111]⟩, .string ⟨#[]⟩, .string ⟨#[]⟩, .int .i64 3, .int .i64 0, .int .i64 0, .int .i64 0, .slice none 0 0, .bool false, .int .i64 0, .int .i64 0, .bool false, .slice none 0 0, .bool false, .int .i64 0, .int .i64 0, .bool false, .slice none 0 0, .slice none 0 0]
def giT : Nat → Tr
  | 0 => .lf (.string ⟨#[103, 105, 114, 111]⟩) | 1 => .lf (.string ⟨#[]⟩) | 2 => .lf (.string ⟨#[]⟩) | 3 => .lf (.int .i64 3)
  | 7 => .row 0 2 (fun _ _ => .lf undef) | 12 => .row 0 2 (fun _ _ => .lf undef) | 17 => .row 0 10 (fun _ _ => .lf undef) | 18 => .row 0 6 (fun _ _ => .lf undef)
  | 8 => .lf (.bool false) | 11 => .lf (.bool false) | 13 => .lf (.bool false) | 16 => .lf (.bool false)
  | _ => .lf (.int .i64 0)
theorem gi_rd {S : Nat → Prop} {w : World} (j : Nat) (hj : j < 19) : (giT j).rd S w (giZ.getD j undef) := by
  match j, hj with
  | 7, _ | 12, _ | 17, _ | 18, _ => exact ⟨none, 0, fun _ _ => undef, rfl, Nat.le_refl _, fun h => absurd h (by decide), fun k _ hk _ => absurd hk (by omega)⟩
  | 0, _ | 1, _ | 2, _ | 3, _ | 4, _ | 5, _ | 6, _ | 8, _ | 9, _ | 10, _ | 11, _ | 13, _ | 14, _ | 15, _ | 16, _ => exact rfl
  | n + 19, h => exact absurd h (by omega)
theorem gi_wt (j : Nat) (hj : j < 19) : (giT j).wt ((tbl 8).getD j .i) := by
  match j, hj with
  | 7, _ | 12, _ | 17, _ | 18, _ => exact ⟨rfl, by show 0 * _ ≤ _; omega, fun k i hk _ => absurd hk (by omega)⟩
  | 0, _ | 1, _ | 2, _ => exact ⟨_, rfl, by simp only [maxLen]; decide⟩
  | 3, _ | 4, _ | 5, _ | 6, _ | 9, _ | 10, _ | 14, _ | 15, _ => exact ⟨_, rfl, by unfold IIn; decide⟩
  | 8, _ | 11, _ | 13, _ | 16, _ => exact ⟨false, rfl⟩
  | n + 19, h => exact absurd h (by omega)
def saT (j : Nat) : Tr := if j = 17 then .row 1 19 (fun _ => giT) else zbT j
theorem sa_17 : saT 17 = .row 1 19 (fun _ => giT) := if_pos rfl
theorem sa_ne {j : Nat} (h : j ≠ 17) : saT j = zbT j := if_neg h
theorem sa_wt : KnOK 15 saT := fun j hj => by
  by_cases h : j = 17
  · subst h
    rw [sa_17]
    exact ⟨rfl, by show 1 * 240 ≤ _; omega, fun k i _ hi => gi_wt i hi⟩
  · rw [sa_ne h]; exact zb_wt j hj
theorem sa_sml : Sml saT := ⟨by decide, by decide, by decide, by decide, fun k hk => absurd hk (by rw [sa_ne (by decide)]; exact Nat.not_lt_zero _)⟩
/-- The account of the example. -/
def exA : LAcc := ⟨1000, 5, 0, 0, ann, giro, ⟨(numI 1000).toArray⟩⟩
theorem num_len {id : Int} : (numI id).length ≤ 12 := by
  cases h : okId id with
  | false => rw [numI_no h]; decide
  | true => obtain ⟨n, _, _, _, e⟩ := numI_ok h; rw [e, numT_len]; decide
theorem exA_in : AccR exA := ⟨by unfold IIn exA; decide, by unfold IIn exA; decide, by unfold IIn exA; decide, by unfold IIn exA; decide, by simp only [maxLen]; decide, by simp only [maxLen]; decide, by
  have h : (numI 1000).length ≤ 12 := num_len
  show (numI 1000).toArray.size ≤ maxLen
  rw [List.size_toArray]
  simp only [maxLen]
  omega⟩
def bkA : Nat → Tr := opT saT exA
def bkC : Nat → Tr := clT bkA 0 9
theorem bkA_wt : KnOK 15 bkA := op_wt sa_wt (by decide) exA_in
theorem bkA_sml : Sml bkA := op_sml sa_sml (by decide)
theorem bkC_wt : KnOK 15 bkC := cl_wt bkA_wt (by unfold IIn; decide)
theorem bkC_sml : Sml bkC := cl_sml bkA_sml
theorem ann_ok : nameB ann = true := nameB_yes ⟨by decide, by decide, fun j h => by
  have h2 : j < 3 := h
  match j, h2 with
  | 0, _ => exact .inl (by show 97 ≤ (97 : UInt8).toNat ∧ (97 : UInt8).toNat ≤ 122; decide)
  | 1, _ => exact .inl (by show 97 ≤ (110 : UInt8).toNat ∧ (110 : UInt8).toNat ≤ 122; decide)
  | 2, _ => exact .inl (by show 97 ≤ (110 : UInt8).toNat ∧ (110 : UInt8).toNat ≤ 122; decide)⟩
theorem exA_nu : nuB exA = true := by show ((⟨(numI 1000).toArray⟩ : ByteArray).toList == (⟨(numI 1000).toArray⟩ : ByteArray).toList) = true; exact beq_self_eq_true _
theorem exA_sh : shB exA = true := by unfold shB; rw [exA_nu]; rfl
theorem exA_op : opB exA = true := by unfold opB; rw [exA_sh]; rfl
theorem bstP_sa (P : Nat → LPro) (h : (P 0).nm = giro ∧ (P 0).fr = 3) (day : Int) (hd : 3 ≤ day) : bstP P giro day 1 = some 0 := by
  unfold bstP
  exact if_pos ⟨by rw [h.1]; exact beq_self_eq_true _, by rw [h.2]; exact hd, rfl⟩
theorem prK_sa : (prK saT 0).nm = giro ∧ (prK saT 0).fr = 3 := ⟨rfl, rfl⟩
theorem prK_bkA : (prK bkA 0).nm = giro ∧ (prK bkA 0).fr = 3 := ⟨rfl, rfl⟩
theorem own_ex {P : Nat → LPro} (h : (P 0).nm = giro ∧ (P 0).fr = 3) : ownE P 1 exA = 0 := own_0 ann_ok (by show (bstP P giro 5 1).isSome = true; rw [bstP_sa P h 5 (by decide)]; rfl)
theorem alw_sa : alwK saT exA = 0 := by
  show alwE (prK saT) 1 (acK saT) 0 exA = 0
  rw [alw_len exA_op rfl (own_ex prK_sa)]; rfl
theorem acK_bkA : acK bkA 0 = exA := rfl
theorem acK_bkC : acK bkC 0 = ⟨1000, 5, 9, 0, ann, giro, ⟨(numI 1000).toArray⟩⟩ := rfl
theorem alw_bkA : alwK bkA exA = 10 := by
  show alwE (prK bkA) 1 (acK bkA) 1 exA = 10
  exact alw_10 exA_op (geB_yes (k := 0) (by decide) (by rw [acK_bkA]; decide))
theorem fnd_bkA : fndA (acK bkA) 1000 1 = some 0 := fndA_first (by decide) (by rw [acK_bkA]; rfl) (fun j hj => by omega)
theorem fnd_bkC : fndA (acK bkC) 1000 1 = some 0 := fndA_first (by decide) (by rw [acK_bkC]) (fun j hj => by omega)
theorem idx_bkA : idxK bkA 1000 = 0 := by show idxN (acK bkA) 1000 1 = 0; unfold idxN; rw [fnd_bkA]
theorem cls_bkA : clsK bkA 1000 9 = 0 := by
  show clsE (acK bkA) 1 (enK bkA) 0 (hlK bkA) 0 1000 9 = 0
  obtain ⟨h1, h2, _⟩ := getA_yes fnd_bkA
  unfold clsE
  rw [h1, h2, acK_bkA, if_neg (by decide), if_neg (by decide), if_neg (by decide), if_neg (by decide)]
theorem cls_bkC : clsK bkC 1000 9 = 16 := by
  show clsE (acK bkC) 1 (enK bkC) 0 (hlK bkC) 0 1000 9 = 16
  obtain ⟨h1, h2, _⟩ := getA_yes fnd_bkC
  unfold clsE
  rw [h1, h2, acK_bkC, if_neg (by decide), if_pos (by decide)]
theorem prd_bkA : prdK bkA 1000 4 = some 0 := by
  show (if hasA (acK bkA) 1000 1 = true then bstP (prK bkA) (getA (acK bkA) 1000 1).pr 4 1 else none) = some 0
  obtain ⟨h1, h2, _⟩ := getA_yes fnd_bkA
  rw [if_pos h2, h1, acK_bkA]
  exact bstP_sa _ prK_bkA 4 (by decide)
theorem act_8 : actK bkC 1000 8 = true := by
  show (hasA (acK bkC) 1000 1 && actL (getA (acK bkC) 1000 1) 8) = true
  obtain ⟨h1, h2, _⟩ := getA_yes fnd_bkC
  rw [h2, h1, acK_bkC]; rfl
theorem act_9 : actK bkC 1000 9 = false := by
  show (hasA (acK bkC) 1000 1 && actL (getA (acK bkC) 1000 1) 9) = false
  obtain ⟨h1, h2, _⟩ := getA_yes fnd_bkC
  rw [h2, h1, acK_bkC]; rfl
theorem chk_bkC : chkK bkC = 0 := by
  show chkE (prK bkC) 1 (acK bkC) 1 = 0
  have hs : stpE (prK bkC) 1 (acK bkC) 0 = 0 := by
    have hr : rightB (acK bkC 0) = true := by
      rw [acK_bkC]
      have : shB ⟨1000, 5, 9, 0, ann, giro, ⟨(numI 1000).toArray⟩⟩ = true := exA_sh
      unfold rightB; rw [this]; rfl
    rw [stp_own hr (fun h => absurd h.1 (by decide)), acK_bkC]
    exact own_0 ann_ok (by show (bstP (prK bkC) giro 5 1).isSome = true; rw [bstP_sa (prK bkC) ⟨rfl, rfl⟩ 5 (by decide)]; rfl)
  unfold chkE
  rw [if_neg (by decide)]
  exact chkU_next rfl hs
end Go.Proofs.YtdjhkhadjmndoaaDoor
namespace Go.Proofs.YtdjhkhadjmndoaaDoor
set_option maxRecDepth 4000
set_option linter.unusedSimpArgs false
set_option linter.unusedVariables false
open Go.RowKit
section
variable {P : Program}
theorem wpList_load_rowG {ops : Array Oper} {rest : List Oper} {o : Oper} {a : Act} {w : World} {Q : Exit → Act → World → Prop} (hw : Region.wanted o (yielded ops a.tmps) = true) (ty : TypeId) (x : Operand) (ho : o.op = .load ty x)
    (g : Nat) (hx : a.eval x = .pointer (some ⟨g, 0, none⟩)) (t : TypeId) (cs : Array Value) (fr : Nat × Nat) (d : TypeDesc) (hg : w.heap[g]? = some (.cells cs t fr))
    (hu : P.underlying ty = some d) (hd : (match d with | .struct _ | .array _ _ => true | _ => false) = true) (hi : (P.info? ty).map (·.size) = some cs.size)
    (h : wpList P ops Q rest (a.put o.dst (.agg cs)) w) : wpList P ops Q (o :: rest) a w :=
  wpList_step fun _ hK => by simp only [hw, if_true]; exact wp_load_row ty x ho g hx t cs fr d hg hu hd hi (hK _ _ h)
theorem wp_alloc_row {o : Oper} {a : Act} {w : World} {K : Act → World → Prop} {Q : Exit → Act → World → Prop} (t : TypeId) (ho : o.op = .alloc t) (i : TypeInfo) (hi : P.info? t = some i) (z : Array Value) (hz : i.zero = some (.agg z)) (N : Nat) (hN : N = w.heap.size)
    (h : K (a.put o.dst (.pointer (some ⟨N, 0, none⟩))) (w.alloc (.cells z t))) : o.wp P a w K Q := by
  subst hN
  unfold Oper.wp execOp
  simp only [ho, Sem.run_bind, run_alloc_row w t i hi z hz, Result.andThen_ok]
  exact h
theorem wp_store_newrow {o : Oper} {a : Act} {w : World} {K : Act → World → Prop} {Q : Exit → Act → World → Prop} (ty : TypeId) (x y : Operand) (ho : o.op = .store ty x y) (hd : o.dst = none)
    (g : Nat) (cells : Array Value) (hx : a.eval x = .pointer (some ⟨g, 0, none⟩)) (hy : a.eval y = .agg cells) (t : TypeId) (old : Array Value) (hg : w.heap[g]? = some (.cells old t (0, 0))) (hi : (P.info? ty).map (·.size) = some cells.size)
    (hold : old.size = cells.size) (h1 : cells.all (·.oneCell') = true)
    (h : ∀ w', Below g w w' → w'.heap.size = w.heap.size → w'.heap[g]? = some (.cells cells t (0, 0)) → (∀ k, k ≠ g → w'.heap[k]? = w.heap[k]?) → K a w') : o.wp P a w K Q :=
  wp_store_row ty x y ho g cells hx hy t old hg hi hold h1 (by rw [hd]; exact h _ (below_setRow (Below.refl _ _) (Nat.le_refl _) _) (by simp) (setRow_heap w g old cells t _ hg) (fun k hk => setRow_other w g k cells hk))
end
theorem inf_Pro : (Tryd.prog.info? 53).map (fun i => (i.zero, i.size, i.bytes)) = some (some (.agg pzZ), 19, 240) := by kernel_rfl
theorem gi_built : ∃ G : Array Value, Tryd.prog.built 53 [(0, .string ⟨#[103, 105, 114, 111]⟩), (3, .int .i64 3)] = some G ∧ G.size = 19 ∧ G.all (·.oneCell') = true ∧ G = giZ := ⟨giZ, by kernel_rfl, rfl, by kernel_rfl, rfl⟩
theorem sb_built (A : Option Addr) (n c : Nat) : ∃ C : Array Value, Tryd.prog.built 41 [(4, .slice A n c)] = some C ∧ C.size = 22 ∧ C.all (·.oneCell') = true ∧ C = zbZ.setIfInBounds 17 (.slice A n c) := ⟨zbZ.setIfInBounds 17 (.slice A n c), by kernel_rfl, rfl, by kernel_rfl, rfl⟩
theorem sa_rd {S : Nat → Prop} {w : World} {b : Nat} {t : TypeId} (hb : S b) (h : w.heap[b]? = some (.cells giZ t (0, 0))) : ElT S w 15 saT (zbZ.setIfInBounds 17 (.slice (some ⟨b, 0, none⟩) 1 1)) := by
  have hz : ElT S w 15 zbT zbZ := zb_rd
  refine el_big (by rw [Array.size_setIfInBounds]; rfl) (fun j hj => ?_)
  have hj2 : j < 22 := hj
  by_cases h17 : j = 17
  · subst h17
    refine ⟨_, set_eq (n := 22) rfl (by decide), rfl, ?_⟩
    rw [sa_17]
    refine row_mk (e := 8) (C := fun _ j => giZ.getD j undef) (Nat.le_refl _) ⟨fun _ => ⟨b, 0, rfl, hb, fun k j hk hj => ?_⟩, fun k j _ hj => gi_rd j hj⟩
    have hj3 : j < 19 := hj
    obtain rfl : k = 0 := by omega
    rw [cell_of_cells h, show 0 + (0 * (tbl 8).length + j) = j by omega]
    exact getD_at hj3
  · rw [sa_ne h17]
    exact ⟨zbZ.getD j undef, set_ne (fun h => h17 h.symm) (getD_at hj2), one_at (n := 22) rfl hj2 hz.ones, hz.rd j hj⟩
def SaRet (w : World) (e : Ending) (w' : World) : Prop := ∃ C, e = .returned (.agg C) ∧ ElT (Old w') w' 15 saT C ∧ Below w.heap.size w w'
set_option maxRecDepth 8000 in
set_option maxHeartbeats 4000000 in
theorem sample_any (w : World) : Calls Tryd.prog 31 #[] w (SaRet w) := by
  obtain ⟨i0, Z, hi0, hi1, hi2, _, _⟩ := zb_zero
  obtain ⟨G, hg0, hg1, hg2, hg3⟩ := gi_built
  obtain ⟨C, hc0, hc1, hc2, hc3⟩ := sb_built (some ⟨w.heap.size + 1, 0, none⟩) 1 1
  obtain ⟨i8, h80, h81, h82, h83⟩ := info_parts inf_Pro
  have I0 := hide h80
  have I1 := hide h81
  have I2 := hide h82
  have HI := hide (And.intro hi0 hi1)
  have HZ := hide (show Z.size = C.size by rw [hi2, hc1])
  have HG0 := hide hg0
  have HG1 := hide hg1
  have HG3 := hide hg3
  have HC0 := hide hc0
  have HC1 := hide (zb_size hc1)
  have HC2 := hide hc2
  have HC3 := hide hc3
  clear h80 h81 h82 h83 hi0 hi1 hi2 hg0 hg1 hg2 hg3 hc0 hc1 hc2 hc3
  go_enter Tryd.func31, Tryd.ntmps31
  go_wp2_with (first
    | (with_reducible refine wpList_alloc_row rfl 41 rfl (some 0) rfl i0 HI.out.1 Z HI.out.2 w.heap.size rfl ?_)
    | ((with_reducible refine Go.wpList_buildTo rfl 53 #[(0, .const (.string ⟨#[103, 105, 114, 111]⟩)), (3, .const (.int .i64 3))] rfl (some 1) rfl G ?_ ?_); (focus (refine Eq.trans (congrArg _ ?_) HG0.out; simp [Act.eval])))
    | (with_reducible refine wpList_build1 rfl 35 53 (.tmp 1) rfl G rfl i8 pzZ Tryd.underlying35 I0.out I1.out 19 I2.out (by decide) (by decide) HG1.out (some 2) rfl (w.heap.size + 1) (by simp) ?_)
    | ((with_reducible refine Go.wpList_buildTo rfl 41 #[(4, .tmp 2)] rfl (some 3) rfl C ?_ ?_); (focus (refine Eq.trans (congrArg _ ?_) HC0.out; simp [Act.eval, Act.put])))
    | ((with_reducible refine wpList_store_newrow2 rfl 41 (.tmp 0) (.tmp 3) rfl rfl w.heap.size C rfl rfl 41 Z (blk_under (blk_new rfl)) HC1.out HZ.out HC2.out ?_); intro w9 hb9 hs9 hx9 hk9))
  refine bodyPost_ret (v := .agg C) (Go.results_cell_row (by rfl) _ _ w.heap.size 41 C (0, 0) _ rfl hx9 Tryd.underlying41 rfl HC1.out) rfl ?_
  refine ⟨C, rfl, ?_, Below.trans (by (repeat (first | (with_reducible first | exact Below.refl _ _ | assumption | refine Below.drew ?_) | ((with_reducible first | refine Below.alloc ?_ ?_ _ | refine Below.setCell ?_ ?_ _); rotate_left; (first | omega | (simp <;> omega)))))) hb9⟩
  rw [HC3.out]
  refine sa_rd (t := 53) ?_ ?_
  · show _ < _
    rw [hs9]; simp
  · rw [hk9 (w.heap.size + 1) (by omega), ← HG3.out]
    exact blk_new (by simp)
/-! ### What the program answers -/
def OkRet (ck : Nat → Tr) (e : Int) (w : World) (r : Ending) (w' : World) : Prop := ∃ D, r = .returned (.tuple #[.agg D, .int .i64 e]) ∧ ElT (New w.heap.size w') w' 15 ck D ∧ Below w.heap.size w w'
theorem lv_open {s : ByteArray} (hs : s = ⟨(numI 1000).toArray⟩) {X : Array Value} (w : World) (ht : Tab w) (hX : ElT (Old w) w 15 saT X) :
    Calls Tryd.prog 23 #[.agg X, .agg #[.int .i64 1000, .int .i64 5, .int .i64 0, .int .i64 0, .string ⟨#[97, 110, 110]⟩, .string ⟨#[103, 105, 114, 111]⟩, .string s]] w (OkRet bkA 0 w) := by
  subst hs
  have h := openT sa_wt sa_sml exA exA_in.ow w ht hX
  rw [alw_sa] at h
  exact h
theorem lv_open2 {s : ByteArray} (hs : s = ⟨(numI 1000).toArray⟩) {X : Array Value} (w : World) (ht : Tab w) (hX : ElT (Old w) w 15 bkA X) :
    Calls Tryd.prog 23 #[.agg X, .agg #[.int .i64 1000, .int .i64 5, .int .i64 0, .int .i64 0, .string ⟨#[97, 110, 110]⟩, .string ⟨#[103, 105, 114, 111]⟩, .string s]] w (OkRet zbT 10 w) := by
  subst hs
  have h := openT bkA_wt bkA_sml exA exA_in.ow w ht hX
  rw [alw_bkA] at h
  exact h
theorem lv_close {X : Array Value} (w : World) (hX : ElT (Old w) w 15 bkA X) : Calls Tryd.prog 26 #[.agg X, .int .i64 1000, .int .i64 9] w (OkRet bkC 0 w) := by
  have h := closeT bkA_wt bkA_sml 1000 9 w hX
  rw [cls_bkA, idx_bkA] at h
  exact h
theorem lv_close2 {X : Array Value} (w : World) (hX : ElT (Old w) w 15 bkC X) : Calls Tryd.prog 26 #[.agg X, .int .i64 1000, .int .i64 9] w (OkRet zbT 16 w) := by
  have h := closeT bkC_wt bkC_sml 1000 9 w hX
  rw [cls_bkC] at h
  exact h
theorem lv_id {s : ByteArray} (hs : s = ⟨(numI 1000).toArray⟩) (w : World) (ht : Tab w) : Calls Tryd.prog 10 #[.string s] w fun e w' => e = .returned (.tuple #[.int .i64 1000, .int .i64 0]) ∧ Below w.heap.size w w' := by
  subst hs
  have h := idp_any ⟨(numI 1000).toArray⟩ w ht
  have e : (⟨(numI 1000).toArray⟩ : ByteArray).data.toList = numI 1000 := by simp
  rw [e, (id_num (id := 1000) rfl).1, (id_num (id := 1000) rfl).2] at h
  exact h
def GiRet (w : World) (r : Ending) (w' : World) : Prop := ∃ D, r = .returned (.tuple #[.agg D, .bool true]) ∧ D.size = 19 ∧ D.all (·.oneCell') = true ∧ D[0]? = some (.string ⟨#[103, 105, 114, 111]⟩) ∧ Below w.heap.size w w'
theorem lv_prod {X : Array Value} (w : World) (hX : ElT (Old w) w 15 bkA X) : Calls Tryd.prog 16 #[.agg X, .int .i64 1000, .int .i64 4] w (GiRet w) := by
  have h := productT bkA_wt bkA_sml 1000 4 w hX
  rw [prd_bkA] at h
  refine h.mono ?_
  rintro r w' ⟨D, b, e, h1, h2, ⟨h3, rfl, _⟩, h5⟩
  exact ⟨D, e, h1, h2, at_eq h1 (by decide) (h3.rd 0 (by decide)), h5⟩
theorem lv_act8 {X : Array Value} (w : World) (hX : ElT (Old w) w 15 bkC X) : Calls Tryd.prog 19 #[.agg X, .int .i64 1000, .int .i64 8] w fun e w' => e = .returned (.bool true) ∧ Below w.heap.size w w' := by
  have h := activeT bkC_wt bkC_sml 1000 8 w hX
  rw [act_8] at h
  exact h
theorem lv_act9 {X : Array Value} (w : World) (hX : ElT (Old w) w 15 bkC X) : Calls Tryd.prog 19 #[.agg X, .int .i64 1000, .int .i64 9] w fun e w' => e = .returned (.bool false) ∧ Below w.heap.size w w' := by
  have h := activeT bkC_wt bkC_sml 1000 9 w hX
  rw [act_9] at h
  exact h
theorem lv_check {X : Array Value} (w : World) (ht : Tab w) (hX : ElT (Old w) w 15 bkC X) : Calls Tryd.prog 21 #[.agg X] w fun e w' => e = .returned (.int .i64 0) ∧ Below w.heap.size w w' := by
  have h := checkT bkC_wt bkC_sml w ht hX
  rw [chk_bkC] at h
  exact h
/-- The row of the account in the books. -/
theorem lv_row {X : Array Value} {w : World} {s : ByteArray} (hs : s = ⟨(numI 1000).toArray⟩) (hX : ElT (Old w) w 15 bkA X) : ∃ b off cap, X[18]? = some (.slice (some ⟨b, off, none⟩) 1 cap) ∧ b < w.heap.size ∧ w.cell? ⟨b, off, none⟩ = some (.int .i64 1000) ∧ w.cell? ⟨b, off + 1, none⟩ = some (.int .i64 5) ∧
    w.cell? ⟨b, off + 2, none⟩ = some (.int .i64 0) ∧ w.cell? ⟨b, off + 3, none⟩ = some (.int .i64 0) ∧ w.cell? ⟨b, off + 4, none⟩ = some (.string ⟨#[97, 110, 110]⟩) ∧ w.cell? ⟨b, off + 5, none⟩ = some (.string ⟨#[103, 105, 114, 111]⟩) ∧ w.cell? ⟨b, off + 6, none⟩ = some (.string s) := by
  subst hs
  obtain ⟨B, rfl, hB⟩ := bk_of bkA_wt bkA_sml hX
  have han : B.an = 1 := hB.an
  have hr := hB.inn.acc
  rw [han, hB.a] at hr
  obtain ⟨b, off, e, hb, c0, c1, c2, c3, c4, c5, c6⟩ := hr.at (show 0 < 1 by decide)
  simp only [Nat.zero_mul, Nat.add_zero] at c0 c1 c2 c3 c4 c5 c6
  have h18 := hB.ok.bks.acc
  rw [han, e] at h18
  exact ⟨b, off, _, h18, hb, c0, c1, c2, c3, c4, c5, c6⟩
end Go.Proofs.YtdjhkhadjmndoaaDoor
