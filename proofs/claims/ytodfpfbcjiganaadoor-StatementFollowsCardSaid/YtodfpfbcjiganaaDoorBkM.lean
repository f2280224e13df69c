/- Accounts, legs, entries and postings as rows of cells; what an account moves. No program in sight. -/
import Derived.Test.YtodfpfbcjiganaaDoorRec
namespace Go.Proofs.YtodfpfbcjiganaaDoor
set_option linter.unusedSimpArgs false
set_option linter.unusedVariables false
open Go.RowKit

/-- An account. -/
structure LAcc where
  id : Int
  op : Int
  cl : Int
  ex : Int
  ow : ByteArray
  pr : ByteArray
  nu : ByteArray
def accC (a : LAcc) : Nat → Value
  | 0 => .int .i64 a.id | 1 => .int .i64 a.op | 2 => .int .i64 a.cl | 3 => .int .i64 a.ex | 4 => .string a.ow | 5 => .string a.pr | 6 => .string a.nu | _ => undef
def accOf (C : Nat → Value) : LAcc := ⟨intOf (C 0), intOf (C 1), intOf (C 2), intOf (C 3), strOf (C 4), strOf (C 5), strOf (C 6)⟩
/-- A leg of an entry. -/
structure LLeg where
  ac : Int
  am : Int
  cu : ByteArray
def legC (a : LLeg) : Nat → Value
  | 0 => .int .i64 a.ac | 1 => .int .i64 a.am | 2 => .string a.cu | _ => undef
def legOf (C : Nat → Value) : LLeg := ⟨intOf (C 0), intOf (C 1), strOf (C 2)⟩
/-- An entry of the journal. -/
structure LEnt where
  id : Int
  bk : Int
  va : Int
  ki : Int
  au : Int
  pe : Int
  key : ByteArray
  tx : ByteArray
  lA : Option Addr
  ln : Nat
  lc : Nat
  ch : Int
  legs : Nat → LLeg
def entC (e : LEnt) : Nat → Value
  | 0 => .int .i64 e.id | 1 => .int .i64 e.bk | 2 => .int .i64 e.va | 3 => .int .i64 e.ki | 4 => .int .i64 e.au | 5 => .int .i64 e.pe | 6 => .string e.key | 7 => .string e.tx | 8 => .slice e.lA e.ln e.lc | 9 => .int .u64 e.ch | _ => undef
/-- A posting. -/
structure LPos where
  en : Int
  dy : Int
  am : Int
  tx : ByteArray
def posC (p : LPos) : Nat → Value
  | 0 => .int .i64 p.en | 1 => .int .i64 p.dy | 2 => .int .i64 p.am | 3 => .string p.tx | _ => undef
def RowAcc (w : World) (A : Option Addr) (n : Nat) (a : Nat → LAcc) : Prop := RowS w A n 7 (fun k => accC (a k))
def RowLeg (w : World) (A : Option Addr) (n : Nat) (a : Nat → LLeg) : Prop := RowS w A n 3 (fun k => legC (a k))
def RowEnt (w : World) (A : Option Addr) (n : Nat) (a : Nat → LEnt) : Prop := RowS w A n 10 (fun k => entC (a k)) ∧ ∀ k, k < n → RowLeg w (a k).lA (a k).ln (a k).legs
def RowPos (w : World) (A : Option Addr) (n : Nat) (a : Nat → LPos) : Prop := RowS w A n 4 (fun k => posC (a k))
theorem RowAcc.below {w w' : World} {A : Option Addr} {n : Nat} {a : Nat → LAcc} (h : RowAcc w A n a) (hb : Below w.heap.size w w') : RowAcc w' A n a := RowS.below h hb
theorem RowLeg.below {w w' : World} {A : Option Addr} {n : Nat} {a : Nat → LLeg} (h : RowLeg w A n a) (hb : Below w.heap.size w w') : RowLeg w' A n a := RowS.below h hb
theorem RowPos.below {w w' : World} {A : Option Addr} {n : Nat} {a : Nat → LPos} (h : RowPos w A n a) (hb : Below w.heap.size w w') : RowPos w' A n a := RowS.below h hb
theorem RowEnt.below {w w' : World} {A : Option Addr} {n : Nat} {a : Nat → LEnt} (h : RowEnt w A n a) (hb : Below w.heap.size w w') : RowEnt w' A n a := ⟨RowS.below h.1 hb, fun k hk => (h.2 k hk).below hb⟩
theorem RowAcc.at {w : World} {A : Option Addr} {n k : Nat} {a : Nat → LAcc} (h : RowAcc w A n a) (hk : k < n) : ∃ b off, A = some ⟨b, off, none⟩ ∧ b < w.heap.size ∧
    w.cell? ⟨b, off + k * 7, none⟩ = some (.int .i64 (a k).id) ∧ w.cell? ⟨b, off + k * 7 + 1, none⟩ = some (.int .i64 (a k).op) ∧ w.cell? ⟨b, off + k * 7 + 2, none⟩ = some (.int .i64 (a k).cl) ∧ w.cell? ⟨b, off + k * 7 + 3, none⟩ = some (.int .i64 (a k).ex) ∧
    w.cell? ⟨b, off + k * 7 + 4, none⟩ = some (.string (a k).ow) ∧ w.cell? ⟨b, off + k * 7 + 5, none⟩ = some (.string (a k).pr) ∧ w.cell? ⟨b, off + k * 7 + 6, none⟩ = some (.string (a k).nu) := by
  obtain ⟨b, off, e, hlt, hc⟩ := RowS.at h hk
  exact ⟨b, off, e, hlt, hc 0 (by omega), hc 1 (by omega), hc 2 (by omega), hc 3 (by omega), hc 4 (by omega), hc 5 (by omega), hc 6 (by omega)⟩
theorem RowLeg.at {w : World} {A : Option Addr} {n k : Nat} {a : Nat → LLeg} (h : RowLeg w A n a) (hk : k < n) : ∃ b off, A = some ⟨b, off, none⟩ ∧ b < w.heap.size ∧
    w.cell? ⟨b, off + k * 3, none⟩ = some (.int .i64 (a k).ac) ∧ w.cell? ⟨b, off + k * 3 + 1, none⟩ = some (.int .i64 (a k).am) ∧ w.cell? ⟨b, off + k * 3 + 2, none⟩ = some (.string (a k).cu) := by
  obtain ⟨b, off, e, hlt, hc⟩ := RowS.at h hk
  exact ⟨b, off, e, hlt, hc 0 (by omega), hc 1 (by omega), hc 2 (by omega)⟩
theorem RowPos.at {w : World} {A : Option Addr} {n k : Nat} {a : Nat → LPos} (h : RowPos w A n a) (hk : k < n) : ∃ b off, A = some ⟨b, off, none⟩ ∧ b < w.heap.size ∧
    w.cell? ⟨b, off + k * 4, none⟩ = some (.int .i64 (a k).en) ∧ w.cell? ⟨b, off + k * 4 + 1, none⟩ = some (.int .i64 (a k).dy) ∧ w.cell? ⟨b, off + k * 4 + 2, none⟩ = some (.int .i64 (a k).am) ∧ w.cell? ⟨b, off + k * 4 + 3, none⟩ = some (.string (a k).tx) := by
  obtain ⟨b, off, e, hlt, hc⟩ := RowS.at h hk
  exact ⟨b, off, e, hlt, hc 0 (by omega), hc 1 (by omega), hc 2 (by omega), hc 3 (by omega)⟩
theorem RowEnt.at {w : World} {A : Option Addr} {n k : Nat} {a : Nat → LEnt} (h : RowEnt w A n a) (hk : k < n) : ∃ b off, A = some ⟨b, off, none⟩ ∧ b < w.heap.size ∧
    w.cell? ⟨b, off + k * 10, none⟩ = some (.int .i64 (a k).id) ∧ w.cell? ⟨b, off + k * 10 + 1, none⟩ = some (.int .i64 (a k).bk) ∧ w.cell? ⟨b, off + k * 10 + 2, none⟩ = some (.int .i64 (a k).va) ∧ w.cell? ⟨b, off + k * 10 + 3, none⟩ = some (.int .i64 (a k).ki) ∧
    w.cell? ⟨b, off + k * 10 + 4, none⟩ = some (.int .i64 (a k).au) ∧ w.cell? ⟨b, off + k * 10 + 5, none⟩ = some (.int .i64 (a k).pe) ∧ w.cell? ⟨b, off + k * 10 + 6, none⟩ = some (.string (a k).key) ∧ w.cell? ⟨b, off + k * 10 + 7, none⟩ = some (.string (a k).tx) ∧
    w.cell? ⟨b, off + k * 10 + 8, none⟩ = some (.slice (a k).lA (a k).ln (a k).lc) ∧ w.cell? ⟨b, off + k * 10 + 9, none⟩ = some (.int .u64 (a k).ch) := by
  obtain ⟨b, off, e, hlt, hc⟩ := RowS.at h.1 hk
  exact ⟨b, off, e, hlt, hc 0 (by omega), hc 1 (by omega), hc 2 (by omega), hc 3 (by omega), hc 4 (by omega), hc 5 (by omega), hc 6 (by omega), hc 7 (by omega), hc 8 (by omega), hc 9 (by omega)⟩
/-- Minus the sum of an account's legs among the first i, as ints are summed. -/
def mvs (legs : Nat → LLeg) (id : Int) : Nat → Int
  | 0 => 0
  | i + 1 => if (legs i).ac = id then wrap64 (mvs legs id i - (legs i).am) else mvs legs id i
/-- There is a leg of the account among the first i. -/
def mvb (legs : Nat → LLeg) (id : Int) : Nat → Bool
  | 0 => false
  | i + 1 => mvb legs id i || (legs i).ac == id
theorem wrap64_bd (x : Int) : -9223372036854775808 ≤ wrap64 x ∧ wrap64 x ≤ 9223372036854775807 := by unfold wrap64; omega
theorem wrap64_id {x : Int} (h : IIn x) : wrap64 x = x := by unfold IIn at h; unfold wrap64; omega
theorem mvs_bd (legs : Nat → LLeg) (id : Int) : ∀ i, -9223372036854775808 ≤ mvs legs id i ∧ mvs legs id i ≤ 9223372036854775807
  | 0 => by unfold mvs; omega
  | i + 1 => by
    unfold mvs
    split
    · exact wrap64_bd _
    · exact mvs_bd legs id i
/-- What an entry moves, and whether it touches the account. -/
def mvE (e : LEnt) (id : Int) : Int := mvs e.legs id e.ln
def tchE (e : LEnt) (id : Int) : Bool := mvb e.legs id e.ln
theorem mvE_bd (e : LEnt) (id : Int) : -9223372036854775808 ≤ mvE e id ∧ mvE e id ≤ 9223372036854775807 := mvs_bd _ _ _
/-- The sum of what the chosen ones of the first k entries move. -/
def sumE (E : Nat → LEnt) (id : Int) (p : LEnt → Bool) : Nat → Int
  | 0 => 0
  | k + 1 => if p (E k) then wrap64 (sumE E id p k + mvE (E k) id) else sumE E id p k
theorem sumE_bd (E : Nat → LEnt) (id : Int) (p : LEnt → Bool) : ∀ i, -9223372036854775808 ≤ sumE E id p i ∧ sumE E id p i ≤ 9223372036854775807
  | 0 => by unfold sumE; omega
  | i + 1 => by
    unfold sumE
    split
    · exact wrap64_bd _
    · exact sumE_bd E id p i
/-- The account with an Id, if there is one. -/
def fndA (a : Nat → LAcc) (id : Int) : Nat → Option Nat
  | 0 => none
  | n + 1 => match fndA a id n with
    | some k => some k
    | none => if (a n).id = id then some n else none
theorem fndA_some {a : Nat → LAcc} {id : Int} : ∀ {n k : Nat}, fndA a id n = some k → k < n ∧ (a k).id = id ∧ ∀ j, j < k → (a j).id ≠ id
  | 0, k, h => by cases h
  | n + 1, k, h => by
    unfold fndA at h
    cases hf : fndA a id n with
    | some k' =>
      rw [hf] at h
      simp only [Option.some.injEq] at h
      subst h
      obtain ⟨h1, h2, h3⟩ := fndA_some hf
      exact ⟨by omega, h2, h3⟩
    | none =>
      rw [hf] at h
      simp only at h
      split at h
      · rename_i he
        simp only [Option.some.injEq] at h
        subst h
        refine ⟨by omega, he, fun j hj => ?_⟩
        exact fndA_none hf j hj
      · cases h
where
  fndA_none {a : Nat → LAcc} {id : Int} : ∀ {n : Nat}, fndA a id n = none → ∀ j, j < n → (a j).id ≠ id
  | 0, _, j, hj => by omega
  | n + 1, h, j, hj => by
    unfold fndA at h
    cases hf : fndA a id n with
    | some k' => rw [hf] at h; cases h
    | none =>
      rw [hf] at h
      simp only at h
      split at h
      · cases h
      · rename_i he
        rcases Nat.lt_succ_iff_lt_or_eq.1 hj with h1 | h1
        · exact fndA_none hf j h1
        · subst h1; exact he
theorem fndA_first {a : Nat → LAcc} {id : Int} {n k : Nat} (hk : k < n) (he : (a k).id = id) (hl : ∀ j, j < k → (a j).id ≠ id) : fndA a id n = some k := by
  cases hf : fndA a id n with
  | none => exact absurd he (fndA_some.fndA_none hf k hk)
  | some k' =>
    obtain ⟨h1, h2, h3⟩ := fndA_some hf
    rcases Nat.lt_trichotomy k k' with c | c | c
    · exact absurd he (h3 k c)
    · rw [c]
    · exact absurd h2 (hl k' c)
theorem fndA_no {a : Nat → LAcc} {id : Int} {n : Nat} (hl : ∀ j, j < n → (a j).id ≠ id) : fndA a id n = none := by
  cases hf : fndA a id n with
  | none => rfl
  | some k' => obtain ⟨h1, h2, _⟩ := fndA_some hf; exact absurd h2 (hl k' h1)
end Go.Proofs.YtodfpfbcjiganaaDoor
