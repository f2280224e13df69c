/- The text of a statement in plain words; blocks that a region leaves alone. -/
import Derived.Test.YtodfpfbcjiganaaDoorTxM
import Derived.Test.YtodfpfbcjiganaaDoorStJ
namespace Go.Proofs.YtodfpfbcjiganaaDoor
set_option linter.unusedSimpArgs false
set_option linter.unusedVariables false
open Go.RowKit

/-- The blocks below N, and those of L, are as they were in W. -/
def SC (N : Nat) (L : List Nat) (W w : World) : Prop := ∀ b, (b < N ∨ b ∈ L) → w.heap[b]? = W.heap[b]?
section
variable {N : Nat} {L : List Nat} {W w w' : World}
theorem SC.refl : SC N L W W := fun _ _ => rfl
theorem SC.drew (h : SC N L W w) : SC N L W w.drew := h
theorem SC.cell (h : SC N L W w) (b o : Nat) (hb : b < N ∨ b ∈ L) : w.cell? ⟨b, o, none⟩ = W.cell? ⟨b, o, none⟩ := World.cell?_of_block (a := ⟨b, o, none⟩) (h b hb)
theorem SC.below {B : Nat} (h : SC N L W w) (hb : Below B w w') (hN : N ≤ B) (hL : ∀ x ∈ L, x < B) : SC N L W w' := fun b hx => (hb.block b (by rcases hx with h1 | h1; omega; exact hL b h1)).trans (h b hx)
theorem SC.alloc (h : SC N L W w) (hN : N ≤ w.heap.size) (hL : ∀ x ∈ L, x < w.heap.size) (o : Obj) : SC N L W (w.alloc o) := h.below ((Below.refl _ _).alloc (Nat.le_refl _) o) hN hL
theorem SC.tx {V : World} {b g : Nat} {bd bd' : Bool} {bs bs' : List UInt8} (h : SC N L W w) (t : TxS V b g bd bs w) (t' : TxS V b g bd' bs' w') (hk : KpB b g w w') (hN : N ≤ V.heap.size)
    (hL : ∀ x ∈ L, x ≠ b ∧ x ≠ g ∧ ∃ c ty fz, W.heap[x]? = some (.cells c ty fz) ∧ ty ≠ 5) : SC N L W w' := fun x hx => by
  rcases Nat.lt_or_ge x N with h1 | h1
  · rw [t'.bel.block x (by omega), ← t.bel.block x (by omega)]; exact h x hx
  · have hx2 : x ∈ L := hx.resolve_left (by omega)
    obtain ⟨n1, n2, c, ty, fz, e, hne⟩ := hL x hx2
    have e1 := (h x hx).trans e
    rw [hk x _ e1 n1 n2 (fun c' fz' e2 => by injection e2 with _ e3 _; exact hne e3), e]
end
theorem words_new {w : World} {xs : List (List UInt8)} {cs : Array Value} {t : TypeId} (h : cs.toList = (asB xs).map Value.string) (j : Nat) (x : ByteArray) (hx : (asB xs)[j]? = some x) : (w.alloc (.cells cs t)).cell? ⟨w.heap.size, j, none⟩ = some (.string x) :=
  by
  rw [cell_of_cells (Go.Deep.blk_alloc_new w (.cells cs t)) j]
  have := congrArg (fun l : List Value => l[j]?) h
  simp only [List.getElem?_map, hx] at this
  simpa using this
theorem TxS.start (w : World) : TxS w w.heap.size (w.heap.size + 1) false [] ((w.alloc (.cells #[.pointer none, .slice none 0 0] 76)).alloc (.cells #[.bool false] 4)) := by
  refine ⟨.inl ⟨Nat.le_refl _, .slice none 0 0, ?_, World.ownsRowF_nil _ _ _ _, by simp [Value.ownBlock]⟩, ?_, ((Below.refl _ _).alloc (Nat.le_refl _) _).alloc (by simp) _, Nat.le_refl _, by omega, by omega⟩
  · exact ((Below.refl _ _).alloc (Nat.le_refl _) _).block _ (by simp) |>.trans (Go.Deep.blk_alloc_new _ _)
  · have := Go.Deep.blk_alloc_new (w.alloc (.cells #[.pointer none, .slice none 0 0] 76)) (.cells #[.bool false] 4)
    simpa using this
def wStatement : List UInt8 := [115, 116, 97, 116, 101, 109, 101, 110, 116]
def wAccount : List UInt8 := [97, 99, 99, 111, 117, 110, 116]
def wTo : List UInt8 := [116, 111]
def wOpening : List UInt8 := [111, 112, 101, 110, 105, 110, 103]
def wClosing : List UInt8 := [99, 108, 111, 115, 105, 110, 103]
noncomputable def lineL (p : LPos) (d : Int) : List UInt8 := wJ [fmtL p.dy, amtL p.am d, p.tx.data.toList]
noncomputable def linesL (P : Nat → LPos) (d : Int) : Nat → List UInt8 | 0 => [] | k + 1 => linesL P d k ++ lineL (P k) d
def badL (P : Nat → LPos) (d : Int) : Nat → Bool | 0 => false | k + 1 => badL P d k || !mnB (P k).am d
noncomputable def headL (ac no f t op d : Int) : List UInt8 := ([] ++ wJ [wStatement, Lib.itoa no, wAccount, Lib.itoa ac] ++ wJ [fmtL f, wTo, fmtL t]) ++ wJ [wOpening, amtL op d]
noncomputable def txtL (ac no f t op cl : Int) (P : Nat → LPos) (n : Nat) (d : Int) : List UInt8 := headL ac no f t op d ++ linesL P d n ++ wJ [wClosing, amtL cl d]
def badS (op cl : Int) (P : Nat → LPos) (n : Nat) (d : Int) : Bool := (!mnB op d || badL P d n) || !mnB cl d
/-- What Text answers. -/
def txtE (ac no f t op cl : Int) (P : Nat → LPos) (n : Nat) (d : Int) : Int := if chkS ac no f t op cl P n = 0 then (if badS op cl P n d then 1 else 0) else chkS ac no f t op cl P n
noncomputable def txtR (ac no f t op cl : Int) (P : Nat → LPos) (n : Nat) (d : Int) : List UInt8 := if txtE ac no f t op cl P n d = 0 then txtL ac no f t op cl P n d else []
theorem wJ_2 (a b : List UInt8) : wJ [a, b] = a ++ 32 :: b ++ [10] := by simp [wJ, Lib.join, List.intercalate]
theorem wJ_3 (a b c : List UInt8) : wJ [a, b, c] = a ++ 32 :: (b ++ 32 :: c) ++ [10] := by simp [wJ, Lib.join, List.intercalate]
theorem wJ_4 (a b c d : List UInt8) : wJ [a, b, c, d] = a ++ 32 :: (b ++ 32 :: (c ++ 32 :: d)) ++ [10] := by simp [wJ, Lib.join, List.intercalate]
theorem fmtL_len (x : Int) : (fmtL x).length ≤ 10 := by
  cases hv : vday x with
  | true => rw [fmt_yes hv]; simp [d4, d2]
  | false => rw [fmt_no hv]; simp
theorem amtL_len (n d : Int) : (amtL n d).length ≤ 30 := by
  cases h : mnB n d with
  | false => rw [(amt_no h).1]; simp
  | true =>
    rw [(amt_yes h).1]
    obtain ⟨a, b, c, e⟩ := mnB_iff.1 h
    have h1 : (wholeL n.natAbs d.toNat).length ≤ 20 := by
      unfold wholeL
      rw [Lib.decDigits_length]
      exact Lib.nDigits_le20 _ (Nat.lt_of_le_of_lt (Nat.div_le_self _ _) (by omega))
    unfold mnL
    have h2 : ((if n < 0 then [45] else []) : List UInt8).length ≤ 1 := by split <;> simp
    have h3 : ((if d.toNat = 0 then [] else 46 :: dgs n.natAbs d.toNat) : List UInt8).length ≤ 5 := by
      split
      · simp
      · rw [List.length_cons, dgs_len]; omega
    rw [List.length_append, List.length_append]
    omega
theorem itoa_len {n : Int} (h : 0 ≤ n) (h2 : n ≤ 9223372036854775807) : (Lib.itoa n).length ≤ 20 := by
  obtain ⟨m, rfl⟩ : ∃ m : Nat, n = m := ⟨n.toNat, by omega⟩
  rw [Lib.itoa_nonneg, Lib.decDigits_length]
  exact Lib.nDigits_le20 _ (by omega)
theorem headL_len {ac no f t op d : Int} (h1 : 0 ≤ ac) (h2 : ac ≤ 9223372036854775807) (h3 : 0 ≤ no) (h4 : no ≤ 9223372036854775807) : (headL ac no f t op d).length ≤ 200 := by
  have := itoa_len h1 h2
  have := itoa_len h3 h4
  have := fmtL_len f
  have := fmtL_len t
  have := amtL_len op d
  unfold headL
  rw [wJ_2, wJ_3, wJ_4]
  simp [wStatement, wAccount, wTo, wOpening]
  omega
theorem lineL_len {p : LPos} (d : Int) (h : p.tx.size ≤ 200) : (lineL p d).length ≤ 300 := by
  have := fmtL_len p.dy
  have := amtL_len p.am d
  have : p.tx.data.toList.length = p.tx.size := Array.length_toList
  unfold lineL
  rw [wJ_3]
  simp only [List.length_append, List.length_cons, List.length_nil]
  omega
theorem linesL_len {P : Nat → LPos} (d : Int) : ∀ {n : Nat}, (∀ k, k < n → (P k).tx.size ≤ 200) → (linesL P d n).length ≤ 300 * n
  | 0, _ => Nat.zero_le _
  | n + 1, h => by
    have h1 := linesL_len d (n := n) (fun k hk => h k (by omega))
    have h2 := lineL_len d (h n (by omega))
    unfold linesL
    rw [List.length_append]
    omega
theorem closing_len (cl d : Int) : (wJ [wClosing, amtL cl d]).length ≤ 50 := by
  have := amtL_len cl d
  rw [wJ_2]
  simp [wClosing]
  omega
end Go.Proofs.YtodfpfbcjiganaaDoor
