/- (*strings.Builder).WriteString at the seat, out of what the shelf lays for strings.Join; the state of a text that is being built. -/
import Derived.Test.YtodfpfbcjiganaaDoorTab
import Derived.Test.YtodfpfbcjiganaaDoorBkM
import Derived.Test.YtodfpfbcjiganaaDoorMnF
import Derived.Test.YtodfpfbcjiganaaDoorDfE
namespace Go.Proofs.YtodfpfbcjiganaaDoor
set_option linter.unusedSimpArgs false
set_option linter.unusedVariables false
open Go.RowKit

theorem lays166j : Go.Proofs.Lays.n166 Tryd.prog Tryd.lays156_ren := {
  mixed := Tryd.lays156.mixed
  f166 := Tryd.lays156.f166
  f240 := Tryd.lays156.f240
  f276 := Tryd.lays156.f276
  t0 := Tryd.lays156.t0
  a0 := Tryd.lays156.a0
  z0 := Tryd.lays156.z0
  v0 := Tryd.lays156.v0
  t3 := Tryd.lays156.t3
  a3 := Tryd.lays156.a3
  z3 := Tryd.lays156.z3
  v3 := Tryd.lays156.v3
  t4 := Tryd.lays156.t4
  a4 := Tryd.lays156.a4
  z4 := Tryd.lays156.z4
  v4 := Tryd.lays156.v4
  t9 := Tryd.lays156.t9
  a9 := Tryd.lays156.a9
  z9 := Tryd.lays156.z9
  v9 := Tryd.lays156.v9
  t20 := Tryd.lays156.t20
  a20 := Tryd.lays156.a20
  z20 := Tryd.lays156.z20
  v20 := Tryd.lays156.v20
  t37 := Tryd.lays156.t37
  a37 := Tryd.lays156.a37
  z37 := Tryd.lays156.z37
  v37 := Tryd.lays156.v37
  t70 := Tryd.lays156.t70
  a70 := Tryd.lays156.a70
  z70 := Tryd.lays156.z70
  v70 := Tryd.lays156.v70
  t72 := Tryd.lays156.t72
  a72 := Tryd.lays156.a72
  z72 := Tryd.lays156.z72
  v72 := Tryd.lays156.v72
  t75 := Tryd.lays156.t75
  a75 := Tryd.lays156.a75
  z75 := Tryd.lays156.z75
  v75 := Tryd.lays156.v75
  t164 := Tryd.lays156.t164
  a164 := Tryd.lays156.a164
  z164 := Tryd.lays156.z164
  v164 := Tryd.lays156.v164 }
/-- A builder keeps what it holds where nothing below the heap's end is touched. -/
theorem ownsF_below {w w' : World} {base : Nat} {e : TypeId} {size n : Nat} {v : Value} {xs : List Value} (h : w.ownsRowF base e size v n xs) (hb : Below w.heap.size w w') : w'.ownsRowF base e size v n xs := by
  refine ⟨h.1, ?_⟩
  rcases h.2 with hn | ⟨g, cap, cur, fz, hv, hg, hh, r⟩
  · exact .inl hn
  · exact .inr ⟨g, cap, cur, fz, hv, hg, (hb.block g (heap_lt hh)).trans hh, r⟩
theorem bldAt_below {T e : TypeId} {B b : Nat} {p : Value} {bs : List Value} {w w' : World} (h : Lib.BuilderAtF T e B b p bs w) (hb : Below w.heap.size w w') : Lib.BuilderAtF T e B b p bs w' := by
  obtain ⟨h1, v, h2, h3, h4⟩ := h
  exact ⟨h1, v, (hb.block b (heap_lt h2)).trans h2, ownsF_below h3 hb, h4⟩
theorem bld_below {T e : TypeId} {B b : Nat} {bs : List Value} {w w' : World} (h : Lib.IsBuilderF T e B b bs w) (hb : Below w.heap.size w w') : Lib.IsBuilderF T e B b bs w' := h.imp (bldAt_below · hb) (bldAt_below · hb)
/-- A cell of another block, that is no row of bytes, may be written. -/
theorem bldAt_set {T e : TypeId} {B b g : Nat} {p : Value} {bs : List Value} {w : World} {c : Array Value} {t : TypeId} {fz : Nat × Nat} (h : Lib.BuilderAtF T e B b p bs w) (hg : w.heap[g]? = some (.cells c t fz)) (ht : t ≠ e) (hgb : g ≠ b) (o : Nat) (u : Value) : Lib.BuilderAtF T e B b p bs (w.setCell ⟨g, o, none⟩ u) := by
  obtain ⟨h1, v, h2, h3, h4⟩ := h
  refine ⟨h1, v, ?_, ?_, h4⟩
  · rw [Below.heap_setCell _ _ _ _ (fun e => hgb e.symm)]; exact h2
  · refine h3.kept (row := some g) ⟨rfl, rfl, rfl, by simp [World.setCell], fun k _ hk => Below.heap_setCell _ _ _ _ (fun e => hk (by simp [e]))⟩ ?_
    cases hv : v.ownBlock with
    | none => exact .inl rfl
    | some k =>
      refine .inr fun hk => ?_
      obtain ⟨c', fz', hk'⟩ := Lib.ownsRowF_kind h3 k hv
      obtain rfl : k = g := Option.some.inj hk
      rw [hg] at hk'
      injection hk' with hk'
      injection hk' with _ e2 _
      exact ht e2
theorem bld_set {T e : TypeId} {B b g : Nat} {bs : List Value} {w : World} {c : Array Value} {t : TypeId} {fz : Nat × Nat} (h : Lib.IsBuilderF T e B b bs w) (hg : w.heap[g]? = some (.cells c t fz)) (ht : t ≠ e) (hgb : g ≠ b) (o : Nat) (u : Value) : Lib.IsBuilderF T e B b bs (w.setCell ⟨g, o, none⟩ u) := h.imp (bldAt_set · hg ht hgb o u) (bldAt_set · hg ht hgb o u)
/-- A text under construction: the builder in block b, the mark of a bad amount in block g. -/
structure TxS (W : World) (b g : Nat) (bd : Bool) (bs : List UInt8) (w : World) : Prop where
  bld : Lib.IsBuilderF 76 5 b b (Lib.byteCells bs) w
  bad : w.heap[g]? = some (.cells #[.bool bd] 4 (0, 0))
  bel : Below W.heap.size W w
  wb : W.heap.size ≤ b
  gb : g ≠ b
  wg : W.heap.size ≤ g
section
variable {W w w' : World} {b g : Nat} {bd : Bool} {bs : List UInt8}
theorem TxS.below (h : TxS W b g bd bs w) (hb : Below w.heap.size w w') : TxS W b g bd bs w' :=
  ⟨bld_below h.bld hb, (hb.block g (heap_lt h.bad)).trans h.bad, h.bel.trans (hb.mono h.bel.size), h.wb, h.gb, h.wg⟩
theorem TxS.alloc (h : TxS W b g bd bs w) (o : Obj) : TxS W b g bd bs (w.alloc o) := h.below ((Below.refl _ _).alloc (Nat.le_refl _) o)
theorem TxS.drew (h : TxS W b g bd bs w) : TxS W b g bd bs w.drew := h.below (Below.refl _ _).drew
theorem TxS.set (h : TxS W b g bd bs w) (v : Bool) : TxS W b g v bs (w.setCell ⟨g, 0, none⟩ (.bool v)) :=
  ⟨bld_set h.bld h.bad (by decide) h.gb _ _, one_setCell h.bad, h.bel.setCell h.wg _, h.wb, h.gb, h.wg⟩
theorem TxS.tab (h : TxS W b g bd bs w) (ht : Tab W) : Tab w := ht.below h.bel
theorem TxS.lt (h : TxS W b g bd bs w) : b < w.heap.size := by
  rcases h.bld with ⟨_, v, hb, _⟩ | ⟨_, v, hb, _⟩ <;> exact heap_lt hb
end
/-- All blocks but the builder's, the mark's and the rows of bytes stand. -/
def KpB (b g : Nat) (w w' : World) : Prop := ∀ k o, w.heap[k]? = some o → k ≠ b → k ≠ g → (∀ c fz, o ≠ .cells c 5 fz) → w'.heap[k]? = some o
theorem KpB.of_below {b g : Nat} {w w' : World} (hb : Below w.heap.size w w') : KpB b g w w' := fun k _ h _ _ _ => (hb.block k (heap_lt h)).trans h
theorem KpB.trans {b g : Nat} {w w1 w2 : World} (h : KpB b g w w1) (k : KpB b g w1 w2) : KpB b g w w2 := fun i o hi hb hg ho => k i o (h i o hi hb hg ho) hb hg ho
/-- One line of the text: the words, parted by a space, and the line's end. -/
def wJ (xs : List (List UInt8)) : List UInt8 := Lib.join xs [32] ++ [10]
def asB (xs : List (List UInt8)) : List ByteArray := xs.map fun l => ⟨l.toArray⟩
theorem asB_map (xs : List (List UInt8)) : (asB xs).map (·.data.toList) = xs := by unfold asB; rw [List.map_map]; exact List.map_id xs
theorem asB_len (xs : List (List UInt8)) : (asB xs).length = xs.length := by unfold asB; simp
set_option maxHeartbeats 1000000 in
theorem put_any (W : World) (b g : Nat) (bd : Bool) (bs : List UInt8) (bk c : Nat) (xs : List (List UInt8)) (w : World) (h : TxS W b g bd bs w) (hcells : ∀ (j : Nat) x, (asB xs)[j]? = some x → w.cell? ⟨bk, j, none⟩ = some (.string x)) (hbk : bk < w.heap.size)
    (hN : xs.length ≤ 1000) (hcap : xs.length ≤ c) (hlen : bs.length + (wJ xs).length ≤ 140737488355328) :
    Calls Tryd.prog 30 #[.slice (some ⟨bk, 0, none⟩) xs.length c, .pointer (some ⟨b, 0, none⟩)] w fun e w' => e = .returned (.tuple #[]) ∧ TxS W b g bd (bs ++ wJ xs) w' ∧ KpB b g w w' := by
  have hl2 : (wJ xs).length = (Lib.join xs [32]).length + 1 := by unfold wJ; simp
  have hj := Tryd.strings_Join bk 0 c (asB xs) ⟨#[32]⟩ w (by intro j x hx; rw [Nat.zero_add]; exact hcells j x hx) hbk (by rw [asB_len]; omega) (by rw [asB_len]; exact hcap) (by rw [asB_map]; show (Lib.join xs [32]).length ≤ _; omega)
  rw [asB_map, asB_len] at hj
  have HJ := hide hj
  have HH := hide h
  have hl3 : (Lib.join xs [32]).length ≤ 140737488355328 := by omega
  have HC := hide (show (⟨(Lib.join xs [32]).toArray⟩ : ByteArray) ++ (⟨#[10]⟩ : ByteArray) = ⟨(wJ xs).toArray⟩ from bcat _ [10])
  clear hj hcells h
  go_enter Tryd.func30, Tryd.ntmps30
  go_wp2_with fail
  refine HJ.out.mono ?_
  rintro e w1 ⟨rfl, hb⟩
  have h1 := HH.out.below hb
  go_wp2_with fail
  rw [show (Lib.join xs [32] : List UInt8) = Lib.join xs [32] from rfl, HC.out]
  refine (Go.Proofs.Any.Builder_WriteString_k lays166j Tryd.Builder_Extra_156 b b (Lib.byteCells bs) ⟨(wJ xs).toArray⟩ w1 h1.bld (by rw [Lib.byteCells_length, bsize]; exact hlen) (Nat.le_of_lt h1.lt)).mono ?_
  rintro e w2 ⟨rfl, hbd, hbe, hok⟩
  go_wp2_with fail
  go_end0
  refine ⟨rfl, ⟨.inr ?_, hok g _ h1.bad (by have := h1.gb; simpa using this) (fun c fz e => by injection e with _ e2 _; exact absurd e2 (by decide)), h1.bel.trans (hbe.mono h1.wb), h1.wb, h1.gb, h1.wg⟩, (KpB.of_below hb).trans (fun k o hk hkb _ ho => hok k o hk (by simpa using hkb) ho)⟩
  rw [Lib.byteCells_append]
  exact hbd
theorem amtE_ne {n d : Int} : (amtE n d != 0) = !mnB n d := by unfold amtE; cases mnB n d <;> rfl
/-- The amount of a line: its text, and the mark where it is none. -/
theorem amount_any (W : World) (b g : Nat) (bd : Bool) (bs : List UInt8) (q : Nat) (n d : Int) (w : World) (h : TxS W b g bd bs w) (ht : Tab W) (hq : q < W.heap.size) (hd : W.cell? ⟨q, 0, none⟩ = some (.int .i64 d)) :
    Calls Tryd.prog 33 #[.int .i64 n, .pointer (some ⟨q, 0, none⟩), .pointer (some ⟨g, 0, none⟩)] w fun e w' => e = .returned (.string ⟨(amtL n d).toArray⟩) ∧ TxS W b g (bd || !mnB n d) bs w' ∧ KpB b g w w' := by
  have HH := hide h
  have HT := hide (h.tab ht)
  have hd0 := (h.bel.cell (p := ⟨q, 0, none⟩) hq).trans hd
  have hqz : q < w.heap.size := Nat.lt_of_lt_of_le hq h.bel.size
  clear h ht hd
  go_enter Tryd.func33, Tryd.ntmps33
  go_wp2_with fail
  refine (mformat_any n d _ HT.out).mono ?_
  rintro e w1 ⟨rfl, hb⟩
  have h1 := HH.out.below hb
  have hd1 := (hb.cell (p := ⟨q, 0, none⟩) hqz).trans hd0
  have hc := cell_of_one h1.bad
  have hf := free_of_one h1.bad
  have H1 := hide h1
  have HB := hide hb
  clear h1 hb
  cases bd with
  | true =>
    go_wp2_with fail
    go_ret
    exact ⟨rfl, by have := H1.out.set true; simpa using this, (KpB.of_below HB.out).trans (fun k o hk _ hkg _ => by rw [Below.heap_setCell _ _ _ _ hkg]; exact hk)⟩
  | false =>
    cases hm : mnB n d with
    | true =>
      have HE := hide (amt_yes hm).2
      have HMN := hide hm
      rw [HE.out]
      clear hm
      go_wp2_with fail
      go_ret
      exact ⟨rfl, by rw [HMN.out]; exact H1.out.set false, (KpB.of_below HB.out).trans (fun k o hk _ hkg _ => by rw [Below.heap_setCell _ _ _ _ hkg]; exact hk)⟩
    | false =>
      have HE := hide (amt_no hm).2
      have HMN := hide hm
      rw [HE.out]
      clear hm
      go_wp2_with fail
      go_ret
      exact ⟨rfl, by rw [HMN.out]; exact H1.out.set true, (KpB.of_below HB.out).trans (fun k o hk _ hkg _ => by rw [Below.heap_setCell _ _ _ _ hkg]; exact hk)⟩
end Go.Proofs.YtodfpfbcjiganaaDoor
