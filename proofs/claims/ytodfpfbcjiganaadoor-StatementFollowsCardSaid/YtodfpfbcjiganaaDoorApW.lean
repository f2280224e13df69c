/- The append of RowM as a law on one operation, for a region that draws its order; a journal of one entry. -/
import Derived.Test.YtodfpfbcjiganaaDoorStE
namespace Go.Proofs.YtodfpfbcjiganaaDoor
set_option linter.unusedSimpArgs false
set_option linter.unusedVariables false
open Go.RowKit

theorem wp_append_own2 {P : Program} {w : World} {o : Oper} {a : Act} {K : Act → World → Prop} {Q : Exit → Act → World → Prop} (s x : Operand) (t : TypeId)
    (ho : o.op = .call { callee := .builtin .append, args := #[s, x], argTypes := #[t, t] })
    (base : Nat) (e : TypeId) (i : TypeInfo) (z : Value) (size bytes : Nat) (ht : P.underlying t = some (.slice e)) (hi : P.info? e = some i) (hz : i.zero = some z)
    (hsize : i.size = size) (hby : i.bytes = bytes) (hzs : z.cells.size = size) (hsz : 0 < size)
    (v : Value) (n : Nat) (xs : List Value) (hs : a.eval s = v) (hown : w.ownsRow base e size v n xs)
    (ad : Addr) (m c : Nat) (news : List Value) (hx : a.eval x = .slice (some ad) m c) (hl : news.length = m * size) (hnews : ∀ j u, news[j]? = some u → w.cell? (ad.add j) = some u) (h1 : ∀ u ∈ news, u.oneCell' = true)
    (h63 : n + m ≤ maxLen) (hbytes : (n + m) * bytes ≤ 140737488355328) (hbase : base ≤ w.heap.size)
    (h : ∀ A' c' w', w'.ownsRow base e size (.slice A' (n + m) c') (n + m) (xs ++ news) → w.grownBy w' v.ownBlock → K (a.put o.dst (.slice A' (n + m) c')) w') : o.wp P a w K Q := by
  obtain ⟨A', c', w', hr, h2, h3, _⟩ := append_own2 (P := P) w base t o.type e i z size bytes ht hi hz hsize hby hzs hsz v n xs hown ad m c news hl hnews h1 h63 hbytes hbase
  unfold Oper.wp execOp
  simp only [ho, resolve, invoke, builtin, Sem.run_bind, Sem.run_pure, Result.andThen_ok, List.map_toArray, List.map_cons, List.map_nil, hs, hx, hr]
  exact h A' c' w' h2 h3
/-- One entry of a journal is a journal. -/
theorem Jrn.one {w : World} {b off n k : Nat} {E : Nat → LEnt} (h : Jrn w (some ⟨b, off, none⟩) n E) (hk : k < n) : Jrn w (some ⟨b, off + k * 10, none⟩) 1 (fun _ => E k) := by
  refine ⟨⟨fun _ => ?_, fun j _ => h.row.2 k hk⟩, fun j _ => h.legs k hk⟩
  obtain ⟨b', off', e, hlt, hc⟩ := h.row.1 (by omega)
  injection e with e
  injection e with e1 e2
  subst e1 e2
  refine ⟨b, off + k * 10, rfl, hlt, fun i j hi hj => ?_⟩
  obtain rfl : i = 0 := by omega
  rw [Nat.zero_mul, Nat.zero_add, Nat.add_assoc]
  exact hc k j hk hj
theorem sum_one (e : LEnt) (id : Int) : sumE (fun _ => e) id (fun _ => true) 1 = mvE e id := by
  show (if true = true then wrap64 (0 + mvE e id) else 0) = _
  rw [if_pos rfl, Int.zero_add, wrap64_id]
  have := mvE_bd e id
  unfold IIn
  omega
/-- A grown row keeps what SB says, where the row's own block is among the free ones. -/
theorem SB.grown {N : Nat} {X : List Nat} {W w w' : World} {row : Option Nat} (h : SB N X W w) (hg : w.grownBy w' row) (hN : N ≤ w.heap.size) (hr : ∀ k, row = some k → k ∈ X) : SB N X W w' := fun b o hb hx =>
  (World.cell?_of_block (a := ⟨b, o, none⟩) (hg.block b (Nat.lt_of_lt_of_le hb hN) fun e => hx (hr b e.symm))).trans (h b o hb hx)
/-- The own block of a row, or a block of ours if it has none. -/
theorem own_gb {w : World} {base : Nat} {e : TypeId} {size n : Nat} {v : Value} {xs : List Value} (h : w.ownsRow base e size v n xs) (g : Nat) (hg : g < w.heap.size) (hgb : g ≤ base) :
    ∃ gb, (∀ k, v.ownBlock = some k → k = gb) ∧ g ≤ gb ∧ gb < w.heap.size := by
  cases hv : v.ownBlock with
  | none => exact ⟨g, ⟨fun k hk => (by cases hk), Nat.le_refl _, hg⟩⟩
  | some k =>
    have := h.lt k hv
    exact ⟨k, ⟨fun k' hk => (Option.some.inj hk).symm, by omega, this.2⟩⟩
end Go.Proofs.YtodfpfbcjiganaaDoor
